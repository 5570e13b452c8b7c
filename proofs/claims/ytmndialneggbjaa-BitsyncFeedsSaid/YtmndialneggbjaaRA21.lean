/-
  lemmas for the theorems of this claim. No conditions beyond those written in the statements.
-/
import Derived.Test.YtmndialneggbjaaQB21
import Derived.Test.YtmndialneggbjaaM21
set_option linter.unusedVariables false
set_option linter.unusedSimpArgs false
set_option linter.unnecessarySimpa false
namespace Go.Proofs.Sky
/-! chapter 21, plain: right bits -/
def Near (s I Q R : Int) (v : Int × Int) : Prop := ∃ ax ay : Int, 0 ≤ ax ∧ 0 ≤ ay ∧ ax + ay ≤ R ∧ -ax ≤ v.1 - s * I ∧ v.1 - s * I ≤ ax ∧ -ay ≤ v.2 - s * Q ∧ v.2 - s * Q ≤ ay
theorem Near.add {s I Q R I' Q' R' : Int} {v v' : Int × Int} (h : Near s I Q R v) (h' : Near s I' Q' R' v') : Near s (I + I') (Q + Q') (R + R') (v.1 + v'.1, v.2 + v'.2) := by
  obtain ⟨ax, ay, h1, h2, h3, h4, h5, h6, h7⟩ := h
  obtain ⟨bx, by', k1, k2, k3, k4, k5, k6, k7⟩ := h'
  exact ⟨ax + bx, ay + by', by omega, by omega, by omega, by simp only [Int.mul_add]; omega, by simp only [Int.mul_add]; omega, by simp only [Int.mul_add]; omega, by simp only [Int.mul_add]; omega⟩
theorem near_dot {I Q M R x y ax ay : Int} (hI : -M ≤ I ∧ I ≤ M) (hQ : -M ≤ Q ∧ Q ≤ M) (h1 : 0 ≤ ax) (h2 : 0 ≤ ay) (h3 : ax + ay ≤ R) (h4 : -ax ≤ x ∧ x ≤ ax) (h5 : -ay ≤ y ∧ y ≤ ay) : -(M * R) ≤ I * x + Q * y ∧ I * x + Q * y ≤ M * R := by
  have hM : 0 ≤ M := by omega
  have q1 := mul_bd3 I x M ax hI.1 hI.2 h4.1 h4.2
  have q2 := mul_bd3 Q y M ay hQ.1 hQ.2 h5.1 h5.2
  have q3 := Int.mul_nonneg hM (show 0 ≤ R - (ax + ay) by omega)
  rw [Int.mul_sub, Int.mul_add] at q3
  omega
theorem near_scl {s s' I Q R M : Int} {v v' : Int × Int} (h : Near s I Q R v) (h' : Near s' I Q R v') (hs : s = 1 ∨ s = -1) (hs' : s' = 1 ∨ s' = -1) (hM : 1 ≤ M) (hR : 4 * R ≤ M) (hI : -M ≤ I ∧ I ≤ M) (hQ : -M ≤ Q ∧ Q ≤ M) (hMx : I = M ∨ I = -M ∨ Q = M ∨ Q = -M) : scl v v' < 0 ↔ s ≠ s' := by
  obtain ⟨ax, ay, h1, h2, h3, h4, h5, h6, h7⟩ := h
  obtain ⟨bx, by', k1, k2, k3, k4, k5, k6, k7⟩ := h'
  obtain ⟨v1, v2⟩ := v
  obtain ⟨w1, w2⟩ := v'
  simp only at h4 h5 h6 h7 k4 k5 k6 k7
  have hR0 : 0 ≤ R := by omega
  obtain ⟨x, hx⟩ : ∃ x, x = v1 - s * I := ⟨_, rfl⟩
  obtain ⟨y, hy⟩ : ∃ y, y = v2 - s * Q := ⟨_, rfl⟩
  obtain ⟨x', hx'⟩ : ∃ x', x' = w1 - s' * I := ⟨_, rfl⟩
  obtain ⟨y', hy'⟩ : ∃ y', y' = w2 - s' * Q := ⟨_, rfl⟩
  rw [← hx] at h4 h5; rw [← hy] at h6 h7; rw [← hx'] at k4 k5; rw [← hy'] at k6 k7
  have t1 := near_dot (x := x') (y := y') hI hQ k1 k2 k3 ⟨k4, k5⟩ ⟨k6, k7⟩
  have t2 := near_dot (x := x) (y := y) hI hQ h1 h2 h3 ⟨h4, h5⟩ ⟨h6, h7⟩
  have t3 := near_dot (I := x) (Q := y) (M := R) (x := x') (y := y') (R := R) ⟨by omega, by omega⟩ ⟨by omega, by omega⟩ k1 k2 k3 ⟨k4, k5⟩ ⟨k6, k7⟩
  have e1 : v1 = s * I + x := by omega
  have e2 : v2 = s * Q + y := by omega
  have e3 : w1 = s' * I + x' := by omega
  have e4 : w2 = s' * Q + y' := by omega
  have q1 := Int.mul_nonneg (show 0 ≤ M by omega) (show 0 ≤ M - 4 * R by omega)
  have q2 := Int.mul_nonneg hR0 (show 0 ≤ M - 4 * R by omega)
  have q3 : 1 ≤ M * M := by
    have := Int.mul_le_mul (show 1 ≤ M from hM) (show 1 ≤ M from hM) (by omega) (by omega)
    omega
  rw [Int.mul_sub, show M * (4 * R) = 4 * (M * R) by rw [Int.mul_left_comm]] at q1
  rw [Int.mul_sub, show R * (4 * R) = 4 * (R * R) by rw [Int.mul_left_comm], Int.mul_comm R M] at q2
  have d : M * M ≤ I * I + Q * Q := by
    have a1 : 0 ≤ I * I := by rcases Int.le_total 0 I with h9 | h9; exact Int.mul_nonneg h9 h9; exact Int.mul_nonneg_of_nonpos_of_nonpos h9 h9
    have a2 : 0 ≤ Q * Q := by rcases Int.le_total 0 Q with h9 | h9; exact Int.mul_nonneg h9 h9; exact Int.mul_nonneg_of_nonpos_of_nonpos h9 h9
    rcases hMx with e | e | e | e
    · rw [e] at *; omega
    · rw [e] at *; rw [Int.neg_mul_neg] at *; omega
    · rw [e] at *; omega
    · rw [e] at *; rw [Int.neg_mul_neg] at *; omega
  have hsc : scl (v1, v2) (w1, w2) = s * s' * (I * I + Q * Q) + s * (I * x' + Q * y') + s' * (I * x + Q * y) + (x * x' + y * y') := by
    rw [e1, e2, e3, e4]
    unfold scl
    simp only
    rcases hs with rfl | rfl <;> rcases hs' with rfl | rfl <;>
      simp only [Int.one_mul, Int.neg_mul, Int.mul_neg, Int.neg_neg, Int.mul_one, Int.add_mul, Int.mul_add] <;>
      rw [Int.mul_comm x I, Int.mul_comm y Q] <;> omega
  rw [hsc]
  clear hsc e1 e2 e3 e4 hx hy hx' hy'
  generalize I * I + Q * Q = D at *
  generalize I * x' + Q * y' = T1 at *
  generalize I * x + Q * y = T2 at *
  generalize x * x' + y * y' = T3 at *
  generalize M * M = MM at *
  generalize M * R = MR at *
  generalize R * R = RR at *
  rcases hs with rfl | rfl <;> rcases hs' with rfl | rfl <;> simp <;> omega
theorem near_chunk {s I Q R : Int} (l : List (Int × Int)) (h : ∀ v ∈ l, Near s I Q R v) : Near s ((l.length : Int) * I) ((l.length : Int) * Q) ((l.length : Int) * R) (sumP l) := by
  induction l with
  | nil => exact ⟨0, 0, by omega, by omega, by simp, by simp [sumP], by simp [sumP], by simp [sumP], by simp [sumP]⟩
  | cons a r ih =>
    have := (h a (by simp)).add (ih (fun v hv => h v (by simp [hv])))
    simp only [sumP, List.length_cons]
    rw [show ((r.length + 1 : Nat) : Int) = 1 + (r.length : Int) by omega, Int.add_mul, Int.add_mul, Int.add_mul, Int.one_mul, Int.one_mul, Int.one_mul]
    exact this
def cntA (f : Nat → Int) : Nat → Nat
  | 0 => 0
  | i + 1 => cntA f i + (if 1 ≤ i ∧ f (i - 1) ≠ f i then 1 else 0)
theorem cntA_le (f : Nat → Int) (i : Nat) : cntA f i ≤ i := by
  induction i with
  | zero => exact Nat.le_refl _
  | succ i ih => unfold cntA; split <;> omega
theorem feed_right (p t : Nat) (hp : 1 ≤ p) (hp2 : p ≤ 20) (ht : t < p) (f : Nat → Int) (g : Nat → Int × Int) (N : Nat) (hN : N ≤ 10000) (hin : ∀ k, k < N → insP (g k) = true) (hsc : ∀ k, 1 ≤ k → k < N → (scl (g (k - 1)) (g k) < 0 ↔ f (k - 1) ≠ f k)) (hj : ∀ k, 1 ≤ k → k < N → f (k - 1) ≠ f k → k % p = t) :
    ∀ i, i ≤ N → feedL (List.replicate p 0) 0 (0, 0) ((List.range i).map g) = (((List.replicate p (0 : Int)).set t ((cntA f i : Nat) : Int), (i : Int), if i = 0 then (0, 0) else g (i - 1)), 0) := by
  intro i
  induction i with
  | zero =>
    intro _
    simp only [List.range_zero, List.map_nil, feedL, cntA]
    have : (List.replicate p (0 : Int)).set t ((0 : Nat) : Int) = List.replicate p 0 := by
      apply List.ext_getElem (by simp)
      intro j h1 h2
      rw [List.getElem_set]
      split <;> simp
    rw [this]; rfl
  | succ i ih =>
    intro hi
    have h9 := ih (by omega)
    rw [List.range_succ, List.map_append, feedL_append _ _ _ _ _ (by rw [h9]), h9]
    simp only [List.map_cons, List.map_nil, feedL]
    rw [if_pos (addE_in (hin i (by omega)) (by omega))]
    refine Prod.ext (Prod.ext ?_ (Prod.ext (by simp only; omega) (by simp))) rfl
    show chN _ _ _ _ = _
    unfold chN
    rw [cntA]
    by_cases h0 : i = 0
    · subst h0
      rw [if_neg (by omega), if_neg (by omega)]
      rfl
    · rw [if_neg h0]
      have hs := hsc i (by omega) (by omega)
      by_cases hx : f (i - 1) ≠ f i
      · have hm := hj i (by omega) (by omega) hx
        rw [if_pos ⟨by omega, hs.2 hx⟩, if_pos ⟨by omega, hx⟩, List.length_set, List.length_replicate, Int.toNat_natCast, hm, List.set_set]
        rw [List.getD_eq_getElem?_getD, List.getElem?_set, if_pos rfl, if_pos (by simpa using ht)]
        simp
      · rw [if_neg (fun h => hx (hs.1 h.2)), if_neg (fun h => hx h.2)]
        rfl
end Go.Proofs.Sky
