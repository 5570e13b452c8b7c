/-
  lemmas for the theorems of this claim. No conditions beyond those written in the statements.
-/
import Derived.Laws.BitsLemmas
import Derived.Laws.DeepBits32
import Derived.Laws.Bits64b
set_option linter.unusedVariables false
set_option linter.unusedSimpArgs false
set_option linter.unnecessarySimpa false
namespace Go.Proofs.Sky
open Go
theorem and1 (n : Int) : bits .and .i64 n 1 = n % 2 := by
  have h1 : (BitVec.ofInt 64 1).toNat = 2 ^ 1 - 1 := by decide
  have key : (BitVec.ofInt 64 n &&& BitVec.ofInt 64 1).toNat = (n % ((2 ^ 64 : Nat) : Int)).toNat % 2 ^ 1 := by
    rw [BitVec.toNat_and, BitVec.toNat_ofInt, h1, Nat.and_two_pow_sub_one_eq_mod]
  show IntKind.i64.wrap ((BitVec.ofInt 64 n &&& BitVec.ofInt 64 1).toNat : Nat) = n % 2
  rw [key, IntKind.wrap_i64]
  omega
theorem or_i64 (y b : Int) (h0 : 0 ≤ y) (h1 : y < 4611686018427387904) (hb : b = 0 ∨ b = 1) : bits .or .i64 (y * 2) b = 2 * y + b := by
  rw [Int.mul_comm y 2]
  obtain ⟨m, rfl⟩ := Int.eq_ofNat_of_zero_le h0
  obtain ⟨c, rfl⟩ := Int.eq_ofNat_of_zero_le (show 0 ≤ b by omega)
  have e1 : (BitVec.ofInt 64 (2 * (m : Int))).toNat = 2 * m := by rw [BitVec.toNat_ofInt]; omega
  have e2 : (BitVec.ofInt 64 (c : Int)).toNat = c := by rw [BitVec.toNat_ofInt]; omega
  show IntKind.i64.wrap ((BitVec.ofInt 64 (2 * (m : Int)) ||| BitVec.ofInt 64 (c : Int)).toNat : Nat) = _
  rw [BitVec.toNat_or, e1, e2, or_bit (2 * m) c (by omega) (by omega), IntKind.wrap_i64]
  omega
theorem or_u64 (y b : Int) (h0 : 0 ≤ y) (h1 : y < 4611686018427387904) (hb : b = 0 ∨ b = 1) : bits .or .u64 (y * 2) b = 2 * y + b := by
  rw [Int.mul_comm y 2]
  obtain ⟨m, rfl⟩ := Int.eq_ofNat_of_zero_le h0
  obtain ⟨c, rfl⟩ := Int.eq_ofNat_of_zero_le (show 0 ≤ b by omega)
  have e1 : (BitVec.ofInt 64 (2 * (m : Int))).toNat = 2 * m := by rw [BitVec.toNat_ofInt]; omega
  have e2 : (BitVec.ofInt 64 (c : Int)).toNat = c := by rw [BitVec.toNat_ofInt]; omega
  show IntKind.u64.wrap ((BitVec.ofInt 64 (2 * (m : Int)) ||| BitVec.ofInt 64 (c : Int)).toNat : Nat) = _
  rw [BitVec.toNat_or, e1, e2, or_bit (2 * m) c (by omega) (by omega), IntKind.wrap_u64]
  omega
end Go.Proofs.Sky

/-! natural numbers in digits of 24 bits: plain -/
namespace Go.Proofs.Sky
/-- the value of the first n digits -/
def pv (f : Nat → Int) : Nat → Int
  | 0 => 0
  | n + 1 => pv f n + f n * 16777216 ^ n
def dg (ds : List Int) (i : Nat) : Int := ds.getD i 0
def Dg (f : Nat → Int) : Prop := ∀ i, 0 ≤ f i ∧ f i < 16777216
theorem pv_congr {f g : Nat → Int} : ∀ n, (∀ i, i < n → f i = g i) → pv f n = pv g n := by
  intro n
  induction n with
  | zero => intro _; rfl
  | succ n ih => intro h; rw [pv, pv, ih (fun i hi => h i (by omega)), h n (by omega)]
theorem pw24_pos (n : Nat) : (1 : Int) ≤ 16777216 ^ n := by
  induction n with
  | zero => simp
  | succ n ih => rw [Int.pow_succ]; omega
theorem pv_bd {f : Nat → Int} (h : Dg f) : ∀ n, 0 ≤ pv f n ∧ pv f n < 16777216 ^ n := by
  intro n
  induction n with
  | zero => simp [pv]
  | succ n ih =>
    have h1 := h n
    have hp := pw24_pos n
    rw [pv, Int.pow_succ]
    have h2 : f n * 16777216 ^ n ≤ 16777215 * 16777216 ^ n := Int.mul_le_mul_of_nonneg_right (by omega) (by omega)
    have h3 : 0 ≤ f n * 16777216 ^ n := Int.mul_nonneg h1.1 (by omega)
    omega
theorem pv_zero {f : Nat → Int} (n : Nat) : ∀ m, n ≤ m → (∀ i, n ≤ i → i < m → f i = 0) → pv f m = pv f n := by
  intro m
  induction m with
  | zero => intro h _; obtain rfl : n = 0 := (by omega); rfl
  | succ m ih =>
    intro h hz
    rcases Nat.lt_or_ge m n with h1 | h1
    · obtain rfl : n = m + 1 := by omega
      rfl
    · rw [pv, ih h1 (fun i h2 h3 => hz i h2 (by omega)), hz m h1 (by omega)]; omega
theorem pv_mono {f : Nat → Int} (h : Dg f) (n : Nat) : ∀ m, n ≤ m → pv f n ≤ pv f m := by
  intro m
  induction m with
  | zero => intro h1; obtain rfl : n = 0 := (by omega); omega
  | succ m ih =>
    intro h1
    rcases Nat.lt_or_ge m n with h2 | h2
    · obtain rfl : n = m + 1 := by omega
      omega
    · have := ih h2
      have h3 : 0 ≤ f m * 16777216 ^ m := Int.mul_nonneg (h m).1 (by have := pw24_pos m; omega)
      rw [pv]; omega
theorem dg_out (ds : List Int) (i : Nat) (h : ds.length ≤ i) : dg ds i = 0 := by
  unfold dg; rw [List.getD_eq_getElem?_getD, List.getElem?_eq_none h]; rfl
/-- the value of a list of digits -/
def dv (ds : List Int) : Int := pv (dg ds) ds.length
theorem dv_at (ds : List Int) (n : Nat) (h : ds.length ≤ n) : pv (dg ds) n = dv ds := pv_zero ds.length n h (fun i h1 _ => dg_out ds i h1)
/-- no zero at the end -/
def Tr (ds : List Int) : Prop := ds.length = 0 ∨ dg ds (ds.length - 1) ≠ 0
theorem tr_ge {ds : List Int} (h : Tr ds) (hd : Dg (dg ds)) (h0 : 0 < ds.length) : 16777216 ^ (ds.length - 1) ≤ dv ds := by
  obtain ⟨n, hn⟩ : ∃ n, ds.length = n + 1 := ⟨ds.length - 1, by omega⟩
  rcases h with h | h
  · omega
  · unfold dv
    rw [hn] at h ⊢
    rw [Nat.add_sub_cancel] at h ⊢
    have h1 := hd n
    have h2 := pv_bd hd n
    have hp := pw24_pos n
    rw [pv]
    have h3 : 1 * 16777216 ^ n ≤ dg ds n * 16777216 ^ n := Int.mul_le_mul_of_nonneg_right (by omega) (by omega)
    omega
theorem pw24_le {a b : Nat} (h : a ≤ b) : (16777216 : Int) ^ a ≤ 16777216 ^ b := by
  obtain ⟨c, rfl⟩ := Nat.exists_eq_add_of_le h
  rw [Int.pow_add]
  have h1 := pw24_pos a
  have h2 := pw24_pos c
  have : (16777216 : Int) ^ a * 1 ≤ 16777216 ^ a * 16777216 ^ c := Int.mul_le_mul_of_nonneg_left h2 (by omega)
  omega
/-- a trimmed number below a power has so few digits -/
theorem tr_len {ds : List Int} (h : Tr ds) (hd : Dg (dg ds)) (m : Nat) (hv : dv ds < 16777216 ^ m) : ds.length ≤ m := by
  rcases Nat.lt_or_ge m ds.length with h1 | h1
  · have h2 := tr_ge h hd (by omega)
    have h3 := pw24_le (a := m) (b := ds.length - 1) (by omega)
    omega
  · exact h1
theorem len_lt {as bs : List Int} (ha : Dg (dg as)) (hb : Dg (dg bs)) (htb : Tr bs) (h : as.length < bs.length) : dv as < dv bs := by
  have h1 := (pv_bd ha as.length).2
  have h2 := tr_ge htb hb (by omega)
  have h3 := pw24_le (a := as.length) (b := bs.length - 1) (by omega)
  have h4 : dv as < 16777216 ^ as.length := h1
  omega
/-- the same from a place on -/
theorem pv_top {f g : Nat → Int} (n : Nat) : ∀ m, n ≤ m → (∀ i, n ≤ i → i < m → f i = g i) → pv f m - pv f n = pv g m - pv g n := by
  intro m
  induction m with
  | zero => intro h _; obtain rfl : n = 0 := (by omega); simp
  | succ m ih =>
    intro h hz
    rcases Nat.lt_or_ge m n with h1 | h1
    · obtain rfl : n = m + 1 := by omega
      omega
    · have := ih h1 (fun i h2 h3 => hz i h2 (by omega))
      rw [pv, pv, hz m h1 (by omega)]; omega
theorem top_lt {f g : Nat → Int} (hf : Dg f) (hg : Dg g) (n m : Nat) (h : n < m) (he : ∀ i, n < i → i < m → f i = g i) (hl : f n < g n) : pv f m < pv g m := by
  have h1 := pv_top (f := f) (g := g) (n + 1) m (by omega) (fun i h2 h3 => he i (by omega) h3)
  have h2 := pv_bd hf n
  have h3 := pv_bd hg n
  have e1 : pv f (n + 1) = pv f n + f n * 16777216 ^ n := rfl
  have e2 : pv g (n + 1) = pv g n + g n * 16777216 ^ n := rfl
  have h4 : (f n + 1) * 16777216 ^ n ≤ g n * 16777216 ^ n := Int.mul_le_mul_of_nonneg_right (by omega) (by have := pw24_pos n; omega)
  rw [Int.add_mul, Int.one_mul] at h4
  omega
/-- one step of a sum with a carry -/
theorem carry_step {f : Nat → Int} (k : Nat) (c X Y d : Int) (h : pv f k + c * 16777216 ^ k = X) (hf : f k = (c + d) % 16777216) (hy : Y = X + d * 16777216 ^ k) : pv f (k + 1) + (c + d) / 16777216 * 16777216 ^ (k + 1) = Y := by
  rw [pv, hf, Int.pow_succ, hy, ← h]
  have e : c + d = 16777216 * ((c + d) / 16777216) + (c + d) % 16777216 := by omega
  have e2 : (c + d) * 16777216 ^ k = (16777216 * ((c + d) / 16777216) + (c + d) % 16777216) * 16777216 ^ k := congrArg (· * 16777216 ^ k) e
  rw [Int.add_mul, Int.add_mul, Int.mul_assoc, Int.mul_left_comm] at e2
  rw [Int.mul_comm (16777216 ^ k) 16777216]
  omega
end Go.Proofs.Sky
