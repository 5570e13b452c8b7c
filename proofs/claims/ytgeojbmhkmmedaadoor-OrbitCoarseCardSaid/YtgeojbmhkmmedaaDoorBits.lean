/-
  lemmas for the theorems of this claim. No conditions beyond those written in the statements.
-/
import Derived.Laws.BitsLemmas
import Derived.Laws.DeepBits32
import Derived.Laws.Bits64b
set_option linter.unusedVariables false
set_option linter.unusedSimpArgs false
set_option linter.unnecessarySimpa false
namespace Go.Proofs.Sky
open Go
theorem and1 (n : Int) : bits .and .i64 n 1 = n % 2 := by
  have h1 : (BitVec.ofInt 64 1).toNat = 2 ^ 1 - 1 := by decide
  have key : (BitVec.ofInt 64 n &&& BitVec.ofInt 64 1).toNat = (n % ((2 ^ 64 : Nat) : Int)).toNat % 2 ^ 1 := by
    rw [BitVec.toNat_and, BitVec.toNat_ofInt, h1, Nat.and_two_pow_sub_one_eq_mod]
  show IntKind.i64.wrap ((BitVec.ofInt 64 n &&& BitVec.ofInt 64 1).toNat : Nat) = n % 2
  rw [key, IntKind.wrap_i64]
  omega
theorem or_i64 (y b : Int) (h0 : 0 ≤ y) (h1 : y < 4611686018427387904) (hb : b = 0 ∨ b = 1) : bits .or .i64 (y * 2) b = 2 * y + b := by
  rw [Int.mul_comm y 2]
  obtain ⟨m, rfl⟩ := Int.eq_ofNat_of_zero_le h0
  obtain ⟨c, rfl⟩ := Int.eq_ofNat_of_zero_le (show 0 ≤ b by omega)
  have e1 : (BitVec.ofInt 64 (2 * (m : Int))).toNat = 2 * m := by rw [BitVec.toNat_ofInt]; omega
  have e2 : (BitVec.ofInt 64 (c : Int)).toNat = c := by rw [BitVec.toNat_ofInt]; omega
  show IntKind.i64.wrap ((BitVec.ofInt 64 (2 * (m : Int)) ||| BitVec.ofInt 64 (c : Int)).toNat : Nat) = _
  rw [BitVec.toNat_or, e1, e2, or_bit (2 * m) c (by omega) (by omega), IntKind.wrap_i64]
  omega
theorem or_u64 (y b : Int) (h0 : 0 ≤ y) (h1 : y < 4611686018427387904) (hb : b = 0 ∨ b = 1) : bits .or .u64 (y * 2) b = 2 * y + b := by
  rw [Int.mul_comm y 2]
  obtain ⟨m, rfl⟩ := Int.eq_ofNat_of_zero_le h0
  obtain ⟨c, rfl⟩ := Int.eq_ofNat_of_zero_le (show 0 ≤ b by omega)
  have e1 : (BitVec.ofInt 64 (2 * (m : Int))).toNat = 2 * m := by rw [BitVec.toNat_ofInt]; omega
  have e2 : (BitVec.ofInt 64 (c : Int)).toNat = c := by rw [BitVec.toNat_ofInt]; omega
  show IntKind.u64.wrap ((BitVec.ofInt 64 (2 * (m : Int)) ||| BitVec.ofInt 64 (c : Int)).toNat : Nat) = _
  rw [BitVec.toNat_or, e1, e2, or_bit (2 * m) c (by omega) (by omega), IntKind.wrap_u64]
  omega
end Go.Proofs.Sky
