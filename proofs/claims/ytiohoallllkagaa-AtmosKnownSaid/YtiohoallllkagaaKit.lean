/-
  lemmas for the theorems of this claim. No conditions beyond those written in the statements.
-/
import Derived.Test.YtiohoallllkagaaO31
import Derived.Laws.StructEq
set_option linter.unusedVariables false
set_option linter.unusedSimpArgs false
set_option linter.unnecessarySimpa false
namespace Go.Proofs.Sky
open Go Go.RowKit Go.Shelf
set_option maxHeartbeats 2000000
set_option maxRecDepth 4000
theorem eqA4 (d : Nat) (a b c e : Int) (w : World) : (Op.equalIn (d + 2) 22 (.agg #[.int .i64 a, .int .i64 b, .int .i64 c, .int .i64 e]) (.agg #[.int .i64 a, .int .i64 b, .int .i64 c, .int .i64 e])).run Try.prog w = .ok true w := by
  have hu : Try.prog.underlying 22 = some (.array 4 3) := by kernel_rfl
  have hi : Try.prog.underlying 3 = some (.int .i64) := by kernel_rfl
  have hs : ∀ w, (sizeOf 3).run Try.prog w = .ok 1 w := fun w => by kernel_rfl
  simp [Op.equalIn, run_underlying hu, run_underlying hi, hs, go_sem, part, Std.Legacy.Range.forIn_eq_forIn_range', Std.Legacy.Range.size, List.range'_succ, List.range'_zero, List.forIn_cons, List.forIn_nil]
theorem eqA3 (d : Nat) (a b c : Int) (w : World) : (Op.equalIn (d + 2) 23 (.agg #[.int .i64 a, .int .i64 b, .int .i64 c]) (.agg #[.int .i64 a, .int .i64 b, .int .i64 c])).run Try.prog w = .ok true w := by
  have hu : Try.prog.underlying 23 = some (.array 3 3) := by kernel_rfl
  have hi : Try.prog.underlying 3 = some (.int .i64) := by kernel_rfl
  have hs : ∀ w, (sizeOf 3).run Try.prog w = .ok 1 w := fun w => by kernel_rfl
  simp [Op.equalIn, run_underlying hu, run_underlying hi, hs, go_sem, part, Std.Legacy.Range.forIn_eq_forIn_range', Std.Legacy.Range.size, List.range'_succ, List.range'_zero, List.forIn_cons, List.forIn_nil]
theorem eqAt_self (x : Nat → Int) (w : World) : (Op.equalIn 10000 25 (.agg (atV x)) (.agg (atV x))).run Try.prog w = .ok true w := by
  unfold atV
  generalize x 0 = a0, x 1 = a1, x 2 = a2, x 3 = a3, x 4 = a4, x 5 = a5, x 6 = a6, x 7 = a7, x 8 = a8
  rw [show (10000 : Nat) = 9998 + 1 + 1 from rfl, run_equalIn_agg _ _ _ _ _ (by kernel_rfl) (by kernel_rfl)]
  simp only [Program.fieldsOf, Try.underlying25]
  have h4 : ∀ w, (sizeOf 22).run Try.prog w = .ok 4 w := fun w => by kernel_rfl
  have h3 : ∀ w, (sizeOf 23).run Try.prog w = .ok 3 w := fun w => by kernel_rfl
  have h1 : ∀ w, (sizeOf 3).run Try.prog w = .ok 1 w := fun w => by kernel_rfl
  have i4 : Try.prog.underlying 22 = some (.array 4 3) := by kernel_rfl
  have i3 : Try.prog.underlying 23 = some (.array 3 3) := by kernel_rfl
  have hi : Try.prog.underlying 3 = some (.int .i64) := by kernel_rfl
  have q4 := eqA4 9997 a0 a1 a2 a3
  have q3 := eqA3 9997 a4 a5 a6
  simp [Op.eqFields, part, h4, h3, h1, go_sem, run_underlying i4, run_underlying i3, run_underlying hi, q4, q3, run_equalIn_int _ _ _ _ _ _ _ hi]
theorem eqAt_guard (x y : Nat → Int) (op : BinOp) (p q : Operand) (w : World) : (eqGuard op 25 p q (.agg (atV x)) (.agg (atV y))).run Try.prog w = .ok () w := run_eqGuard_agg w op _ _ _ _ _ (by kernel_rfl)
end Go.Proofs.Sky

namespace Go.Proofs.Sky
/-- the number from 0 to k-1 that any number selects -/
def bel (n k : Int) : Int := if k < 1 then 0 else n % k
theorem bel_bd (n k : Int) (h : 1 ≤ k) : 0 ≤ bel n k ∧ bel n k < k := by
  unfold bel; rw [if_neg (by omega)]
  exact ⟨Int.emod_nonneg _ (by omega), Int.emod_lt_of_pos _ (by omega)⟩
def nth (zs : List Int) (i : Int) : Int := if i < 0 ∨ (zs.length : Int) ≤ i then 0 else zs.getD i.toNat 0
theorem tmod_way (n k : Int) (h : 1 ≤ k) : ∃ r, n.tmod k = r ∧ -k < r ∧ r < k ∧ ((r < 0 ∧ n % k = r + k) ∨ (0 ≤ r ∧ n % k = r)) := by
  refine ⟨n.tmod k, rfl, ?_⟩
  have a := Int.emod_nonneg n (show k ≠ 0 by omega)
  have b := Int.emod_lt_of_pos n (show 0 < k by omega)
  by_cases hn : 0 ≤ n
  · rw [Int.tmod_eq_emod_of_nonneg hn]; exact ⟨by omega, by omega, .inr ⟨a, rfl⟩⟩
  · have e : n.tmod k = -((-n) % k) := by
      have := Int.neg_tmod (-n) k; rw [Int.neg_neg] at this; rw [this, Int.tmod_eq_emod_of_nonneg (by omega)]
    have c := Int.emod_nonneg (-n) (show k ≠ 0 by omega)
    have d := Int.emod_lt_of_pos (-n) (show 0 < k by omega)
    have f := Int.mul_ediv_add_emod (-n) k
    have g := Int.mul_ediv_add_emod n k
    rw [e]
    refine ⟨by omega, by omega, ?_⟩
    by_cases hz : (-n) % k = 0
    · right
      refine ⟨by omega, ?_⟩
      have : k ∣ n := by have := Int.dvd_of_emod_eq_zero hz; exact (Int.dvd_neg).1 this
      rw [Int.emod_eq_zero_of_dvd this, hz]; rfl
    · left
      refine ⟨by omega, ?_⟩
      have h1 : n = k * (-((-n) / k) - 1) + (k - (-n) % k) := by rw [Int.mul_sub, Int.mul_neg]; omega
      have h2 : n % k = (k - (-n) % k) % k := by
        conv => lhs; rw [h1]
        rw [Int.add_comm, Int.add_mul_emod_self_left]
      rw [h2, Int.emod_eq_of_lt (by omega) (by omega)]; omega
end Go.Proofs.Sky
