/-
  lemmas for the theorems of this claim. No conditions beyond those written in the statements.
-/
import Derived.Test.YtdaplhjkccfmgaaB30
set_option linter.unusedVariables false
set_option linter.unusedSimpArgs false
set_option linter.unnecessarySimpa false
namespace Go.Proofs.Sky
open Go Go.RowKit Go.Shelf
set_option maxHeartbeats 1000000
/-- the cells of a ring -/
structure RingC (cs : Array Value) (l : Nat → Int) (first many room sum : Int) : Prop where
  size : cs.size = 104
  at_ : ∀ i, i < 100 → cs[i]? = some (.int .i64 (l i))
  c0 : cs[100]? = some (.int .i64 first)
  c1 : cs[101]? = some (.int .i64 many)
  c2 : cs[102]? = some (.int .i64 room)
  c3 : cs[103]? = some (.int .i64 sum)
theorem RingC.g {cs : Array Value} {j : Nat} {v : Value} (h : cs[j]? = some v) : ∀ hj : j < cs.size, cs[j]'hj = v := fun hj => by
  rw [Array.getElem?_eq_getElem hj] at h; exact Option.some.inj h
theorem mul_bd2 (m u a b : Int) (h1 : -a ≤ m) (h2 : m ≤ a) (h3 : 0 ≤ u) (h4 : u ≤ b) (ha : 0 ≤ a) : -(a * b) ≤ m * u ∧ m * u ≤ a * b := by
  have x1 : m * u ≤ a * u := Int.mul_le_mul_of_nonneg_right h2 h3
  have x2 : -a * u ≤ m * u := Int.mul_le_mul_of_nonneg_right h1 h3
  have x3 : a * u ≤ a * b := Int.mul_le_mul_of_nonneg_left h4 ha
  rw [Int.neg_mul] at x2
  omega
theorem far_any (cs : Array Value) (l : Nat → Int) (first many room sum d lim : Int) (w : World) (hc : RingC cs l first many room sum)
    (hm0 : 0 ≤ many) (hm1 : many ≤ 100) (hd0 : -20000000000000 ≤ d) (hd1 : d ≤ 20000000000000) (hs0 : -2000000000000000 ≤ sum) (hs1 : sum ≤ 2000000000000000) (hl0 : 0 ≤ lim) (hl1 : lim ≤ 1000000000) :
    Calls Try.prog 37 #[.agg cs, .int .i64 d, .int .i64 lim] w fun e w' => e = .returned (.bool (decide (lim * many < d * many - sum ∨ lim * many < -(d * many - sum)))) ∧ Bw w w' := by
  have k1 := RingC.g hc.c1
  have k3 := RingC.g hc.c3
  have ⟨m1, m2⟩ := mul_bd2 d many 20000000000000 100 (by omega) (by omega) (by omega) (by omega) (by omega)
  have ⟨m3, m4⟩ := mul_bd2 lim many 1000000000 100 (by omega) (by omega) (by omega) (by omega) (by omega)
  have hsz := hc.size
  go_enter Try.func37, Try.ntmps37
  go_wp2
  all_goals (go_ret; exact ⟨ret_bool (by rw [Bool.eq_iff_iff] <;> simp), (by repeat (first | exact Bw.refl _ | assumption | refine Bw.alloc ?_ _ | refine Bw.drew ?_ | refine Bw.trans ?_ (by assumption) | refine Bw.setCell ?_ (by simp; try omega) _))⟩)
end Go.Proofs.Sky
