/-
  lemmas for the theorems of this claim. No conditions beyond those written in the statements.
-/
import Derived.Test.YtiohoallllkagaaB31
set_option linter.unusedVariables false
set_option linter.unusedSimpArgs false
set_option linter.unnecessarySimpa false
namespace Go.Proofs.Sky
open Go Go.RowKit Go.Shelf
set_option maxHeartbeats 2000000
set_option maxRecDepth 4000
def sg (b : Bool) (m : Nat) : Int := if b then -(m : Int) else m
def plW (b1 : Bool) (m1 : Nat) (b2 : Bool) (m2 : Nat) : Bool × Nat := if b1 = b2 then (b1, m1 + m2) else if m1 < m2 then (b2, m2 - m1) else (b1, m1 - m2)
theorem plW_sg (b1 : Bool) (m1 : Nat) (b2 : Bool) (m2 : Nat) : sg (plW b1 m1 b2 m2).1 (plW b1 m1 b2 m2).2 = sg b1 m1 + sg b2 m2 := by
  by_cases hlt : m1 < m2
  · cases b1 <;> cases b2 <;> simp [plW, sg, hlt] <;> omega
  · cases b1 <;> cases b2 <;> simp [plW, sg, hlt] <;> omega
theorem plW_le (b1 : Bool) (m1 : Nat) (b2 : Bool) (m2 : Nat) : (plW b1 m1 b2 m2).2 ≤ m1 + m2 := by
  unfold plW
  split
  · exact Nat.le_refl _
  · split <;> simp only <;> omega
theorem add_parts (m1 m2 : Nat) : (m1 + m2) / 18446744073709551616 = m1 / 18446744073709551616 + m2 / 18446744073709551616 + (m1 % 18446744073709551616 + m2 % 18446744073709551616) / 18446744073709551616 ∧ (m1 + m2) % 18446744073709551616 = (m1 % 18446744073709551616 + m2 % 18446744073709551616) % 18446744073709551616 := by omega
theorem sub_parts (m1 m2 : Nat) (h : m2 ≤ m1) : (m1 - m2) / 18446744073709551616 = m1 / 18446744073709551616 - m2 / 18446744073709551616 - (if m1 % 18446744073709551616 < m2 % 18446744073709551616 then 1 else 0) ∧ (m1 - m2) % 18446744073709551616 = (m1 % 18446744073709551616 + 18446744073709551616 - m2 % 18446744073709551616) % 18446744073709551616 ∧ m2 / 18446744073709551616 + (if m1 % 18446744073709551616 < m2 % 18446744073709551616 then 1 else 0) ≤ m1 / 18446744073709551616 := by
  split <;> omega
theorem plus_any (b1 : Bool) (m1 : Nat) (b2 : Bool) (m2 : Nat) (w : World) (h : m1 + m2 < 340282366920938463463374607431768211456) :
    Calls Try.prog 47 #[wv b1 m1, wv b2 m2] w fun e w' => e = .returned (wv (plW b1 m1 b2 m2).1 (plW b1 m1 b2 m2).2) ∧ Bw w w' := by
  have ha := add_parts m1 m2
  unfold wv
  by_cases hb : b1 = b2
  · subst hb
    unfold plW
    rw [if_pos rfl]
    simp only
    rw [ha.1, ha.2]
    cases b1
    · exact plus_same_false _ _ _ _ w (by omega) (by omega) (by omega) (by omega) (by omega)
    · exact plus_same_true _ _ _ _ w (by omega) (by omega) (by omega) (by omega) (by omega)
  · unfold plW
    rw [if_neg hb]
    by_cases hlt : m1 < m2
    · obtain ⟨p1, p2, p3⟩ := sub_parts m2 m1 (by omega)
      rw [if_pos hlt]
      simp only
      rw [p1, p2]
      cases b1
      · obtain rfl : b2 = true := by cases b2; exact absurd rfl hb; rfl
        exact plus_lt_false _ _ _ _ w (by omega) (by omega) (by omega) (by omega) p3 (by omega)
      · obtain rfl : b2 = false := by cases b2; rfl; exact absurd rfl hb
        exact plus_lt_true _ _ _ _ w (by omega) (by omega) (by omega) (by omega) p3 (by omega)
    · obtain ⟨p1, p2, p3⟩ := sub_parts m1 m2 (by omega)
      rw [if_neg hlt]
      simp only
      rw [p1, p2]
      cases b1
      · obtain rfl : b2 = true := by cases b2; exact absurd rfl hb; rfl
        exact plus_ge_false _ _ _ _ w (by omega) (by omega) (by omega) (by omega) p3
      · obtain rfl : b2 = false := by cases b2; rfl; exact absurd rfl hb
        exact plus_ge_true _ _ _ _ w (by omega) (by omega) (by omega) (by omega) p3
end Go.Proofs.Sky
