/-
  lemmas for the theorems of this claim. No conditions beyond those written in the statements.
-/
import Derived.Test.YtpmopobjlpfdaaaDoorProg
import Derived.Test.YtpmopobjlpfdaaaDoorP25L
set_option linter.unusedVariables false
set_option linter.unusedSimpArgs false
set_option linter.unnecessarySimpa false
namespace Go.Proofs.Sky
open Go Go.RowKit
set_option maxHeartbeats 1000000
def fld (a n : Int) (g : Bool) (u c : Int) : Value := .agg #[.int .i64 a, .int .i64 n, .bool g, .int .i64 u, .int .i64 c]
theorem Check_any (a n : Int) (g : Bool) (u c : Int) (w : World) : Calls Tryd.prog 64 #[.agg #[.int .i64 a, .int .i64 n, .bool g, .int .i64 u, .int .i64 c]] w fun e w' => e = .returned (.int .i64 (errF a n u c)) ∧ Bw w w' := by
  by_cases h : 0 ≤ a ∧ a ≤ 4000 ∧ 1 ≤ n ∧ n ≤ 40 ∧ a + n ≤ 4000 ∧ 1 ≤ u ∧ u ≤ 1000000 ∧ -1000000000000000 ≤ c ∧ c ≤ 1000000000000000
  · have HE := Lib.hid (show errF a n u c = 0 by unfold errF okF; rw [if_pos (by simpa using h)])
    obtain ⟨h1, h2, h3, h4, h5, h6, h7, h8, h9⟩ := h
    go_enter Tryd.func64, Tryd.ntmps64
    go_wp2
    go_ret
    exact ⟨by rw [HE.out]; rfl, (by repeat (first | exact Bw.refl _ | assumption | refine Bw.alloc ?_ _ | refine Bw.drew ?_ | refine Bw.trans ?_ (by assumption) | refine Bw.setCell ?_ (by simp; try omega) _))⟩
  · have HE := Lib.hid (show errF a n u c = 2 by unfold errF okF; rw [if_neg (by simpa using h)])
    have HN := Lib.hid h; clear h
    go_enter Tryd.func64, Tryd.ntmps64
    go_wp2
    all_goals first | (exfalso; have h := HN.out; omega) | (go_ret; exact ⟨by rw [HE.out]; rfl, (by repeat (first | exact Bw.refl _ | assumption | refine Bw.alloc ?_ _ | refine Bw.drew ?_ | refine Bw.trans ?_ (by assumption) | refine Bw.setCell ?_ (by simp; try omega) _))⟩)
end Go.Proofs.Sky
