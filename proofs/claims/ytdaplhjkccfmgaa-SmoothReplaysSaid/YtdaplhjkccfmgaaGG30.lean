/-
  lemmas for the theorems of this claim. No conditions beyond those written in the statements.
-/
import Derived.Test.YtdaplhjkccfmgaaEE30
set_option linter.unusedVariables false
set_option linter.unusedSimpArgs false
set_option linter.unnecessarySimpa false
namespace Go.Proofs.Sky
open Go Go.RowKit Go.Shelf
set_option maxHeartbeats 4000000
set_option maxRecDepth 4000
theorem law_shifts (ps : List (Int × Int)) (v : Value) (a0 b0 w0 l0 : Int) (w : World) (hv : RdS w v ps) :
    Calls Try.prog 8 #[v, .int .i64 a0, .int .i64 b0, .int .i64 w0, .int .i64 l0] w fun r w' => r = .returned (.bool true) ∧ Bw w w' := by
  by_cases hl : ps.length ≤ 100
  · exact law_shifts_main ps v a0 b0 w0 l0 w hv hl
  · obtain ⟨ad, cap, rfl⟩ := hv.form
    have hli : (100 : Int) < ps.length := by omega
    clear hv hl
    go_enter Try.func8, Try.ntmps8
    go_wp2_with (go_at_call 5; refine (law_known _).mono ?_; rintro e1 u1 ⟨rfl, hb1⟩)
    go_ret
    exact ⟨rfl, hb1⟩
end Go.Proofs.Sky
