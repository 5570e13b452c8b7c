/-
  lemmas for the theorems of this claim. No conditions beyond those written in the statements.
-/
import Derived.Test.YtcbkjfakedngbaaOO25
set_option linter.unusedVariables false
set_option linter.unusedSimpArgs false
set_option linter.unnecessarySimpa false
namespace Go.Proofs.Sky
open Go Go.RowKit Go.Shelf
theorem law_orders (zs ms : List Int) (v1 v2 : Value) (w : World) (h1 : RdI w v1 zs) (h2 : RdI w v2 ms) (hcap : ∀ a n c, v1 = .slice a n c → n ≤ c ∧ c ≤ 9223372036854775807) :
    Calls Try.prog 8 #[v1, v2] w fun r w' => r = .returned (.bool true) ∧ Bw w w' := orders_main zs ms v1 v2 w h1 h2 hcap
end Go.Proofs.Sky
