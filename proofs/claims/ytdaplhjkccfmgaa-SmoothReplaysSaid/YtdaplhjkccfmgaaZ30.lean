/-
  lemmas for the theorems of this claim. No conditions beyond those written in the statements.
-/
import Derived.Test.YtdaplhjkccfmgaaO30
import Derived.Test.YtdaplhjkccfmgaaR30
set_option linter.unusedVariables false
set_option linter.unusedSimpArgs false
set_option linter.unnecessarySimpa false
namespace Go.Proofs.Sky
open Go Go.RowKit Go.Shelf
set_option maxHeartbeats 4000000
theorem RdI.grown {w w' : World} {v : Value} {zs : List Int} (h : RdI w v zs) {base : Nat} (hf : Fresh base v) {row : Option Nat} (hg : w.grownBy w' row) (hr : ∀ j, row = some j → j < base) : RdI w' v zs := by
  obtain ⟨h2, a, cap, rfl, h4⟩ := h
  refine ⟨h2, a, cap, rfl, ?_⟩
  rcases h4 with h4 | ⟨b', off, rfl, h6, h7⟩
  · exact .inl h4
  · have := hf b' rfl
    exact .inr ⟨b', off, rfl, Nat.lt_of_lt_of_le h6 hg.size, fun i hi => by rw [World.cell?_of_block (hg.block b' h6 (fun e => by have := hr b' e.symm; omega))]; exact h7 i hi⟩
/-- the step of the run, as the reference makes it -/
theorem stepR_run {W L : Int} (hok : wl W L) (ps : List (Int × Int)) (h : ∀ m ∈ ps, okM m = true) (m : Int × Int) (hm : okM m = true) :
    stepR W L (runS W L ps).1 m.1 m.2 = (W, L, nextD W L (runS W L ps).1 (m.1 - m.2), m.2 * (nextD W L (runS W L ps).1 (m.1 - m.2)).length + sumI (nextD W L (runS W L ps).1 (m.1 - m.2)), ((nextD W L (runS W L ps).1 (m.1 - m.2)).length : Int), slipD L (runS W L ps).1 (m.1 - m.2), 0) := by
  have hd := runS_ok (L := L) hok.1 ps h
  have he : errC W L (runS W L ps).1 = 0 := by
    rw [errC_far hok (by have := hd.1; omega), any_none _ _ 0 (fun i hi => ?_)]
    · rfl
    · have := hd.2 _ (getD_mem _ i 0 hi)
      unfold farD; rw [decide_eq_false_iff_not]; omega
  unfold stepR
  rw [if_pos he, if_pos (show okM (m.1, m.2) = true from hm)]
theorem stepR_stop {W L : Int} (hok : wl W L) (ps : List (Int × Int)) (h : ∀ m ∈ ps, okM m = true) (m : Int × Int) (hm : okM m = false) :
    stepR W L (runS W L ps).1 m.1 m.2 = (0, 0, [], 0, 0, false, 2) := by
  have hd := runS_ok (L := L) hok.1 ps h
  have he : errC W L (runS W L ps).1 = 0 := by
    rw [errC_far hok (by have := hd.1; omega), any_none _ _ 0 (fun i hi => ?_)]
    · rfl
    · have := hd.2 _ (getD_mem _ i 0 hi)
      unfold farD; rw [decide_eq_false_iff_not]; omega
  unfold stepR
  rw [if_pos he, if_neg (by rw [show okM (m.1, m.2) = false from hm]; simp)]
end Go.Proofs.Sky
