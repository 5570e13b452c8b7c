/-
  lemmas for the theorems of this claim. No conditions beyond those written in the statements.
-/
set_option linter.unusedVariables false
set_option linter.unusedSimpArgs false
set_option linter.unnecessarySimpa false
namespace Go.Proofs.Sky
/-! chapter 30, plain -/
def wl (W L : Int) : Prop := 1 ≤ W ∧ W ≤ 100 ∧ 0 ≤ L ∧ L ≤ 1000000000
def farD (d : Int) : Bool := decide (d < -20000000000000 ∨ 20000000000000 < d)
def errC (W L : Int) (ds : List Int) : Int := if decide (1 ≤ W ∧ W ≤ 100 ∧ 0 ≤ L ∧ L ≤ 1000000000) then (if W < ds.length then 4 else if ds.any farD then 2 else 0) else 2
theorem errC_bad {W L : Int} (ds : List Int) (h : ¬ wl W L) : errC W L ds = 2 := by unfold errC; rw [if_neg (by simpa [wl] using h)]
theorem errC_long {W L : Int} {ds : List Int} (h : wl W L) (h2 : W < ds.length) : errC W L ds = 4 := by unfold errC; rw [if_pos (by simpa [wl] using h), if_pos h2]
theorem errC_far {W L : Int} {ds : List Int} (h : wl W L) (h2 : ¬ W < ds.length) : errC W L ds = if ds.any farD then 2 else 0 := by unfold errC; rw [if_pos (by simpa [wl] using h), if_neg h2]
theorem errC_zero {W L : Int} {ds : List Int} (h : errC W L ds = 0) : wl W L ∧ (ds.length : Int) ≤ W ∧ ∀ d ∈ ds, -20000000000000 ≤ d ∧ d ≤ 20000000000000 := by
  by_cases hw : wl W L
  · by_cases hl : W < ds.length
    · rw [errC_long hw hl] at h; cases h
    · rw [errC_far hw hl] at h
      cases ha : ds.any farD with
      | true => rw [ha] at h; cases h
      | false =>
        refine ⟨hw, by omega, fun d hd => ?_⟩
        have := List.any_eq_false.1 ha d hd
        unfold farD at this; simp at this; omega
  · rw [errC_bad ds hw] at h; cases h
end Go.Proofs.Sky
