/-
  lemmas for the theorems of this claim. No conditions beyond those written in the statements.
-/
import Derived.Test.YtmndialneggbjaaBase
set_option linter.unusedVariables false
set_option linter.unusedSimpArgs false
set_option linter.unnecessarySimpa false
namespace Go.Proofs.Sky
open Go Go.RowKit
/-! (for chapters that have no such lemma of their own) -/
theorem RdI.at {w : World} {v : Value} {zs : List Int} (h : RdI w v zs) (h0 : 0 < zs.length) : ∃ b off c, v = .slice (some ⟨b, off, none⟩) zs.length c ∧ b < w.heap.size ∧ ∀ i, i < zs.length → w.cell? ⟨b, off + i, none⟩ = some (.int .i64 (zs.getD i 0)) := by
  obtain ⟨_, a, c, rfl, h4⟩ := h
  rcases h4 with rfl | ⟨b, off, rfl, h6, h7⟩
  · simp at h0
  · exact ⟨b, off, c, rfl, h6, h7⟩
theorem RdS.at {w : World} {v : Value} {ps : List (Int × Int)} (h : RdS w v ps) (h0 : 0 < ps.length) : ∃ b off c, v = .slice (some ⟨b, off, none⟩) ps.length c ∧ b < w.heap.size ∧ ∀ i, i < ps.length → w.cell? ⟨b, off + i * 2, none⟩ = some (.int .i64 (ps.getD i (0, 0)).1) ∧ w.cell? ⟨b, off + i * 2 + 1, none⟩ = some (.int .i64 (ps.getD i (0, 0)).2) := by
  obtain ⟨_, a, c, rfl, h4⟩ := h
  rcases h4 with rfl | ⟨b, off, rfl, h6, h7⟩
  · simp at h0
  · exact ⟨b, off, c, rfl, h6, h7⟩
end Go.Proofs.Sky
