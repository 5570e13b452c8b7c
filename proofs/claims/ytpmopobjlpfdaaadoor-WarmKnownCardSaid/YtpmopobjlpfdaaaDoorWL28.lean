/-
  lemmas for the theorems of this claim. No conditions beyond those written in the statements.
-/
import Derived.Test.YtpmopobjlpfdaaaDoorRows
import Derived.WalkKit
import Derived.ProofKit
import Derived.LaidMore
import Derived.OpenShut
import Derived.Stop.Joined
import Derived.MakeChecks
import Derived.Test.YtpmopobjlpfdaaaDoorAL1
set_option linter.unusedVariables false
set_option linter.unusedSimpArgs false
set_option linter.unnecessarySimpa false
namespace Go.Proofs.Sky
open Go Go.ChangeShapes Go.WideShapes Go.ChangeAt Go.RowKit
set_option linter.unusedVariables false
/-! what the card's premise gives: the package's widths lie where the program lays them -/
def wdLaid : List (String × DataW Unit) := [("skyfix/almanac.widths", Go.Proofs.YtpmopobjlpfdaaaDoor.Rows.laid_skyfix_almanac_widths)]
theorem gWd : Tryd.prog.globalNamed "skyfix/almanac.widths" = some 0 := by kernel_rfl
theorem tWd : (Tryd.prog.globals[0]?).map (·.type) = some 101 := by kernel_rfl
theorem door_met (os : Os) (args : Array Value) : laidMetH Tryd.prog wdLaid ((World.doorLaid Tryd.prog 400 os).forCall (fun _ _ => 0) ⟨#[], args, []⟩).memory :=
  laidMetH_of_parts3 (fuel := 8) (laidMet_of_run' 8 (by kernel_rfl) (by kernel_rfl)) (by kernel_rfl) (by kernel_rfl)
theorem get_of_take {α : Type} {l : List α} {j : Nat} {v : α} (h : (l.drop j).take 1 = [v]) : l[j]? = some v := by
  have h1 : (l.drop j)[0]? = some v := by
    cases hl : l.drop j with
    | nil => rw [hl] at h; simp at h
    | cons x r => rw [hl] at h; simp at h; simp [h]
  simpa using h1
theorem wd_of_laid {W : World} (h : laidMetH Tryd.prog wdLaid W) : WdAt W := by
  rw [MakeChecks.laidMetH_plain _ _ _ (by kernel_rfl)] at h
  obtain ⟨ps, ⟨g0, t0, cs0, f0, p0, q0, hg0, ht0, hv0, hd0, _, _⟩, _, _⟩ := h
  obtain rfl := Option.some.inj (gWd.symm.trans hg0)
  obtain rfl := Option.some.inj (tWd.symm.trans ht0)
  obtain ⟨xs, m1, rfl, hx1, hlen, hn3, hel⟩ := DataW.trod_array Tryd.underlying101 hd0
  have c3 : Tryd.prog.cellsOf 3 = 1 := by kernel_rfl
  simp only [Prod.mk.injEq, DataW.agg.injEq] at hx1
  have hx : xs.map (·.1) = [.lit (.int .i64 6), .lit (.int .i64 20), .lit (.int .i64 16), .lit (.int .i64 20), .lit (.int .i64 20), .lit (.int .i64 14), .lit (.int .i64 12), .lit (.int .i64 20), .lit (.int .i64 14), .lit (.int .i64 12), .lit (.int .i64 20), .lit (.int .i64 14), .lit (.int .i64 12)] := DataW.agg.inj (hx1.1.symm.trans (show Go.Proofs.YtpmopobjlpfdaaaDoor.Rows.laid_skyfix_almanac_widths = .agg _ from rfl))
  have key : ∀ j, j < 13 → ∀ z, (xs.map (·.1))[j]? = some (.lit (.int .i64 z)) → W.cell? ⟨0, j, none⟩ = some (.int .i64 z) := by
    intro j hj z hz
    have h0 := hel j hj
    rw [c3, Nat.mul_one] at h0
    rw [List.getElem?_map] at hz
    cases hxj : xs[j]? with
    | none => rw [hxj] at hz; simp at hz
    | some y =>
      rw [hxj] at hz h0
      simp at hz
      obtain ⟨k, e1, e2, _⟩ := DataW.trod_int Tryd.underlying3 h0
      have hk : k = z := by rw [e2] at hz; simpa using hz
      subst hk
      rw [World.var?_cell hg0 hv0 j, ← Array.getElem?_toList]
      exact get_of_take e1
  rw [hx] at key
  refine ⟨?_, ?_⟩
  · have h0 := key 0 (by decide) 6 rfl
    obtain ⟨o, ho, _⟩ := cells_of_cell h0
    exact (Array.getElem?_eq_some_iff.1 ho).1
  · intro j v hv
    have hj : j < 13 := (List.getElem?_eq_some_iff.1 hv).1
    rw [Nat.zero_add]
    match j, hj with
    | 0, _ => obtain rfl := Option.some.inj hv; exact key 0 (by decide) _ rfl
    | 1, _ => obtain rfl := Option.some.inj hv; exact key 1 (by decide) _ rfl
    | 2, _ => obtain rfl := Option.some.inj hv; exact key 2 (by decide) _ rfl
    | 3, _ => obtain rfl := Option.some.inj hv; exact key 3 (by decide) _ rfl
    | 4, _ => obtain rfl := Option.some.inj hv; exact key 4 (by decide) _ rfl
    | 5, _ => obtain rfl := Option.some.inj hv; exact key 5 (by decide) _ rfl
    | 6, _ => obtain rfl := Option.some.inj hv; exact key 6 (by decide) _ rfl
    | 7, _ => obtain rfl := Option.some.inj hv; exact key 7 (by decide) _ rfl
    | 8, _ => obtain rfl := Option.some.inj hv; exact key 8 (by decide) _ rfl
    | 9, _ => obtain rfl := Option.some.inj hv; exact key 9 (by decide) _ rfl
    | 10, _ => obtain rfl := Option.some.inj hv; exact key 10 (by decide) _ rfl
    | 11, _ => obtain rfl := Option.some.inj hv; exact key 11 (by decide) _ rfl
    | 12, _ => obtain rfl := Option.some.inj hv; exact key 12 (by decide) _ rfl
end Go.Proofs.Sky
