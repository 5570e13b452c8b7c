/-
  lemmas for the theorems of this claim. No conditions beyond those written in the statements.
-/
import Derived.Test.YtmndialneggbjaaRD21
set_option linter.unusedVariables false
set_option linter.unusedSimpArgs false
set_option linter.unnecessarySimpa false
namespace Go.Proofs.Sky
open Go Go.RowKit Go.Shelf
set_option maxHeartbeats 4000000
set_option maxRecDepth 4000
theorem law_right (p0 t0 c0 : Int) (zs es : List Int) (v3 v4 : Value) (w : World) (hv3 : RdI w v3 zs) (hv4 : RdI w v4 es) :
    Calls Try.prog 7 #[.int .i64 p0, .int .i64 t0, .int .i64 c0, v3, v4] w fun r w' => r = .returned (.bool true) ∧ Bw w w' := by
  by_cases hl : 1 ≤ zs.length ∧ zs.length ≤ 12 ∧ es.length ≤ 100
  · have hm := bel_bd p0 8 (by omega)
    obtain ⟨m, hm1⟩ := Int.eq_ofNat_of_zero_le hm.1
    have ht := bel_bd t0 (1 + (m : Int)) (by omega)
    obtain ⟨t, ht1⟩ := Int.eq_ofNat_of_zero_le ht.1
    exact right_main m t zs.length es.length (bel c0 2001 - 1000) (bel (wrap64 (c0.tdiv 2001)) 2001 - 1000) p0 t0 c0 hm1 ht1 (by omega) (by omega) zs es rfl rfl v3 v4 w hv3 hv4 hl.1 hl.2.1 hl.2.2
  · obtain ⟨ad3, cap3, rfl⟩ := hv3.form
    obtain ⟨ad4, cap4, rfl⟩ := hv4.form
    clear hv3 hv4
    by_cases h1 : zs.length ≤ 12
    · have g1 : ¬ (12 : Int) < zs.length := by omega
      by_cases h2 : 1 ≤ zs.length
      · have g2 : ¬ (zs.length : Int) < 1 := by omega
        have g3 : (100 : Int) < es.length := by omega
        clear hl h1 h2
        go_enter Try.func7, Try.ntmps7
        go_wp2_with (go_at_call 4; refine (law_known _).mono ?_; rintro e1 u1 ⟨rfl, hb1⟩)
        go_ret
        exact ⟨rfl, hb1⟩
      · have g2 : (zs.length : Int) < 1 := by omega
        clear hl h1 h2
        go_enter Try.func7, Try.ntmps7
        go_wp2_with (go_at_call 4; refine (law_known _).mono ?_; rintro e1 u1 ⟨rfl, hb1⟩)
        go_ret
        exact ⟨rfl, hb1⟩
    · have g1 : (12 : Int) < zs.length := by omega
      clear hl h1
      go_enter Try.func7, Try.ntmps7
      go_wp2_with (go_at_call 4; refine (law_known _).mono ?_; rintro e1 u1 ⟨rfl, hb1⟩)
      go_ret
      exact ⟨rfl, hb1⟩
end Go.Proofs.Sky
