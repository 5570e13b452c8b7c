/-
  lemmas for the theorems of this claim. No conditions beyond those written in the statements.
-/
import Derived.Test.YtdaplhjkccfmgaaJJ30
import Derived.Test.YtdaplhjkccfmgaaKK30
set_option linter.unusedVariables false
set_option linter.unusedSimpArgs false
set_option linter.unnecessarySimpa false
namespace Go.Proofs.Sky
open Go Go.RowKit Go.Shelf
set_option maxHeartbeats 4000000
set_option maxRecDepth 4000
theorem law_slips (zs : List Int) (v : Value) (e0 g0 w0 a0 mr : Int) (w : World) (hv : RdI w v zs) :
    Calls Try.prog 7 #[v, .int .i64 e0, .int .i64 g0, .int .i64 w0, .int .i64 a0, .int .i64 mr] w fun r w' => r = .returned (.bool true) ∧ Bw w w' := by
  by_cases hk2 : 2 ≤ scK zs
  · by_cases hm : mr < 0
    · exact law_slips_neg zs v e0 g0 w0 a0 mr w hv hm hk2
    · exact law_slips_pos zs v e0 g0 w0 a0 mr w hv hm hk2
  · have HV := Lib.hid hv
    obtain ⟨ad, cap, rfl⟩ := hv.form
    clear hv
    have P1 := Lib.hid (fun W => pick_any e0 10001 W (by omega) (by omega))
    have P2 := Lib.hid (fun W => pick_any g0 101 W (by omega) (by omega))
    have P4 := Lib.hid (fun W => pick_any w0 100 W (by omega) (by omega))
    have ⟨a1, a2⟩ := bel_bd e0 10001 (by omega)
    have ⟨a3, a4⟩ := bel_bd g0 101 (by omega)
    have ⟨a7, a8⟩ := bel_bd w0 100 (by omega)
    generalize bel e0 10001 = e at *
    generalize bel g0 101 = g at *
    generalize bel w0 100 = wd at *
    have SC := Lib.hid (fun W hW => scene_any zs (.slice ad zs.length cap) e g 5000 W hW (by omega) (by omega) (by omega) (by omega) (by omega) (by omega))
    unfold SceneP at SC
    obtain ⟨k, hk⟩ : ∃ k, k = scK zs := ⟨_, rfl⟩
    rw [← hk] at SC hk2
    have HML := Lib.hid (scMs_len zs e g 5000 k)
    have HTL := Lib.hid (scTs_len zs k)
    generalize scMs zs e g 5000 k = ms at *
    generalize scTs zs k = ts at *
    have HBW := Lib.hid (Bw.refl w)
    clear hk
    have hkz : (k : Int) < 2 := by omega
    go_enter Try.func7, Try.ntmps7
    go_wp2_with (first | (go_at_call 5; refine (law_known _).mono ?_; rintro e1 u1 ⟨rfl, hb1⟩; replace HBW := Lib.hid (HBW.out.trans hb1); clear hb1) | (go_at_call 21; (with_reducible refine Calls.mono (P1.out _) ?_); rintro e1 u2 ⟨rfl, hb1⟩; replace HBW := Lib.hid (HBW.out.trans hb1); clear hb1 P1) | (go_at_call 21; (with_reducible refine Calls.mono (P2.out _) ?_); rintro e1 u3 ⟨rfl, hb1⟩; replace HBW := Lib.hid (HBW.out.trans hb1); clear hb1 P2) | (go_at_call 21; (with_reducible refine Calls.mono (P4.out _) ?_); rintro e1 u5 ⟨rfl, hb1⟩; replace HBW := Lib.hid (HBW.out.trans hb1); clear hb1 P4) | (go_at_call 22; (with_reducible refine Calls.mono (SC.out _ ?_) ?_); exact HV.out.mono HBW.out; rintro e1 u6 ⟨⟨v1, v2, rfl, ⟨_, _, hm⟩, hts, _⟩, hb1⟩; replace HBW := Lib.hid (HBW.out.trans hb1); obtain ⟨am, cm, rfl⟩ := own_form2 hm; obtain ⟨at1, ct, rfl⟩ := hts.form; rw [HML.out] at hm ⊢; rw [HTL.out] at hts ⊢; have HO := Lib.hid hm; clear hb1 SC hm hts))
    go_ret
    exact ⟨rfl, HBW.out⟩
end Go.Proofs.Sky
