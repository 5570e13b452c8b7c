/-
  lemmas for the theorems of this claim. No conditions beyond those written in the statements.
-/
import Derived.Test.YtdaplhjkccfmgaaBB30
import Derived.Test.YtdaplhjkccfmgaaY30
set_option linter.unusedVariables false
set_option linter.unusedSimpArgs false
set_option linter.unnecessarySimpa false
namespace Go.Proofs.Sky
open Go Go.RowKit Go.Shelf
set_option maxHeartbeats 4000000
set_option maxRecDepth 4000
theorem law_bounds (zs : List Int) (v : Value) (e0 g0 c0 w0 : Int) (w : World) (hv : RdI w v zs) :
    Calls Try.prog 6 #[v, .int .i64 e0, .int .i64 g0, .int .i64 c0, .int .i64 w0] w fun r w' => r = .returned (.bool true) ∧ Bw w w' := by
  have HV := Lib.hid hv
  obtain ⟨ad, cap, rfl⟩ := hv.form
  clear hv
  have P1 := Lib.hid (fun W => pick_any e0 10001 W (by omega) (by omega))
  have P2 := Lib.hid (fun W => pick_any g0 101 W (by omega) (by omega))
  have P3 := Lib.hid (fun W => pick_any c0 2000001 W (by omega) (by omega))
  have P4 := Lib.hid (fun W => pick_any w0 100 W (by omega) (by omega))
  have ⟨a1, a2⟩ := bel_bd e0 10001 (by omega)
  have ⟨a3, a4⟩ := bel_bd g0 101 (by omega)
  have ⟨a5, a6⟩ := bel_bd c0 2000001 (by omega)
  have ⟨a7, a8⟩ := bel_bd w0 100 (by omega)
  generalize bel e0 10001 = e at *
  generalize bel g0 101 = g at *
  generalize bel c0 2000001 = c at *
  generalize bel w0 100 = wd at *
  have SC := Lib.hid (fun W hW => scene_any zs (.slice ad zs.length cap) e g (c - 1000000) W hW (by omega) (by omega) (by omega) (by omega) (by omega) (by omega))
  unfold SceneP at SC
  have RP := Lib.hid (fun W v hW => Replay_any (1 + wd) (2 * e + 2 * g) (scMs zs e g (c - 1000000) (scK zs)) v W hW)
  obtain ⟨k, hk⟩ : ∃ k, k = scK zs := ⟨_, rfl⟩
  have hk40 : k ≤ 40 := by rw [hk]; unfold scK; omega
  rw [← hk] at RP SC
  obtain ⟨rs, hrs, hrl, hrj⟩ := bounds_plain zs e g (c - 1000000) (1 + wd) (by omega) (by omega) (by omega) (by omega) (by omega) (by omega) (by omega) (by omega) k hk40
  rw [hrs] at RP
  have HTB := Lib.hid (fun j (hj : j < k) => (by rw [show (scTs zs k).getD j 0 = scA zs (j + 1) from getD_map_range _ k j _ hj]; have := scA_bd zs (j + 1); omega : -100000000 ≤ (scTs zs k).getD j 0 ∧ (scTs zs k).getD j 0 ≤ 100000000))
  have HML := Lib.hid (scMs_len zs e g (c - 1000000) k)
  have HTL := Lib.hid (scTs_len zs k)
  replace hrl := Lib.hid hrl
  generalize scMs zs e g (c - 1000000) k = ms at *
  generalize scTs zs k = ts at *
  have HJ := Lib.hid hrj
  have HBW := Lib.hid (Bw.refl w)
  clear hrj hrs hk
  go_enter Try.func6, Try.ntmps6
  go_wp2_with (first | (go_at_call 5; refine (law_known _).mono ?_; rintro e1 u1 ⟨rfl, hb1⟩; replace HBW := Lib.hid (HBW.out.trans hb1); clear hb1) | (go_at_call 21; (with_reducible refine Calls.mono (P1.out _) ?_); rintro e1 u2 ⟨rfl, hb1⟩; replace HBW := Lib.hid (HBW.out.trans hb1); clear hb1 P1) | (go_at_call 21; (with_reducible refine Calls.mono (P2.out _) ?_); rintro e1 u3 ⟨rfl, hb1⟩; replace HBW := Lib.hid (HBW.out.trans hb1); clear hb1 P2) | (go_at_call 21; (with_reducible refine Calls.mono (P3.out _) ?_); rintro e1 u4 ⟨rfl, hb1⟩; replace HBW := Lib.hid (HBW.out.trans hb1); clear hb1 P3) | (go_at_call 21; (with_reducible refine Calls.mono (P4.out _) ?_); rintro e1 u5 ⟨rfl, hb1⟩; replace HBW := Lib.hid (HBW.out.trans hb1); clear hb1 P4) | (go_at_call 22; (with_reducible refine Calls.mono (SC.out _ ?_) ?_); exact HV.out.mono HBW.out; rintro e1 u6 ⟨⟨v1, v2, rfl, ⟨hm, _⟩, hts, _⟩, hb1⟩; replace HBW := Lib.hid (HBW.out.trans hb1); obtain ⟨am, cm, rfl⟩ := hm.form; obtain ⟨at1, ct, rfl⟩ := hts.form; rw [HML.out] at hm ⊢; rw [HTL.out] at hts ⊢; have HM := Lib.hid hm; have HT := Lib.hid hts; clear hb1 SC hm hts) | (go_at_call 10; (with_reducible refine Calls.mono (RP.out _ _ HM.out) ?_); rintro e1 u7 ⟨⟨v3, v4, rfl, hr3, hr4, _, _⟩, hb1⟩; replace HBW := Lib.hid (HBW.out.trans hb1); replace HT := Lib.hid (HT.out.mono hb1); obtain ⟨ar, cr, rfl⟩ := hr3.form; obtain ⟨a4s, c4s, rfl⟩ := hr4.form; rw [hrl.out] at hr3 ⊢; have HR := Lib.hid hr3; clear hb1 RP hr3 hr4))
  go_loopg [17, 18] 40 (fun gg s17 s18 wr => ∃ j : Nat, j ≤ k ∧ 40 - j ≤ gg ∧ s17 = .int .i64 j ∧ Hid (Bw u7 wr))
  case atStart => exact ⟨0, Nat.zero_le _, by omega, rfl, Lib.hid (Bw.refl _)⟩
  case round =>
    obtain ⟨j, hj, hgg, rfl, hq⟩ := hrel
    by_cases hlt : j < k
    · obtain ⟨b1, o1, c1, hv1, hb1, hd1⟩ := HR.out.at (by have := hrl.out; omega)
      obtain ⟨b2, o2, c2, hv2, hb2, hd2⟩ := HT.out.at (by have := HTL.out; omega)
      injection hv1 with x1 x2 x3; subst x1; clear x2 x3
      injection hv2 with x1 x2 x3; subst x1; clear x2 x3
      have hd1 := hd1 j (by have := hrl.out; omega)
      have d2 := hq.out.cell' (hd2 j (by have := HTL.out; omega))
      have d0 := hq.out.cell' hd1.1
      have d1 := hq.out.cell' hd1.2
      have ⟨j1, j2, j3, j4⟩ := HJ.out j hlt
      have ⟨t1, t2⟩ := HTB.out j hlt
      clear hd1 hd2
      generalize rs.getD j (0, 0) = r at d0 d1 j1 j2 j3 j4
      generalize ts.getD j 0 = t at d2 j3 j4 t1 t2
      obtain ⟨x, y⟩ := r
      simp only at d0 d1 j1 j2 j3 j4
      have ⟨m1, m2⟩ := mul_bd2 t y 100000000 100 (by omega) (by omega) (by omega) (by omega) (by omega)
      have ⟨m3, m4⟩ := mul_bd2 (e + 2 * g) y 20000 100 (by omega) (by omega) (by omega) (by omega) (by omega)
      have e0 := fun p' : Ext wr => Ext.cell' d0 p'
      have e1 := fun p' : Ext wr => Ext.cell' d1 p'
      have e2 := fun p' : Ext wr => Ext.cell' d2 p'
      have hkz : (j : Int) < k := by omega
      go_wp2
      (refine wp_region_quiet_ext (by kernel_rfl) (by kernel_rfl) ?_; (repeat (go_big_quiet_step ((fail)))); refine wpQuiet_nil ?_; rintro wq ⟨⟨_, hbq⟩, rfl⟩; obtain ⟨hccq, hffq⟩ := Bw.cells hbq; have hszq := Bw.size hbq)
      clear e0 e1 e2
      replace d0 := hbq.cell' d0; replace d1 := hbq.cell' d1; replace d2 := hbq.cell' d2
      go_wp2
      go_roundg (40 - (j + 1))
      case measure => omega
      case rel => exact ⟨j + 1, by omega, by omega, by go_num, Lib.hid (hq.out.trans hbq)⟩
    · have hkz : ¬ (j : Int) < k := by omega
      go_wp2
      go_ret
      exact ⟨rfl, HBW.out.trans hq.out⟩
end Go.Proofs.Sky
