/-
  lemmas for the theorems of this claim. No conditions beyond those written in the statements.
-/
import Derived.Test.YtdaplhjkccfmgaaHH30
set_option linter.unusedVariables false
set_option linter.unusedSimpArgs false
set_option linter.unnecessarySimpa false
namespace Go.Proofs.Sky
open Go Go.RowKit Go.Shelf
set_option maxHeartbeats 4000000
set_option maxRecDepth 4000
theorem law_slips_pos (zs : List Int) (v : Value) (e0 g0 w0 a0 mr : Int) (w : World) (hv : RdI w v zs) (hmo : ¬ mr < 0) (hk2 : 2 ≤ scK zs) :
    Calls Try.prog 7 #[v, .int .i64 e0, .int .i64 g0, .int .i64 w0, .int .i64 a0, .int .i64 mr] w fun r w' => r = .returned (.bool true) ∧ Bw w w' := by
  have HV := Lib.hid hv
  obtain ⟨ad, cap, rfl⟩ := hv.form
  clear hv
  obtain ⟨k, hk⟩ : ∃ k, k = scK zs := ⟨_, rfl⟩
  have hk40 : k ≤ 40 := by rw [hk]; unfold scK; omega
  rw [← hk] at hk2
  have P1 := Lib.hid (fun W => pick_any e0 10001 W (by omega) (by omega))
  have P2 := Lib.hid (fun W => pick_any g0 101 W (by omega) (by omega))
  have P4 := Lib.hid (fun W => pick_any w0 100 W (by omega) (by omega))
  have P5 := Lib.hid (fun W => pick_any a0 ((k : Int) - 1) W (by omega) (by omega))
  have P6 := Lib.hid (fun W => pick_any mr 1000 W (by omega) (by omega))
  have ⟨a1, a2⟩ := bel_bd e0 10001 (by omega)
  have ⟨a3, a4⟩ := bel_bd g0 101 (by omega)
  have ⟨a7, a8⟩ := bel_bd w0 100 (by omega)
  have ⟨a9, a10⟩ := bel_bd a0 ((k : Int) - 1) (by omega)
  have ⟨a11, a12⟩ := bel_bd mr 1000 (by omega)
  generalize bel e0 10001 = e at *
  generalize bel g0 101 = g at *
  generalize bel w0 100 = wd at *
  generalize bel mr 1000 = q at *
  obtain ⟨a, ha⟩ : ∃ a : Nat, bel a0 ((k : Int) - 1) = (a : Int) - 1 := ⟨(bel a0 ((k : Int) - 1) + 1).toNat, by omega⟩
  rw [ha] at P5 a9 a10
  clear ha
  have SC := Lib.hid (fun W hW => scene_any zs (.slice ad zs.length cap) e g 5000 W hW (by omega) (by omega) (by omega) (by omega) (by omega) (by omega))
  unfold SceneP at SC
  rw [← hk] at SC
  obtain ⟨J, hJ⟩ : ∃ J, J = 2 * e + 2 * g + 2 * e + 2 * g + 1 + q := ⟨_, rfl⟩
  obtain ⟨rs, hrs, hrl, hrj⟩ := slips_final zs e g (1 + wd) J (by omega) (by omega) (by omega) (by omega) (by omega) (by omega) (by omega) (by omega) k a hk40 (by omega) (by omega)
  have RP := Lib.hid (fun W v hW => Replay_any (1 + wd) (2 * e + 2 * g) (bumpL J a k (scMs zs e g 5000 k)) v W hW)
  rw [hrs] at RP
  have HML := Lib.hid (scMs_len zs e g 5000 k)
  have HTL := Lib.hid (scTs_len zs k)
  have HMB := Lib.hid (fun j (hj : j < k) => (by rw [show (scMs zs e g 5000 k).getD j (0, 0) = scM zs e g 5000 j from getD_map_range _ k j _ hj]; have h1 := scM_bd zs e g 5000 j (by omega) (by omega); have h2 := scA_bd zs (j + 1); omega : -30000000 ≤ ((scMs zs e g 5000 k).getD j (0, 0)).2 ∧ ((scMs zs e g 5000 k).getD j (0, 0)).2 ≤ 30000000))
  replace hrl := Lib.hid hrl
  generalize scMs zs e g 5000 k = ms at *
  generalize scTs zs k = ts at *
  have HJ := Lib.hid hrj
  have HJE := Lib.hid hJ
  have HBW := Lib.hid (Bw.refl w)
  obtain ⟨BB, hBB⟩ : ∃ BB, w.heap.size = BB := ⟨_, rfl⟩
  have HB := Lib.hid hBB
  have hJb : -1000000 ≤ J ∧ J ≤ 1000000 := by omega
  obtain ⟨hJ1, hJ2⟩ := hJb
  clear hrj hrs hk hBB hJ
  have hkz : ¬ (k : Int) < 2 := by omega
  have hk1 : (0 : Int) < (k : Int) - 1 := by omega
  go_enter Try.func7, Try.ntmps7
  go_wp2_with (first | (go_at_call 5; refine (law_known _).mono ?_; rintro e1 u1 ⟨rfl, hb1⟩; replace HBW := Lib.hid (HBW.out.trans hb1); clear hb1) | (go_at_call 21; (with_reducible refine Calls.mono (P1.out _) ?_); rintro e1 u2 ⟨rfl, hb1⟩; replace HBW := Lib.hid (HBW.out.trans hb1); clear hb1 P1) | (go_at_call 21; (with_reducible refine Calls.mono (P2.out _) ?_); rintro e1 u3 ⟨rfl, hb1⟩; replace HBW := Lib.hid (HBW.out.trans hb1); clear hb1 P2) | (go_at_call 21; (with_reducible refine Calls.mono (P4.out _) ?_); rintro e1 u5 ⟨rfl, hb1⟩; replace HBW := Lib.hid (HBW.out.trans hb1); clear hb1 P4) | (go_at_call 22; (with_reducible refine Calls.mono (SC.out _ ?_) ?_); exact HV.out.mono HBW.out; rintro e1 u6 ⟨⟨v1, v2, rfl, ⟨_, _, hm⟩, hts, _⟩, hb1⟩; replace hm := own_down hm (show BB ≤ _ by have := HBW.out.size; have := HB.out; omega); replace HBW := Lib.hid (HBW.out.trans hb1); obtain ⟨am, cm, rfl⟩ := own_form2 hm; obtain ⟨at1, ct, rfl⟩ := hts.form; rw [HML.out] at hm ⊢; rw [HTL.out] at hts ⊢; have HO := Lib.hid hm; clear hb1 SC hm hts) | (go_at_call 21; (with_reducible refine Calls.mono (P5.out _) ?_); rintro e1 u7 ⟨rfl, hb1⟩; replace HBW := Lib.hid (HBW.out.trans hb1); replace HO := Lib.hid (own_bw HO.out hb1); clear hb1 P5) | (go_at_call 21; (with_reducible refine Calls.mono (P6.out _) ?_); rintro e1 u8 ⟨rfl, hb1⟩; replace HBW := Lib.hid (HBW.out.trans hb1); replace HO := Lib.hid (own_bw HO.out hb1); clear hb1 P6))
  rw [show (1 : Int) + ((a : Int) - 1) = a by omega, ← HJE.out]
  obtain ⟨gg0, rfl, hbg⟩ : ∃ G : Nat, am = some ⟨G, 0, none⟩ ∧ BB ≤ G := by
    obtain ⟨G, c, e1, _⟩ := own_form HO.out (by omega)
    injection e1 with e1 _ _
    subst e1
    exact ⟨G, rfl, (HO.out.lt G rfl).1⟩
  have HG := Lib.hid hbg
  clear hbg
  replace HO := Lib.hid (show u8.ownsRow BB 24 2 (.slice (some ⟨gg0, 0, none⟩) k cm) k (flat (bumpL J a a ms)) by rw [bumpL_start]; exact HO.out)
  go_loopg [18] 40 (fun gg s18 wr => ∃ i : Nat, a ≤ i ∧ i ≤ k ∧ k - i ≤ gg ∧ s18 = .int .i64 i ∧ Hid (Bw w wr) ∧ Hid (wr.ownsRow BB 24 2 (.slice (some ⟨gg0, 0, none⟩) k cm) k (flat (bumpL J a i ms))))
  case atStart => exact ⟨a, Nat.le_refl _, by omega, by omega, rfl, HBW, HO⟩
  case round =>
    obtain ⟨i, hai, hik, hgg, rfl, HW, O1⟩ := hrel
    by_cases hlt : i < k
    · have hkz2 : (i : Int) < k := by omega
      have ⟨b1, b2⟩ := HMB.out i hlt
      have hst := Lib.hid (bumpL_step J a i ms hai (by have := HML.out; omega))
      have hgd : (bumpL J a i ms).getD i (0, 0) = ms.getD i (0, 0) := by rw [bumpL_at _ _ _ _ _ (by have := HML.out; omega), if_neg (by omega)]
      have hfa := (flat_at (bumpL J a i ms) i (by rw [bumpL_len, HML.out]; exact hlt)).2
      rw [hgd] at hfa
      have k1 : wr.cell? ⟨gg0, i * 2 + 1, none⟩ = some (.int .i64 (ms.getD i (0, 0)).2) := (O1.out.cellAt _ (by omega)).trans hfa
      have k2 := O1.out.frozenAt (i * 2 + 1)
      have HGD := Lib.hid hgd
      clear hgd hfa
      obtain ⟨y, hy⟩ : ∃ y, (ms.getD i (0, 0)).2 = y := ⟨_, rfl⟩
      rw [hy] at k1 b1 b2
      have HY := Lib.hid hy
      clear hy
      go_wp2
      go_region
      have hsz := HG.out
      have hO : ((wr.setCell ⟨gg0, i * 2 + 1, none⟩ (.int .i64 (y + J))).drew).ownsRow BB 24 2 (.slice (some ⟨gg0, 0, none⟩) k cm) k (flat (bumpL J a (i + 1) ms)) := by
        have h9 := (O1.out.stored (i * 2 + 1) (.int .i64 (y + J))).1
        have hst2 := hst.out
        rw [HY.out] at hst2
        rw [flat_put _ _ (by rw [bumpL_len, HML.out]; exact hlt), HGD.out, hst2] at h9
        exact own_bw h9 (Bw.drew (Bw.refl _))
      replace HW := Lib.hid (Bw.drew (Bw.setCell HW.out (p := ⟨gg0, i * 2 + 1, none⟩) (by have := HB.out; simp; omega) (.int .i64 (y + J))))
      have HO2 := Lib.hid hO
      clear hO hsz k1 k2
      go_wp2
      go_roundg (k - (i + 1))
      case measure => omega
      case rel => exact ⟨i + 1, by omega, by omega, by omega, by go_num, HW, HO2⟩
    · obtain rfl : k = i := by omega
      have hlen : (bumpL J a k ms).length = k := by rw [bumpL_len, HML.out]
      have H1 : Hid (RdS wr (.slice (some ⟨gg0, 0, none⟩) k cm) (bumpL J a k ms)) := Lib.hid (by
        have h9 := (own_rdS2 (ps := bumpL J a k ms) (by rw [hlen]; exact O1.out) (by rw [hlen]; omega)).1
        exact h9)
      clear hlen O1
      have hkz2 : ¬ (k : Int) < k := by omega
      go_wp2_with (go_at_call 10; (with_reducible refine Calls.mono (RP.out _ _ H1.out) ?_); rintro e1 x1 ⟨⟨v3, v4, rfl, hr3, hr4, _, _⟩, hb1⟩; have hbx1 := hb1; obtain ⟨ar, cr, rfl⟩ := hr3.form; obtain ⟨a4, c4, rfl⟩ := hr4.form; rw [hrl.out] at hr3 ⊢; have HR := Lib.hid hr3; have HS := Lib.hid hr4; replace H1 := Lib.hid (H1.out.mono hb1); clear hb1 RP hr3 hr4)
      obtain ⟨b1, o1, c1, hv1, hb1, hd1⟩ := HR.out.at (by have := hrl.out; omega)
      injection hv1 with i1 i2 i3; subst i1; clear i2 i3
      have hd1 := hd1 a (by have := hrl.out; omega)
      rw [HJ.out] at hd1
      obtain ⟨b2, o2, c2, hv2, hb2, hd2⟩ := H1.out.at (by rw [bumpL_len]; have := HML.out; omega)
      injection hv2 with i1 i2 i3; injection i1 with i1; injection i1 with i1 i4; subst i1 i4; clear i2 i3
      have hd2 := (hd2 a (by rw [bumpL_len]; have := HML.out; omega)).1
      rw [show ((bumpL J a k ms).getD a (0, 0)).1 = (ms.getD a (0, 0)).1 by rw [bumpL_at _ _ _ _ _ (by have := HML.out; omega)]; split <;> rfl, Nat.zero_add] at hd2
      generalize (ms.getD a (0, 0)).1 = x at hd1 hd2
      have f0 := Lib.hid hd1.1
      have f1 := Lib.hid hd1.2
      have f2 := Lib.hid hd2
      clear hd1 hd2 hb1 hb2 HJ
      have hak : (a : Int) < k := by omega
      clear hkz2 hlt hgg hik hai hk1 hkz
      refine wp_region_held_drew (S := Bw x1) (by kernel_rfl) (Bw.drew (Bw.refl x1)) (fun hS => ?_)
      generalize World.drew _ = wd at hS ⊢
      refine take1 (i := 0) (some 93) rfl rfl (by kernel_rfl) (by kernel_rfl) (by kernel_rfl) (fun _ _ _ _ h => h) rfl hS ?_
      apply Exists.intro
      apply And.intro
      · intro W9 hW9; have y0 := hW9.cell' f0.out; have y1 := hW9.cell' f1.out; have y2 := hW9.cell' f2.out; go_simp; try with_reducible rfl
      simp only [Act.put, List.setIfInBounds_toArray, List.set_cons_zero, List.set_cons_succ]
      refine take1 (i := 1) (some 94) rfl rfl (by kernel_rfl) (by kernel_rfl) (by kernel_rfl) (fun _ _ _ _ h => h) rfl hS ?_
      apply Exists.intro
      apply And.intro
      · intro W9 hW9; have y0 := hW9.cell' f0.out; have y1 := hW9.cell' f1.out; have y2 := hW9.cell' f2.out; go_simp; try with_reducible rfl
      simp only [Act.put, List.setIfInBounds_toArray, List.set_cons_zero, List.set_cons_succ]
      refine take1 (i := 2) (some 95) rfl rfl (by kernel_rfl) (by kernel_rfl) (by kernel_rfl) (fun _ _ _ _ h => h) rfl hS ?_
      apply Exists.intro
      apply And.intro
      · intro W9 hW9; have y0 := hW9.cell' f0.out; have y1 := hW9.cell' f1.out; have y2 := hW9.cell' f2.out; go_simp; try with_reducible rfl
      simp only [Act.put, List.setIfInBounds_toArray, List.set_cons_zero, List.set_cons_succ]
      refine take1 (i := 3) (some 96) rfl rfl (by kernel_rfl) (by kernel_rfl) (by kernel_rfl) (fun _ _ _ _ h => h) rfl hS ?_
      refine Exists.intro (.bool true) ?_
      apply And.intro
      · intro W9 hW9; have y0 := hW9.cell' f0.out; have y1 := hW9.cell' f1.out; have y2 := hW9.cell' f2.out; go_simp; (try go_bits); (try with_reducible rfl); (try trivial)
      simp only [Act.put, List.setIfInBounds_toArray, List.set_cons_zero, List.set_cons_succ]
      refine take1 (i := 4) (some 97) rfl rfl (by kernel_rfl) (by kernel_rfl) (by kernel_rfl) (fun _ _ _ _ h => h) rfl hS ?_
      refine Exists.intro (.bool true) ?_
      apply And.intro
      · intro W9 hW9; have y0 := hW9.cell' f0.out; have y1 := hW9.cell' f1.out; have y2 := hW9.cell' f2.out; go_simp; (try go_bits); (try with_reducible rfl); (try trivial)
      simp only [Act.put, List.setIfInBounds_toArray, List.set_cons_zero, List.set_cons_succ]
      refine take1 (i := 5) (some 98) rfl rfl (by kernel_rfl) (by kernel_rfl) (by kernel_rfl) (fun _ _ _ _ h => h) rfl hS ?_
      refine Exists.intro (.bool true) ?_
      apply And.intro
      · intro W9 hW9; have y0 := hW9.cell' f0.out; have y1 := hW9.cell' f1.out; have y2 := hW9.cell' f2.out; go_simp; (try go_bits); (try with_reducible rfl); (try trivial)
      simp only [Act.put, List.setIfInBounds_toArray, List.set_cons_zero, List.set_cons_succ]
      refine take1 (i := 6) (some 99) rfl rfl (by kernel_rfl) (by kernel_rfl) (by kernel_rfl) (fun _ _ _ _ h => h) rfl hS ?_
      apply Exists.intro
      apply And.intro
      · intro W9 hW9; have y0 := hW9.cell' f0.out; have y1 := hW9.cell' f1.out; have y2 := hW9.cell' f2.out; go_simp; try with_reducible rfl
      simp only [Act.put, List.setIfInBounds_toArray, List.set_cons_zero, List.set_cons_succ]
      refine take1 (i := 7) (some 100) rfl rfl (by kernel_rfl) (by kernel_rfl) (by kernel_rfl) (fun _ _ _ _ h => h) rfl hS ?_
      apply Exists.intro
      apply And.intro
      · intro W9 hW9; have y0 := hW9.cell' f0.out; have y1 := hW9.cell' f1.out; have y2 := hW9.cell' f2.out; go_simp; try with_reducible rfl
      simp only [Act.put, List.setIfInBounds_toArray, List.set_cons_zero, List.set_cons_succ]
      refine wpAnyH_ready (rs := [8]) (by kernel_rfl) (by simp) ?_
      refine AllReadyH.cons rfl (fun K hK => ?_) ?_
      go_simp
      have hb6 := Bw.alloc (Bw.refl wd) (.cells #[.int .i64 a] 3)
      refine hK.out _ _ (hS.trans hb6) (fun hS => ?_)
      clear hK K
      refine wpAnyH_ready (rs := [9]) (by kernel_rfl) (by simp) ?_
      refine AllReadyH.cons rfl (fun K hK => ?_) ?_
      go_simp
      go_wp2_with (go_at_call 13; (with_reducible refine Calls.mono (same_same [(a : Int)] _ _ _ ?_ ?_) ?_); (focus exact HS.out.mono hS); (focus exact RdI.lit _ _ _ [(a : Int)] (by rfl) (by simp)); rintro e1 x3 ⟨rfl, hbx3⟩)
      refine hK.out _ _ (hS.trans hbx3) (fun hS => ?_)
      clear hK K
      refine take1 (i := 10) (some 103) rfl rfl (by kernel_rfl) (by kernel_rfl) (by kernel_rfl) (fun _ _ _ _ h => h) rfl hS ?_
      refine Exists.intro (.bool true) ?_
      apply And.intro
      · intro W9 hW9; have y0 := hW9.cell' f0.out; have y1 := hW9.cell' f1.out; have y2 := hW9.cell' f2.out; go_simp; (try go_bits); (try with_reducible rfl); (try trivial)
      simp only [Act.put, List.setIfInBounds_toArray, List.set_cons_zero, List.set_cons_succ]
      refine take1 (i := 11) (some 104) rfl rfl (by kernel_rfl) (by kernel_rfl) (by kernel_rfl) (fun _ _ _ _ h => h) rfl hS ?_
      refine Exists.intro (.bool true) ?_
      apply And.intro
      · intro W9 hW9; have y0 := hW9.cell' f0.out; have y1 := hW9.cell' f1.out; have y2 := hW9.cell' f2.out; go_simp; (try go_bits); (try with_reducible rfl); (try trivial)
      simp only [Act.put, List.setIfInBounds_toArray, List.set_cons_zero, List.set_cons_succ]
      refine take1 (i := 12) (some 105) rfl rfl (by kernel_rfl) (by kernel_rfl) (by kernel_rfl) (fun _ _ _ _ h => h) rfl hS ?_
      apply Exists.intro
      apply And.intro
      · intro W9 hW9; have y0 := hW9.cell' f0.out; have y1 := hW9.cell' f1.out; have y2 := hW9.cell' f2.out; go_simp; try with_reducible rfl
      simp only [Act.put, List.setIfInBounds_toArray, List.set_cons_zero, List.set_cons_succ]
      refine take1 (i := 13) (some 106) rfl rfl (by kernel_rfl) (by kernel_rfl) (by kernel_rfl) (fun _ _ _ _ h => h) rfl hS ?_
      refine Exists.intro (.int .i64 k) ?_
      apply And.intro
      · intro W9 hW9; have y0 := hW9.cell' f0.out; have y1 := hW9.cell' f1.out; have y2 := hW9.cell' f2.out; go_simp; (try go_bits); (try with_reducible rfl); (try trivial)
      simp only [Act.put, List.setIfInBounds_toArray, List.set_cons_zero, List.set_cons_succ]
      refine take1 (i := 14) (some 107) rfl rfl (by kernel_rfl) (by kernel_rfl) (by kernel_rfl) (fun _ _ _ _ h => h) rfl hS ?_
      apply Exists.intro
      apply And.intro
      · intro W9 hW9; have y0 := hW9.cell' f0.out; have y1 := hW9.cell' f1.out; have y2 := hW9.cell' f2.out; go_simp; try with_reducible rfl
      simp only [Act.put, List.setIfInBounds_toArray, List.set_cons_zero, List.set_cons_succ]
      refine take1 (i := 15) (some 108) rfl rfl (by kernel_rfl) (by kernel_rfl) (by kernel_rfl) (fun _ _ _ _ h => h) rfl hS ?_
      refine Exists.intro (.int .i64 k) ?_
      apply And.intro
      · intro W9 hW9; have y0 := hW9.cell' f0.out; have y1 := hW9.cell' f1.out; have y2 := hW9.cell' f2.out; go_simp; (try go_bits); (try with_reducible rfl); (try trivial)
      simp only [Act.put, List.setIfInBounds_toArray, List.set_cons_zero, List.set_cons_succ]
      refine take1 (i := 16) (some 109) rfl rfl (by kernel_rfl) (by kernel_rfl) (by kernel_rfl) (fun _ _ _ _ h => h) rfl hS ?_
      refine Exists.intro (.bool true) ?_
      apply And.intro
      · intro W9 hW9; have y0 := hW9.cell' f0.out; have y1 := hW9.cell' f1.out; have y2 := hW9.cell' f2.out; go_simp; (try go_bits); (try with_reducible rfl); (try trivial)
      simp only [Act.put, List.setIfInBounds_toArray, List.set_cons_zero, List.set_cons_succ]
      refine take1 (i := 17) (some 110) rfl rfl (by kernel_rfl) (by kernel_rfl) (by kernel_rfl) (fun _ _ _ _ h => h) rfl hS ?_
      refine Exists.intro (.bool true) ?_
      apply And.intro
      · intro W9 hW9; have y0 := hW9.cell' f0.out; have y1 := hW9.cell' f1.out; have y2 := hW9.cell' f2.out; go_simp; (try go_bits); (try with_reducible rfl); (try trivial)
      simp only [Act.put, List.setIfInBounds_toArray, List.set_cons_zero, List.set_cons_succ]
      refine take1 (i := 18) (some 111) rfl rfl (by kernel_rfl) (by kernel_rfl) (by kernel_rfl) (fun _ _ _ _ h => h) rfl hS ?_
      refine Exists.intro (.bool true) ?_
      apply And.intro
      · intro W9 hW9; have y0 := hW9.cell' f0.out; have y1 := hW9.cell' f1.out; have y2 := hW9.cell' f2.out; go_simp; (try go_bits); (try with_reducible rfl); (try trivial)
      simp only [Act.put, List.setIfInBounds_toArray, List.set_cons_zero, List.set_cons_succ]
      refine take1 (i := 19) (some 112) rfl rfl (by kernel_rfl) (by kernel_rfl) (by kernel_rfl) (fun _ _ _ _ h => h) rfl hS ?_
      apply Exists.intro
      apply And.intro
      · intro W9 hW9; have y0 := hW9.cell' f0.out; have y1 := hW9.cell' f1.out; have y2 := hW9.cell' f2.out; go_simp; try with_reducible rfl
      simp only [Act.put, List.setIfInBounds_toArray, List.set_cons_zero, List.set_cons_succ]
      refine take1 (i := 20) (some 113) rfl rfl (by kernel_rfl) (by kernel_rfl) (by kernel_rfl) (fun _ _ _ _ h => h) rfl hS ?_
      apply Exists.intro
      apply And.intro
      · intro W9 hW9; have y0 := hW9.cell' f0.out; have y1 := hW9.cell' f1.out; have y2 := hW9.cell' f2.out; go_simp; try with_reducible rfl
      simp only [Act.put, List.setIfInBounds_toArray, List.set_cons_zero, List.set_cons_succ]
      refine take1 (i := 21) (some 114) rfl rfl (by kernel_rfl) (by kernel_rfl) (by kernel_rfl) (fun _ _ _ _ h => h) rfl hS ?_
      refine Exists.intro (.pointer (some ⟨b1, o1 + a * 2, none⟩)) ?_
      apply And.intro
      · intro W9 hW9; have y0 := hW9.cell' f0.out; have y1 := hW9.cell' f1.out; have y2 := hW9.cell' f2.out; go_simp; (try go_bits); (try with_reducible rfl); (try trivial)
      simp only [Act.put, List.setIfInBounds_toArray, List.set_cons_zero, List.set_cons_succ]
      refine take1 (i := 22) (some 115) rfl rfl (by kernel_rfl) (by kernel_rfl) (by kernel_rfl) (fun _ _ _ _ h => h) rfl hS ?_
      refine Exists.intro (.agg #[.int .i64 x, .int .i64 1]) ?_
      apply And.intro
      · intro W9 hW9; have y0 := hW9.cell' f0.out; have y1 := hW9.cell' f1.out; have y2 := hW9.cell' f2.out; go_simp; (try go_bits); (try with_reducible rfl); (try trivial)
      simp only [Act.put, List.setIfInBounds_toArray, List.set_cons_zero, List.set_cons_succ]
      refine take1 (i := 23) (some 116) rfl rfl (by kernel_rfl) (by kernel_rfl) (by kernel_rfl) (fun _ _ _ _ h => h) rfl hS ?_
      apply Exists.intro
      apply And.intro
      · intro W9 hW9; have y0 := hW9.cell' f0.out; have y1 := hW9.cell' f1.out; have y2 := hW9.cell' f2.out; go_simp; try with_reducible rfl
      simp only [Act.put, List.setIfInBounds_toArray, List.set_cons_zero, List.set_cons_succ]
      refine take1 (i := 24) (some 117) rfl rfl (by kernel_rfl) (by kernel_rfl) (by kernel_rfl) (fun _ _ _ _ h => h) rfl hS ?_
      apply Exists.intro
      apply And.intro
      · intro W9 hW9; have y0 := hW9.cell' f0.out; have y1 := hW9.cell' f1.out; have y2 := hW9.cell' f2.out; go_simp; try with_reducible rfl
      simp only [Act.put, List.setIfInBounds_toArray, List.set_cons_zero, List.set_cons_succ]
      refine take1 (i := 25) (some 118) rfl rfl (by kernel_rfl) (by kernel_rfl) (by kernel_rfl) (fun _ _ _ _ h => h) rfl hS ?_
      refine Exists.intro (.pointer (some ⟨gg0, a * 2, none⟩)) ?_
      apply And.intro
      · intro W9 hW9; have y0 := hW9.cell' f0.out; have y1 := hW9.cell' f1.out; have y2 := hW9.cell' f2.out; go_simp; (try go_bits); (try with_reducible rfl); (try trivial)
      simp only [Act.put, List.setIfInBounds_toArray, List.set_cons_zero, List.set_cons_succ]
      refine take1 (i := 26) (some 119) rfl rfl (by kernel_rfl) (by kernel_rfl) (by kernel_rfl) (fun _ _ _ _ h => h) rfl hS ?_
      refine Exists.intro (.pointer (some ⟨gg0, a * 2, none⟩)) ?_
      apply And.intro
      · intro W9 hW9; have y0 := hW9.cell' f0.out; have y1 := hW9.cell' f1.out; have y2 := hW9.cell' f2.out; go_simp; (try go_bits); (try with_reducible rfl); (try trivial)
      simp only [Act.put, List.setIfInBounds_toArray, List.set_cons_zero, List.set_cons_succ]
      refine take1 (i := 27) (some 120) rfl rfl (by kernel_rfl) (by kernel_rfl) (by kernel_rfl) (fun _ _ _ _ h => h) rfl hS ?_
      refine Exists.intro (.int .i64 x) ?_
      apply And.intro
      · intro W9 hW9; have y0 := hW9.cell' f0.out; have y1 := hW9.cell' f1.out; have y2 := hW9.cell' f2.out; go_simp; (try go_bits); (try with_reducible rfl); (try trivial)
      simp only [Act.put, List.setIfInBounds_toArray, List.set_cons_zero, List.set_cons_succ]
      refine take1 (i := 28) (some 121) rfl rfl (by kernel_rfl) (by kernel_rfl) (by kernel_rfl) (fun _ _ _ _ h => h) rfl hS ?_
      refine Exists.intro (.agg #[.int .i64 x, .int .i64 1]) ?_
      apply And.intro
      · intro W9 hW9; have y0 := hW9.cell' f0.out; have y1 := hW9.cell' f1.out; have y2 := hW9.cell' f2.out; go_simp; (try go_bits); (try with_reducible rfl); (try trivial)
      simp only [Act.put, List.setIfInBounds_toArray, List.set_cons_zero, List.set_cons_succ]
      refine take1 (i := 29) (some 122) rfl rfl (by kernel_rfl) (by kernel_rfl) (by kernel_rfl) (fun _ _ _ _ h => h) rfl hS ?_
      refine Exists.intro (.bool true) ?_
      apply And.intro
      · intro W9 hW9; have y0 := hW9.cell' f0.out; have y1 := hW9.cell' f1.out; have y2 := hW9.cell' f2.out; go_simp; (try go_bits); (try with_reducible rfl); (try trivial)
      simp only [Act.put, List.setIfInBounds_toArray, List.set_cons_zero, List.set_cons_succ]
      refine take1 (i := 30) (some 123) rfl rfl (by kernel_rfl) (by kernel_rfl) (by kernel_rfl) (fun _ _ _ _ h => h) rfl hS ?_
      refine Exists.intro (.bool true) ?_
      apply And.intro
      · intro W9 hW9; have y0 := hW9.cell' f0.out; have y1 := hW9.cell' f1.out; have y2 := hW9.cell' f2.out; go_simp; (try go_bits); (try with_reducible rfl); (try trivial)
      simp only [Act.put, List.setIfInBounds_toArray, List.set_cons_zero, List.set_cons_succ]
      refine take1 (i := 31) (some 12) rfl rfl (by kernel_rfl) (by kernel_rfl) (by kernel_rfl) (fun _ _ _ _ h => h) rfl hS ?_
      apply Exists.intro
      apply And.intro
      · intro W9 hW9; have y0 := hW9.cell' f0.out; have y1 := hW9.cell' f1.out; have y2 := hW9.cell' f2.out; go_simp; try with_reducible rfl
      simp only [Act.put, List.setIfInBounds_toArray, List.set_cons_zero, List.set_cons_succ]
      refine wpAnyH_done (by kernel_rfl) ?_ _
      rotate_left
      exact AllReadyH.nil
      exact AllReadyH.nil
      go_wp2
      go_ret
      exact ⟨rfl, HW.out.trans (hbx1.trans hS)⟩
end Go.Proofs.Sky
