/-
  lemmas for the theorems of this claim. No conditions beyond those written in the statements.
-/
import Derived.Test.YtdaplhjkccfmgaaFF30
set_option linter.unusedVariables false
set_option linter.unusedSimpArgs false
set_option linter.unnecessarySimpa false
namespace Go.Proofs.Sky
open Go Go.RowKit Go.Shelf
set_option maxHeartbeats 4000000
set_option maxRecDepth 4000
theorem law_shifts_main (ps : List (Int × Int)) (v : Value) (a0 b0 w0 l0 : Int) (w : World) (hv : RdS w v ps) (hl : ps.length ≤ 100) :
    Calls Try.prog 8 #[v, .int .i64 a0, .int .i64 b0, .int .i64 w0, .int .i64 l0] w fun r w' => r = .returned (.bool true) ∧ Bw w w' := by
  have HV := Lib.hid hv
  obtain ⟨ad, cap, rfl⟩ := hv.form
  clear hv
  have hli : ¬ (100 : Int) < ps.length := by omega
  have P1 := Lib.hid (fun W => pick_any w0 100 W (by omega) (by omega))
  have P2 := Lib.hid (fun W => pick_any l0 1000000001 W (by omega) (by omega))
  have P3 := Lib.hid (fun W => pick_any a0 2000000001 W (by omega) (by omega))
  have P4 := Lib.hid (fun W => pick_any b0 2000000001 W (by omega) (by omega))
  have ⟨a1, a2⟩ := bel_bd w0 100 (by omega)
  have ⟨a3, a4⟩ := bel_bd l0 1000000001 (by omega)
  have ⟨a5, a6⟩ := bel_bd a0 2000000001 (by omega)
  have ⟨a7, a8⟩ := bel_bd b0 2000000001 (by omega)
  generalize bel w0 100 = wd at *
  generalize bel l0 1000000001 = L at *
  generalize bel a0 2000000001 = A at *
  generalize bel b0 2000000001 = B at *
  have HBW := Lib.hid (Bw.refl w)
  go_enter Try.func8, Try.ntmps8
  go_wp2_with (first | (go_at_call 5; refine (law_known _).mono ?_; rintro e1 u1 ⟨rfl, hb1⟩; replace HBW := Lib.hid (HBW.out.trans hb1); clear hb1) | (go_at_call 21; (with_reducible refine Calls.mono (P1.out _) ?_); rintro e1 u2 ⟨rfl, hb1⟩; replace HBW := Lib.hid (HBW.out.trans hb1); clear hb1 P1) | (go_at_call 21; (with_reducible refine Calls.mono (P2.out _) ?_); rintro e1 u3 ⟨rfl, hb1⟩; replace HBW := Lib.hid (HBW.out.trans hb1); clear hb1 P2) | (go_at_call 21; (with_reducible refine Calls.mono (P3.out _) ?_); rintro e1 u4 ⟨rfl, hb1⟩; replace HBW := Lib.hid (HBW.out.trans hb1); clear hb1 P3) | (go_at_call 21; (with_reducible refine Calls.mono (P4.out _) ?_); rintro e1 u5 ⟨rfl, hb1⟩; replace HBW := Lib.hid (HBW.out.trans hb1); clear hb1 P4))
  obtain ⟨n, hn⟩ : ∃ n, n = ps.length := ⟨_, rfl⟩
  obtain ⟨BB, hBB⟩ : ∃ BB, w.heap.size = BB := ⟨_, rfl⟩
  have HN := Lib.hid hn
  have HB := Lib.hid hBB
  rw [← hn] at hl ⊢
  clear hn hBB hli
  have HV2 := Lib.hid (HV.out.mono HBW.out)
  go_loopg [12, 13, 14] 100 (fun gg s12 s13 s14 wr => ∃ k : Nat, k ≤ n ∧ n - k ≤ gg ∧ s14 = .int .i64 k ∧ Hid (Bw w wr) ∧ Hid (wr.ownsRow BB 24 2 s12 ((ps.take k).map shP).length (flat ((ps.take k).map shP))) ∧ Hid (wr.ownsRow BB 24 2 s13 (((ps.take k).map shP).map (shiftM (A - 1000000000) (B - 1000000000))).length (flat (((ps.take k).map shP).map (shiftM (A - 1000000000) (B - 1000000000))))) ∧ Hid (Apart s12 s13))
  case atStart => exact ⟨0, Nat.zero_le _, by omega, rfl, HBW, Lib.hid (World.ownsRow_nil _ _ _ _), Lib.hid (World.ownsRow_nil _ _ _ _), Lib.hid (fun g h => by cases h)⟩
  case round =>
    obtain ⟨k, hk, hgg, rfl, HW, O1, O2, HP⟩ := hrel
    by_cases hlt : k < n
    · have hkz : (k : Int) < n := by omega
      obtain ⟨b, off, c1, hv1, hb1, hd1⟩ := HV.out.at (by have := HN.out; omega)
      injection hv1 with x1 x2 x3; subst x1; clear x2 x3
      have hd1 := hd1 k (by have := HN.out; omega)
      have f1 := Lib.hid hd1.1
      have f2 := Lib.hid hd1.2
      have P5 := Lib.hid (fun W => pick_any (ps.getD k (0, 0)).1 1000000001 W (by omega) (by omega))
      have P6 := Lib.hid (fun W => pick_any (ps.getD k (0, 0)).2 1000000001 W (by omega) (by omega))
      have ⟨q1, q2⟩ := bel_bd (ps.getD k (0, 0)).1 1000000001 (by omega)
      have ⟨q3, q4⟩ := bel_bd (ps.getD k (0, 0)).2 1000000001 (by omega)
      have HTK := Lib.hid (show (ps.take (k + 1)).map shP = (ps.take k).map shP ++ [(bel (ps.getD k (0, 0)).1 1000000001, bel (ps.getD k (0, 0)).2 1000000001)] by
        rw [List.take_add_one, List.map_append, List.getD_eq_getElem?_getD]
        have hk2 : k < ps.length := by have := HN.out; omega
        simp [List.getElem?_eq_getElem hk2, shP])
      clear hd1
      generalize (ps.getD k (0, 0)).1 = z1 at *
      generalize (ps.getD k (0, 0)).2 = z2 at *
      generalize bel z1 1000000001 = p at *
      generalize bel z2 1000000001 = f at *
      go_wp2
      refine wp_region_held_drew (S := Bw w) (by kernel_rfl) (HW.out.trans (Bw.drew (Bw.refl _))) (fun hS => ?_)
      have hbd := Bw.drew (Bw.refl wr)
      replace O1 := Lib.hid (own_bw O1.out hbd); replace O2 := Lib.hid (own_bw O2.out hbd)
      clear hbd HW
      generalize World.drew _ = wd at hS O1 O2 ⊢
      refine take1 (i := 0) (some 46) rfl rfl (by kernel_rfl) (by kernel_rfl) (by kernel_rfl) (fun _ _ _ _ h => h) rfl hS ?_
      apply Exists.intro
      apply And.intro
      · intro W9 hW9; have y1 := hW9.cell' f1.out; have y2 := hW9.cell' f2.out; go_simp; try with_reducible rfl
      simp only [Act.put, List.setIfInBounds_toArray, List.set_cons_zero, List.set_cons_succ]
      refine take1 (i := 1) (some 47) rfl rfl (by kernel_rfl) (by kernel_rfl) (by kernel_rfl) (fun _ _ _ _ h => h) rfl hS ?_
      apply Exists.intro
      apply And.intro
      · intro W9 hW9; have y1 := hW9.cell' f1.out; have y2 := hW9.cell' f2.out; go_simp; try with_reducible rfl
      simp only [Act.put, List.setIfInBounds_toArray, List.set_cons_zero, List.set_cons_succ]
      refine take1 (i := 2) (some 48) rfl rfl (by kernel_rfl) (by kernel_rfl) (by kernel_rfl) (fun _ _ _ _ h => h) rfl hS ?_
      apply Exists.intro
      apply And.intro
      · intro W9 hW9; have y1 := hW9.cell' f1.out; have y2 := hW9.cell' f2.out; go_simp; try with_reducible rfl
      simp only [Act.put, List.setIfInBounds_toArray, List.set_cons_zero, List.set_cons_succ]
      refine take1 (i := 3) (some 49) rfl rfl (by kernel_rfl) (by kernel_rfl) (by kernel_rfl) (fun _ _ _ _ h => h) rfl hS ?_
      apply Exists.intro
      apply And.intro
      · intro W9 hW9; have y1 := hW9.cell' f1.out; have y2 := hW9.cell' f2.out; go_simp; try with_reducible rfl
      simp only [Act.put, List.setIfInBounds_toArray, List.set_cons_zero, List.set_cons_succ]
      refine take1 (i := 4) (some 50) rfl rfl (by kernel_rfl) (by kernel_rfl) (by kernel_rfl) (fun _ _ _ _ h => h) rfl hS ?_
      refine Exists.intro (.int .i64 (z1)) ?_
      apply And.intro
      · intro W9 hW9; have y1 := hW9.cell' f1.out; have y2 := hW9.cell' f2.out; go_simp; (try go_bits); (try with_reducible rfl); (try trivial)
      simp only [Act.put, List.setIfInBounds_toArray, List.set_cons_zero, List.set_cons_succ]
      refine take1 (i := 6) (some 52) rfl rfl (by kernel_rfl) (by kernel_rfl) (by kernel_rfl) (fun _ _ _ _ h => h) rfl hS ?_
      apply Exists.intro
      apply And.intro
      · intro W9 hW9; have y1 := hW9.cell' f1.out; have y2 := hW9.cell' f2.out; go_simp; try with_reducible rfl
      simp only [Act.put, List.setIfInBounds_toArray, List.set_cons_zero, List.set_cons_succ]
      refine take1 (i := 7) (some 53) rfl rfl (by kernel_rfl) (by kernel_rfl) (by kernel_rfl) (fun _ _ _ _ h => h) rfl hS ?_
      apply Exists.intro
      apply And.intro
      · intro W9 hW9; have y1 := hW9.cell' f1.out; have y2 := hW9.cell' f2.out; go_simp; try with_reducible rfl
      simp only [Act.put, List.setIfInBounds_toArray, List.set_cons_zero, List.set_cons_succ]
      refine take1 (i := 8) (some 54) rfl rfl (by kernel_rfl) (by kernel_rfl) (by kernel_rfl) (fun _ _ _ _ h => h) rfl hS ?_
      apply Exists.intro
      apply And.intro
      · intro W9 hW9; have y1 := hW9.cell' f1.out; have y2 := hW9.cell' f2.out; go_simp; try with_reducible rfl
      simp only [Act.put, List.setIfInBounds_toArray, List.set_cons_zero, List.set_cons_succ]
      refine take1 (i := 9) (some 55) rfl rfl (by kernel_rfl) (by kernel_rfl) (by kernel_rfl) (fun _ _ _ _ h => h) rfl hS ?_
      apply Exists.intro
      apply And.intro
      · intro W9 hW9; have y1 := hW9.cell' f1.out; have y2 := hW9.cell' f2.out; go_simp; try with_reducible rfl
      simp only [Act.put, List.setIfInBounds_toArray, List.set_cons_zero, List.set_cons_succ]
      refine take1 (i := 10) (some 56) rfl rfl (by kernel_rfl) (by kernel_rfl) (by kernel_rfl) (fun _ _ _ _ h => h) rfl hS ?_
      refine Exists.intro (.int .i64 (z2)) ?_
      apply And.intro
      · intro W9 hW9; have y1 := hW9.cell' f1.out; have y2 := hW9.cell' f2.out; go_simp; (try go_bits); (try with_reducible rfl); (try trivial)
      simp only [Act.put, List.setIfInBounds_toArray, List.set_cons_zero, List.set_cons_succ]
      refine wpAnyH_ready (rs := [5]) (by kernel_rfl) (by simp) ?_
      refine AllReadyH.cons rfl (fun K hK => ?_) ?_
      go_simp
      go_wp2_with (go_at_call 21; (with_reducible refine Calls.mono (P5.out _) ?_); rintro e1 w4 ⟨rfl, hb4⟩)
      replace O1 := Lib.hid (own_bw O1.out hb4)
      replace O2 := Lib.hid (own_bw O2.out hb4)
      refine hK.out _ _ (hS.trans hb4) (fun hS => ?_)
      clear hK K
      refine wpAnyH_ready (rs := [11]) (by kernel_rfl) (by simp) ?_
      refine AllReadyH.cons rfl (fun K hK => ?_) ?_
      go_simp
      go_wp2_with (go_at_call 21; (with_reducible refine Calls.mono (P6.out _) ?_); rintro e1 w5 ⟨rfl, hb5⟩)
      replace O1 := Lib.hid (own_bw O1.out hb5)
      replace O2 := Lib.hid (own_bw O2.out hb5)
      refine hK.out _ _ (hS.trans hb5) (fun hS => ?_)
      clear hK K
      refine take1 (i := 12) (some 15) rfl rfl (by kernel_rfl) (by kernel_rfl) (by kernel_rfl) (fun _ _ _ _ h => h) rfl hS ?_
      apply Exists.intro
      apply And.intro
      · intro W9 hW9; have y1 := hW9.cell' f1.out; have y2 := hW9.cell' f2.out; go_simp; try with_reducible rfl
      simp only [Act.put, List.setIfInBounds_toArray, List.set_cons_zero, List.set_cons_succ]
      refine take1 (i := 13) (some 16) rfl rfl (by kernel_rfl) (by kernel_rfl) (by kernel_rfl) (fun _ _ _ _ h => h) rfl hS ?_
      apply Exists.intro
      apply And.intro
      · intro W9 hW9; have y1 := hW9.cell' f1.out; have y2 := hW9.cell' f2.out; go_simp; try with_reducible rfl
      simp only [Act.put, List.setIfInBounds_toArray, List.set_cons_zero, List.set_cons_succ]
      refine wpAnyH_done (by kernel_rfl) ?_ _
      rotate_left
      exact AllReadyH.nil
      exact AllReadyH.nil
      have HL := Lib.hid (show k < 100 by omega)
      go_wp2_with (first | (at_builtin; have hba := Bw.alloc (Bw.refl w5) (.cells #[.int .i64 (p), .int .i64 (f)] 24); have NB := Lib.hid (Blk.new w5 24 #[.int .i64 (p), .int .i64 (f)]); replace O1 := Lib.hid (own_bw O1.out hba); replace O2 := Lib.hid (own_bw O2.out hba); replace hS := hS.trans hba; clear hba; refine wpList_append_pair_beside rfl (.tmp 58) (.tmp 62) _ rfl BB 24 Try.underlying22 infoPr _ ((ps.take k).map shP) (p) (f) rfl O1.out _ rfl (NB.out.cell rfl) (NB.out.cell rfl) (by have := HL.out; simp; omega) (by have := hS.size; have := HB.out; omega) O2.out HP.out ?_; intro v7 w7 hown hgr hot hap; replace hS := Bw.grownN HB.out hS O1.out hgr; replace O1 := Lib.hid hown; replace O2 := Lib.hid hot; clear hown hgr hot NB; replace HP := Lib.hid hap) | (at_builtin; have hba := Bw.alloc (Bw.refl w7) (.cells #[.int .i64 (p + (A - 1000000000)), .int .i64 (f + (B - 1000000000))] 24); have NB := Lib.hid (Blk.new w7 24 #[.int .i64 (p + (A - 1000000000)), .int .i64 (f + (B - 1000000000))]); replace O1 := Lib.hid (own_bw O1.out hba); replace O2 := Lib.hid (own_bw O2.out hba); replace hS := hS.trans hba; clear hba; refine wpList_append_pair_beside rfl (.tmp 64) (.tmp 72) _ rfl BB 24 Try.underlying22 infoPr _ (((ps.take k).map shP).map (shiftM (A - 1000000000) (B - 1000000000))) (p + (A - 1000000000)) (f + (B - 1000000000)) rfl O2.out _ rfl (NB.out.cell rfl) (NB.out.cell rfl) (by have := HL.out; simp; omega) (by have := hS.size; have := HB.out; omega) O1.out (fun g h1 h2 => HP.out g h2 h1) ?_; intro v8 w8 hown hgr hot hap; replace hS := Bw.grownN HB.out hS O2.out hgr; replace O2 := Lib.hid hown; replace O1 := Lib.hid hot; clear hown hgr hot NB; replace HP := Lib.hid hap))
      go_roundg (n - (k + 1))
      case measure => omega
      case rel =>
        refine ⟨k + 1, by omega, by omega, by go_num, Lib.hid hS, Lib.hid ?_, Lib.hid ?_, Lib.hid (fun g h1 h2 => HP.out g h2 h1)⟩
        · rw [HTK.out]; exact O1.out
        · rw [HTK.out, List.map_append]; exact O2.out
    · obtain rfl : k = n := by omega
      rw [List.take_of_length_le (by have := HN.out; omega)] at O1 O2
      have h1 := (own_rdS2 O1.out (by simp; omega)).1
      have h2 := (own_rdS2 O2.out (by simp; omega)).1
      obtain ⟨A1, c1, rfl⟩ := own_form2 O1.out
      obtain ⟨A2, c2, rfl⟩ := own_form2 O2.out
      clear O1 O2 HP
      simp only [List.length_map] at h1 h2
      obtain ⟨rs, sl, p1, p2, hrl, hrb⟩ := shifts_plain (1 + wd) L (A - 1000000000) (B - 1000000000) (by omega) (by omega) (by omega) (by omega) (by omega) (by omega) (by omega) (by omega) ps (by have := HN.out; omega)
      have RP1 := Lib.hid (fun W v hW => Replay_any (1 + wd) L (ps.map shP) v W hW)
      have RP2 := Lib.hid (fun W v hW => Replay_any (1 + wd) L ((ps.map shP).map (shiftM (A - 1000000000) (B - 1000000000))) v W hW)
      rw [p1] at RP1; rw [p2] at RP2
      have H1 := Lib.hid h1; have H2 := Lib.hid h2
      have HRL := Lib.hid (show rs.length = k by rw [hrl]; exact HN.out.symm)
      have HRL2 := Lib.hid (show (rs.map (fun r => (r.1 + (A - 1000000000) * r.2, r.2))).length = k by rw [List.length_map, HRL.out])
      have HRB := Lib.hid hrb
      clear p1 p2 h1 h2 hrl hrb
      have hkz : ¬ (k : Int) < k := by omega
      go_wp2_with (first | (go_at_call 10; (with_reducible refine Calls.mono (RP1.out _ _ (H1.out.mono (Bw.refl _))) ?_); rintro e1 x1 ⟨⟨v3, v4, rfl, hr3, hr4, _, _⟩, hb1⟩; have hbx1 := hb1; obtain ⟨ar, cr, rfl⟩ := hr3.form; obtain ⟨a4, c4, rfl⟩ := hr4.form; rw [HRL.out] at hr3 ⊢; have HR1 := Lib.hid hr3; have HS1 := Lib.hid hr4; clear hb1 RP1 hr3 hr4) | (go_at_call 10; (with_reducible refine Calls.mono (RP2.out _ _ (H2.out.mono hbx1)) ?_); rintro e1 x2 ⟨⟨v3, v4, rfl, hr3, hr4, _, _⟩, hb2⟩; have hbx2 := hb2; obtain ⟨ar2, cr2, rfl⟩ := hr3.form; obtain ⟨a5, c5, rfl⟩ := hr4.form; rw [HRL2.out] at hr3 ⊢; have HR2 := Lib.hid hr3; have HS2 := Lib.hid hr4; clear hb2 RP2 hr3 hr4) | (go_at_call 13; (with_reducible refine Calls.mono (same_same sl _ _ _ (HS1.out.mono hbx2) HS2.out) ?_); rintro e1 x3 ⟨rfl, hbx3⟩))
      go_loopg [23] 100 (fun gg s23 wr => ∃ j : Nat, j ≤ k ∧ k - j ≤ gg ∧ s23 = .int .i64 j ∧ Hid (Bw x3 wr))
      case atStart => exact ⟨0, Nat.zero_le _, by omega, rfl, Lib.hid (Bw.refl _)⟩
      case round =>
        obtain ⟨j, hj, hgg, rfl, hq⟩ := hrel
        by_cases hlt : j < k
        · obtain ⟨b1, o1, c1, hv1, hb1, hd1⟩ := HR1.out.at (by have := HRL.out; omega)
          obtain ⟨b2, o2, c2, hv2, hb2, hd2⟩ := HR2.out.at (by have := HRL2.out; omega)
          injection hv1 with i1 i2 i3; subst i1; clear i2 i3
          injection hv2 with i1 i2 i3; subst i1; clear i2 i3
          have hd1 := hd1 j (by have := HRL.out; omega)
          have hd2 := hd2 j (by have := HRL2.out; omega)
          have hjl : j < rs.length := by have := HRL.out; omega
          rw [show (rs.map (fun r => (r.1 + (A - 1000000000) * r.2, r.2))).getD j (0, 0) = ((rs.getD j (0, 0)).1 + (A - 1000000000) * (rs.getD j (0, 0)).2, (rs.getD j (0, 0)).2) by
            rw [List.getD_eq_getElem?_getD, List.getElem?_map, List.getD_eq_getElem?_getD, List.getElem?_eq_getElem hjl]; rfl] at hd2
          have hB := HRB.out (rs.getD j (0, 0)) (by rw [List.getD_eq_getElem?_getD, List.getElem?_eq_getElem hjl]; exact List.getElem_mem hjl)
          have d0 := (hbx2.trans (hbx3.trans hq.out)).cell' hd1.1
          have d1 := (hbx2.trans (hbx3.trans hq.out)).cell' hd1.2
          have d2 := (hbx3.trans hq.out).cell' hd2.1
          have d3 := (hbx3.trans hq.out).cell' hd2.2
          clear hd1 hd2 hjl
          generalize rs.getD j (0, 0) = r at d0 d1 d2 d3 hB
          obtain ⟨x, y⟩ := r
          simp only at d0 d1 d2 d3 hB
          obtain ⟨⟨j1, j2⟩, j3, j4⟩ := hB
          have ⟨m1, m2⟩ := mul_bd2 (A - 1000000000) y 1000000000 100 (by omega) (by omega) (by omega) (by omega) (by omega)
          have e0 := fun p' : Ext wr => Ext.cell' d0 p'
          have e1 := fun p' : Ext wr => Ext.cell' d1 p'
          have e2 := fun p' : Ext wr => Ext.cell' d2 p'
          have e3 := fun p' : Ext wr => Ext.cell' d3 p'
          have hkz2 : (j : Int) < k := by omega
          go_wp2
          (refine wp_region_quiet_ext (by kernel_rfl) (by kernel_rfl) ?_; (repeat (go_big_quiet_step ((fail)))); refine wpQuiet_nil ?_; rintro wq ⟨⟨_, hbq⟩, rfl⟩; obtain ⟨hccq, hffq⟩ := Bw.cells hbq; have hszq := Bw.size hbq)
          clear e0 e1 e2 e3
          go_wp2
          go_roundg (k - (j + 1))
          case measure => omega
          case rel => exact ⟨j + 1, by omega, by omega, by go_num, Lib.hid (hq.out.trans hbq)⟩
        · have hkz2 : ¬ (j : Int) < k := by omega
          go_wp2
          go_ret
          exact ⟨rfl, HW.out.trans (hbx1.trans (hbx2.trans (hbx3.trans hq.out)))⟩
end Go.Proofs.Sky
