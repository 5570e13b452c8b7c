/-
  lemmas for the theorems of this claim. No conditions beyond those written in the statements.
-/
import Derived.Test.YtpmopobjlpfdaaaDoorPW40
set_option linter.unusedVariables false
set_option linter.unusedSimpArgs false
set_option linter.unnecessarySimpa false
namespace Go.Proofs.Sky
open Go Go.RowKit Go.Shelf
attribute [local go_sem] Oper.semAt_some
attribute [-go_sem] run_max_int2
attribute [local go_sem] run_mx28
set_option maxHeartbeats 4000000
set_option maxRecDepth 8000
/-! chapter 40: place -/
theorem place40_bad (x : Nat → Int) (g : Nat) (w : World) (hq : QBlk w g x) (h : x 32 ≠ 0) : Calls Tryd.prog 25 #[.pointer (some ⟨g, 0, none⟩)] w fun e w' => e = .returned (.pointer (some ⟨g, 0, none⟩)) ∧ QBlk w' g x ∧ Kx g w w' := by
  have HQ := Lib.hid hq
  have d32 := hq.at 32 (by omega)
  have hlt := hq.lt
  have hne : (x 32 == 0) = false := by simpa using h
  have hne2 : (x 32 != 0) = true := by simpa using h
  clear hq h
  generalize x 32 = e at *
  go_enter Tryd.func25, Tryd.ntmps25
  go_wp2
  go_ret
  exact ⟨rfl, HQ.out, Kx.of_bw (Bw.refl _) (Nat.le_of_lt hlt)⟩
theorem Kx.bwr {g : Nat} {a b c : World} (h : Kx g a b) (hb : Bw b c) (hg : g < b.heap.size) : Kx g a c := h.trans (Kx.of_bw hb (Nat.le_of_lt hg))
theorem row9 {w : World} {g : Nat} {x : Nat → Int} (h : Blk w g 27 #[.int .i64 (x 4), .int .i64 (x 5), .int .i64 (x 6), .int .i64 (x 7), .int .i64 (x 8), .int .i64 (x 9), .int .i64 (x 10), .int .i64 (x 11), .int .i64 (x 12)]) (k : Nat) (hk : k < 3) : w.rangeAt g (k * 3) [.int .i64 (x (4 + 3 * k)), .int .i64 (x (5 + 3 * k)), .int .i64 (x (6 + 3 * k))] := fun j u hu => by
  have hj : j < 3 := (List.getElem?_eq_some_iff.1 hu).1
  match k, hk, j, hj with
  | 0, _, 0, _ | 0, _, 1, _ | 0, _, 2, _ | 1, _, 0, _ | 1, _, 1, _ | 1, _, 2, _ | 2, _, 0, _ | 2, _, 1, _ | 2, _, 2, _ =>
    simp at hu; subst hu; exact h.cell rfl
theorem kx_rg {g b o : Nat} {w w' : World} {cs : List Value} (hk : Kx g w w') (hb : b < w.heap.size) (hn : b ≠ g) (h : w.rangeAt b o cs) : w'.rangeAt b o cs := fun j u hu => by rw [World.cell?_of_block (hk.oth b hb hn)]; exact h j u hu
theorem place40_any (x : Nat → Int) (g : Nat) (w : World) (hw : WdAt w) (hg0 : 0 < g) (hq : QBlk w g x) (h32 : x 32 = 0) (h22 : x 22 = 0) (hp : errPg x = 0) (hr : rgB x = true) : Calls Tryd.prog 25 #[.pointer (some ⟨g, 0, none⟩)] w fun e w' => e = .returned (.pointer (some ⟨g, 0, none⟩)) ∧ QBlk w' g (plQ x) ∧ Kx g w w' := by
  have HQ := Lib.hid hq
  have HWD := Lib.hid hw
  have d32 := hq.at 32 (by omega)
  rw [h32] at d32
  obtain ⟨hr13, hr14, hr15, hr16, hr17, hr18, hr19, hr20⟩ := rgB_lim hr
  obtain ⟨_, hp1, hp2, hp3, hpx⟩ := pg_lim hp
  have HX := Lib.hid (And.intro hp2 (And.intro hp3 hpx))
  have HT := Lib.hid (show errTm x (x 17) = 0 by unfold errTm; rw [if_neg (by omega), if_neg (by omega)])
  have AA := Lib.hid (fun W h => AlAt_any x (x 17) W h)
  have d17 := hq.at 17 (by omega)
  have d1 := hq.at 1 (by omega)
  have d18 := hq.at 18 (by omega)
  have d21 := hq.at 21 (by omega)
  have f21 := hq.fz 21
  have hlt := hq.lt
  obtain ⟨r, t1, r1, r2, ways⟩ := tmod_way (x 17 - x 1 + 302400) 604800 (by decide)
  have t2 : (r + 604800).tmod 604800 = (r + 604800) % 604800 := Int.tmod_eq_emod_of_nonneg (by omega)
  have HAR := Lib.hid (show (r + 604800) % 604800 - 302400 = arQ (x 17 - x 1) by unfold arQ; rcases ways with ⟨y, z⟩ | ⟨y, z⟩ <;> omega)
  clear ways
  have hb : 0 ≤ (r + 604800) % 604800 ∧ (r + 604800) % 604800 < 604800 := by omega
  have HSZ := Lib.hid (fun W => size40_any (arQ (x 17 - x 1)) (by have := arQ_bd (x 17 - x 1); omega) W)
  have hsb : 0 ≤ szW (arQ (x 17 - x 1)) ∧ szW (arQ (x 17 - x 1)) ≤ 302400 := by have := arQ_bd (x 17 - x 1); unfold szW; omega
  have HAG := Lib.hid (show szW (arQ (x 17 - x 1)) + x 18 = ageQ x from rfl)
  generalize hD : arQ (x 17 - x 1) = D at *
  generalize (r + 604800) % 604800 = q at *
  have hqD : q - 302400 = D := HAR.out
  generalize hS : szW D = S at *
  have HXX := Lib.hid (And.intro hD hS)
  clear HAR hD hS
  generalize x 21 = x21 at d21
  have hw1 : IntKind.i64.wrap (x 17 - x 1) = x 17 - x 1 := by rw [IntKind.wrap_i64]; omega
  have hw2 : IntKind.i64.wrap (x 17 - x 1 + 302400) = x 17 - x 1 + 302400 := by rw [IntKind.wrap_i64]; omega
  have hw3 : IntKind.i64.wrap (S + x 18) = S + x 18 := by rw [IntKind.wrap_i64]; omega
  obtain ⟨x17, e17⟩ : ∃ x17, x 17 = x17 := ⟨_, rfl⟩
  obtain ⟨x18, e18⟩ : ∃ x18, x 18 = x18 := ⟨_, rfl⟩
  obtain ⟨x1, e1⟩ : ∃ x1, x 1 = x1 := ⟨_, rfl⟩
  rw [e17, e1] at t1 hw1 hw2
  rw [e17] at d17 AA HT hr17
  rw [e18] at d18 hw3 HAG hr18
  rw [e1] at d1 hp1
  have HE := Lib.hid (And.intro e17 (And.intro e18 e1))
  clear e17 e18 e1 hq hw
  go_enter Tryd.func25, Tryd.ntmps25
  go_upto_region 3 with fail
  have k17 := fun p : Ext w => Ext.cell' d17 p
  have k1 := fun p : Ext w => Ext.cell' d1 p
  (refine wp_region_quiet_ext (by kernel_rfl) (by kernel_rfl) ?_; (repeat (go_big_quiet_step ((fail)))); refine wpQuiet_nil ?_; rintro wa ⟨⟨_, hbq⟩, rfl⟩; obtain ⟨hccq, hffq⟩ := Bw.cells hbq; have hszq := Bw.size hbq)
  replace d18 := hbq.cell' d18
  replace d21 := hbq.cell' d21
  replace f21 := (HQ.out.bw hbq).fz 21
  replace d17 := hbq.cell' d17
  have HQa := Lib.hid (HQ.out.bw hbq)
  have HK := Lib.hid (Kx.of_bw hbq (Nat.le_of_lt hlt))
  replace HWD := Lib.hid (HWD.out.bw hbq)
  clear hbq hccq hffq hszq k17 k1 d32
  go_upto_region 4 with fail
  (try rw [hqD])
  have k18 := fun p : Ext wa => Ext.cell' d18 p
  (refine wp_region_ext_tail 10 (by kernel_rfl) (by kernel_rfl) ?_; simp only [List.take_succ_cons, List.take_zero, List.drop_succ_cons, List.drop_zero]; (repeat (go_big_quiet_step (((go_at_call 44; with_reducible exact Calls.ext_of (HSZ.out _)))))); refine wpQuiet_nil ?_; rintro wb ⟨⟨_, hbq⟩, rfl⟩; obtain ⟨hccq, hffq⟩ := Bw.cells hbq; have hszq := Bw.size hbq)
  replace d21 := hbq.cell' d21
  replace f21 := (HQa.out.bw hbq).fz 21
  replace HQa := Lib.hid (HQa.out.bw hbq)
  replace HK := Lib.hid (HK.out.bwr hbq (Nat.lt_of_lt_of_le hlt HK.out.size))
  replace HWD := Lib.hid (HWD.out.bw hbq)
  clear hbq hccq hffq hszq k18 d18 d17
  go_upto_region 5 with fail
  have hq1 := HQa.out.set 21 (S + x18)
  have hk1 := HK.out.trans (Kx.set (j := 21) (Nat.lt_of_lt_of_le hlt HK.out.size) (.int .i64 (S + x18)))
  rw [HAG.out] at hq1 hk1 ⊢
  have hab : 0 ≤ ageQ x ∧ ageQ x ≤ 303000 := by have h9 := HAG.out; omega
  obtain ⟨A, hA⟩ : ∃ A, ageQ x = A := ⟨_, rfl⟩
  have HA := Lib.hid hA
  rw [hA] at hk1 hab ⊢
  obtain ⟨Wc, hWc⟩ : ∃ Wc, wb.setCell ⟨g, 21, none⟩ (.int .i64 A) = Wc := ⟨_, rfl⟩
  rw [hA] at hq1
  rw [hWc] at hq1 hk1 ⊢
  have HQ1 := Lib.hid (show QBlk Wc g (plA x) by unfold plA; rw [hA]; exact hq1)
  have HK1 := Lib.hid hk1
  have HWD1 := Lib.hid (show WdAt Wc by rw [← hWc]; exact HWD.out.kx (Kx.set (j := 21) (Nat.lt_of_lt_of_le hlt HK.out.size) _) hg0)
  have hltc : g < Wc.heap.size := HQ1.out.lt
  clear hWc hq1 hk1 d21 f21 HAG hA
  have d21 : Wc.cell? ⟨g, 21, none⟩ = some (.int .i64 A) := by have h9 := HQ1.out.at 21 (by omega); unfold plA at h9; rw [upX_same, HA.out] at h9; exact h9
  by_cases hold : 14400 < A
  · have HPL := Lib.hid (show plQ x = upX (plA x) 32 17 by unfold plQ; rw [if_pos (by rw [HA.out]; exact hold)])
    have d32 : Wc.cell? ⟨g, 32, none⟩ = some (.int .i64 (x 32)) := HQ1.out.at 32 (by omega)
    have f32 := HQ1.out.fz 32
    go_wp2
    go_ret
    refine ⟨rfl, ?_, HK1.out.trans (Kx.set (j := 32) hltc _)⟩
    rw [HPL.out]
    exact HQ1.out.set 32 17
  · have HPL := Lib.hid (show plQ x = upX (plS x) 22 (sprQ x) by unfold plQ; rw [if_neg (by rw [HA.out]; exact hold)])
    go_upto_region 8 with fail
    clear d21
    unfold t3V at AA
    rw [HT.out] at AA
    have HPS := Lib.hid (show plS x = upX (upX (upX (plA x) 23 (atP x (x 17) 0)) 24 (atP x (x 17) 1)) 25 (atP x (x 17) 2) from rfl)
    rw [HE.out.1] at HPS
    generalize atP x x17 0 = s0 at *
    generalize atP x x17 1 = s1 at *
    generalize atP x x17 2 = s2 at *
    have HPG := Lib.hid (show Wc.rangeAt g 0 (pgc x) from HQ1.out.pg)
    have d17 : Wc.cell? ⟨g, 17, none⟩ = some (.int .i64 x17) := by rw [← HE.out.1]; exact HQ1.out.at 17 (by omega)
    have HQd := Lib.hid (HQ1.out.bw (Bw.drew (Bw.refl Wc)))
    refine wp_region_held_drew (S := fun W => Kx g Wc W ∧ W.rangeAt g 0 (pgc x) ∧ W.cell? ⟨g, 17, none⟩ = some (.int .i64 x17)) (by kernel_rfl) ⟨Kx.of_bw (Bw.drew (Bw.refl _)) (Nat.le_of_lt hltc), rg_bw9 HPG.out (Bw.drew (Bw.refl _)), (Bw.drew (Bw.refl _)).cell' d17⟩ (fun hS => ?_)
    generalize World.drew _ = wd at *
    refine take1 (i := 0) (some 48) rfl rfl (by kernel_rfl) (by kernel_rfl) (by kernel_rfl) (fun _ _ _ _ h => h) rfl hS ?_
    apply Exists.intro
    apply And.intro
    · intro W9 hW9; skip; go_simp; try with_reducible rfl
    simp only [Act.put, List.setIfInBounds_toArray, List.set_cons_zero, List.set_cons_succ]
    refine take1 (i := 1) (some 49) rfl rfl (by kernel_rfl) (by kernel_rfl) (by kernel_rfl) (fun _ _ _ _ h => h) rfl hS ?_
    apply Exists.intro
    apply And.intro
    · intro W9 hW9; skip; go_simp; try with_reducible rfl
    simp only [Act.put, List.setIfInBounds_toArray, List.set_cons_zero, List.set_cons_succ]
    refine take1 (i := 2) (some 50) rfl rfl (by kernel_rfl) (by kernel_rfl) (by kernel_rfl) (fun _ _ _ _ h => h) rfl hS ?_
    apply Exists.intro
    apply And.intro
    · intro W9 hW9; skip; go_simp; try with_reducible rfl
    simp only [Act.put, List.setIfInBounds_toArray, List.set_cons_zero, List.set_cons_succ]
    refine take1 (i := 3) (some 51) rfl rfl (by kernel_rfl) (by kernel_rfl) (by kernel_rfl) (fun _ _ _ _ h => h) rfl hS ?_
    apply Exists.intro
    apply And.intro
    · intro W9 hW9; skip; go_simp; try with_reducible rfl
    simp only [Act.put, List.setIfInBounds_toArray, List.set_cons_zero, List.set_cons_succ]
    refine take1 (i := 4) (some 52) rfl rfl (by kernel_rfl) (by kernel_rfl) (by kernel_rfl) (fun _ _ _ _ h => h) rfl hS ?_
    refine Exists.intro (.agg (pgV x)) ?_
    apply And.intro
    · intro W9 hW9; skip; exact run_load_pg _ rfl g 0 (by simp [Act.eval, Act.put]) (hW9.2.1)
    simp only [Act.put, List.setIfInBounds_toArray, List.set_cons_zero, List.set_cons_succ]
    refine take1 (i := 5) (some 53) rfl rfl (by kernel_rfl) (by kernel_rfl) (by kernel_rfl) (fun _ _ _ _ h => h) rfl hS ?_
    apply Exists.intro
    apply And.intro
    · intro W9 hW9; skip; go_simp; try with_reducible rfl
    simp only [Act.put, List.setIfInBounds_toArray, List.set_cons_zero, List.set_cons_succ]
    refine take1 (i := 6) (some 54) rfl rfl (by kernel_rfl) (by kernel_rfl) (by kernel_rfl) (fun _ _ _ _ h => h) rfl hS ?_
    apply Exists.intro
    apply And.intro
    · intro W9 hW9; skip; go_simp; try with_reducible rfl
    simp only [Act.put, List.setIfInBounds_toArray, List.set_cons_zero, List.set_cons_succ]
    refine take1 (i := 7) (some 55) rfl rfl (by kernel_rfl) (by kernel_rfl) (by kernel_rfl) (fun _ _ _ _ h => h) rfl hS ?_
    apply Exists.intro
    apply And.intro
    · intro W9 hW9; skip; go_simp; try with_reducible rfl
    simp only [Act.put, List.setIfInBounds_toArray, List.set_cons_zero, List.set_cons_succ]
    refine take1 (i := 8) (some 56) rfl rfl (by kernel_rfl) (by kernel_rfl) (by kernel_rfl) (fun _ _ _ _ h => h) rfl hS ?_
    refine Exists.intro (.int .i64 x17) ?_
    apply And.intro
    · intro W9 hW9; skip; (have c0 := hW9.2.2); go_simp; try with_reducible rfl
    simp only [Act.put, List.setIfInBounds_toArray, List.set_cons_zero, List.set_cons_succ]
    refine wpAnyH_ready (rs := [9]) (by kernel_rfl) (by simp) ?_
    refine AllReadyH.cons rfl (fun K hK => ?_) ?_
    go_simp
    go_wp2_with (go_at_call 19; (with_reducible refine Calls.mono (AA.out _ (HWD1.out.kx hS.1 hg0)) ?_); rintro e1 wd ⟨rfl, hbw⟩)
    replace HQd := Lib.hid (HQd.out.bw hbw)
    have hS9 := And.intro (hS.1.trans (Kx.of_bw hbw (Nat.le_of_lt (Nat.lt_of_lt_of_le hltc hS.1.size)))) (And.intro (rg_bw9 hS.2.1 hbw) (hbw.cell' hS.2.2))
    clear hbw hS
    refine hK.out _ _ hS9 (fun hS => ?_)
    clear hK K
    clear hS9
    refine take1 (i := 10) (some 47) rfl rfl (by kernel_rfl) (by kernel_rfl) (by kernel_rfl) (fun _ _ _ _ h => h) rfl hS ?_
    apply Exists.intro
    apply And.intro
    · intro W9 hW9; skip; go_simp; try with_reducible rfl
    simp only [Act.put, List.setIfInBounds_toArray, List.set_cons_zero, List.set_cons_succ]
    refine take1 (i := 11) (some 58) rfl rfl (by kernel_rfl) (by kernel_rfl) (by kernel_rfl) (fun _ _ _ _ h => h) rfl hS ?_
    apply Exists.intro
    apply And.intro
    · intro W9 hW9; skip; go_simp; try with_reducible rfl
    simp only [Act.put, List.setIfInBounds_toArray, List.set_cons_zero, List.set_cons_succ]
    refine take1 (i := 12) (some 59) rfl rfl (by kernel_rfl) (by kernel_rfl) (by kernel_rfl) (fun _ _ _ _ h => h) rfl hS ?_
    apply Exists.intro
    apply And.intro
    · intro W9 hW9; skip; go_simp; try with_reducible rfl
    simp only [Act.put, List.setIfInBounds_toArray, List.set_cons_zero, List.set_cons_succ]
    refine take1 (i := 13) (some 60) rfl rfl (by kernel_rfl) (by kernel_rfl) (by kernel_rfl) (fun _ _ _ _ h => h) rfl hS ?_
    apply Exists.intro
    apply And.intro
    · intro W9 hW9; skip; go_simp; try with_reducible rfl
    simp only [Act.put, List.setIfInBounds_toArray, List.set_cons_zero, List.set_cons_succ]
    refine take1 (i := 14) (some 61) rfl rfl (by kernel_rfl) (by kernel_rfl) (by kernel_rfl) (fun _ _ _ _ h => h) rfl hS ?_
    apply Exists.intro
    apply And.intro
    · intro W9 hW9; skip; go_simp; try with_reducible rfl
    simp only [Act.put, List.setIfInBounds_toArray, List.set_cons_zero, List.set_cons_succ]
    refine wpAnyH_ready (rs := [15]) (by kernel_rfl) (by simp) ?_
    refine AllReadyH.cons rfl (fun K hK => ?_) ?_
    rw [if_pos (by rfl)]
    refine wp_store_mid0 27 (.tmp 61) (.tmp 58) rfl rfl g 23 #[.int .i64 s0, .int .i64 s1, .int .i64 s2] (by simp [Act.eval, Act.put]) rfl (HQd.out.there (by show 23 + 3 ≤ 33; decide)) (by kernel_rfl) (by simp [Value.oneCell']) ?_
    simp only [Act.put, List.setIfInBounds_toArray, List.set_cons_zero, List.set_cons_succ]
    have hks := Kx.set3 HQd.out.lt 23 (.int .i64 s0) (.int .i64 s1) (.int .i64 s2)
    replace HQd := Lib.hid (HQd.out.set3 23 s0 s1 s2)
    have hS9 := And.intro (hS.1.trans hks) (And.intro (show World.rangeAt _ g 0 (pgc x) from HQd.out.pg) (show World.cell? _ ⟨g, 17, none⟩ = some (.int .i64 x17) by rw [← HE.out.1]; exact HQd.out.at 17 (by omega)))
    clear hks hS
    refine hK.out _ _ hS9 (fun hS => ?_)
    clear hK K
    clear hS9
    refine wpAnyH_done (by kernel_rfl) ?_ _
    rotate_left
    exact AllReadyH.nil
    exact AllReadyH.nil
    have HQ2 := Lib.hid (show QBlk _ g (plS x) by rw [HPS.out]; exact HQd.out)
    have HK2 := Lib.hid (HK1.out.trans hS.1)
    clear hS HQd HQ1 HPS HPG d17 AA
    generalize World.setCells wd g 23 _ = W2 at *
    have hlt2 : g < W2.heap.size := HQ2.out.lt
    (try simp only [Act.put])
    go_upto_region 9 with fail
    have R4 := Lib.hid (show W2.rangeAt g 4 [.int .i64 (x 4), .int .i64 (x 5), .int .i64 (x 6)] from HQ2.out.rg3 4 (by omega))
    have R7 := Lib.hid (show W2.rangeAt g 7 [.int .i64 (x 7), .int .i64 (x 8), .int .i64 (x 9)] from HQ2.out.rg3 7 (by omega))
    have R10 := Lib.hid (show W2.rangeAt g 10 [.int .i64 (x 10), .int .i64 (x 11), .int .i64 (x 12)] from HQ2.out.rg3 10 (by omega))
    refine wp_region_held_drew (S := Bw W2) (by kernel_rfl) (Bw.drew (Bw.refl _)) (fun hS => ?_)
    generalize World.drew _ = wd at *
    refine take1 (i := 0) (some 62) rfl rfl (by kernel_rfl) (by kernel_rfl) (by kernel_rfl) (fun _ _ _ _ h => h) rfl hS ?_
    apply Exists.intro
    apply And.intro
    · intro W9 hW9; skip; go_simp; try with_reducible rfl
    simp only [Act.put, List.setIfInBounds_toArray, List.set_cons_zero, List.set_cons_succ]
    refine take1 (i := 1) (some 63) rfl rfl (by kernel_rfl) (by kernel_rfl) (by kernel_rfl) (fun _ _ _ _ h => h) rfl hS ?_
    apply Exists.intro
    apply And.intro
    · intro W9 hW9; skip; go_simp; try with_reducible rfl
    simp only [Act.put, List.setIfInBounds_toArray, List.set_cons_zero, List.set_cons_succ]
    refine take1 (i := 2) (some 64) rfl rfl (by kernel_rfl) (by kernel_rfl) (by kernel_rfl) (fun _ _ _ _ h => h) rfl hS ?_
    apply Exists.intro
    apply And.intro
    · intro W9 hW9; skip; go_simp; try with_reducible rfl
    simp only [Act.put, List.setIfInBounds_toArray, List.set_cons_zero, List.set_cons_succ]
    refine take1 (i := 3) (some 65) rfl rfl (by kernel_rfl) (by kernel_rfl) (by kernel_rfl) (fun _ _ _ _ h => h) rfl hS ?_
    apply Exists.intro
    apply And.intro
    · intro W9 hW9; skip; go_simp; try with_reducible rfl
    simp only [Act.put, List.setIfInBounds_toArray, List.set_cons_zero, List.set_cons_succ]
    refine take1 (i := 4) (some 66) rfl rfl (by kernel_rfl) (by kernel_rfl) (by kernel_rfl) (fun _ _ _ _ h => h) rfl hS ?_
    refine Exists.intro (.agg #[.int .i64 (x 4), .int .i64 (x 5), .int .i64 (x 6)]) ?_
    apply And.intro
    · intro W9 hW9; skip; exact run_load_3q _ rfl g 4 (by simp [Act.eval, Act.put]) (rg_bw9 R4.out hW9)
    simp only [Act.put, List.setIfInBounds_toArray, List.set_cons_zero, List.set_cons_succ]
    refine take1 (i := 5) (some 67) rfl rfl (by kernel_rfl) (by kernel_rfl) (by kernel_rfl) (fun _ _ _ _ h => h) rfl hS ?_
    apply Exists.intro
    apply And.intro
    · intro W9 hW9; skip; go_simp; try with_reducible rfl
    simp only [Act.put, List.setIfInBounds_toArray, List.set_cons_zero, List.set_cons_succ]
    refine take1 (i := 6) (some 68) rfl rfl (by kernel_rfl) (by kernel_rfl) (by kernel_rfl) (fun _ _ _ _ h => h) rfl hS ?_
    apply Exists.intro
    apply And.intro
    · intro W9 hW9; skip; go_simp; try with_reducible rfl
    simp only [Act.put, List.setIfInBounds_toArray, List.set_cons_zero, List.set_cons_succ]
    refine take1 (i := 7) (some 69) rfl rfl (by kernel_rfl) (by kernel_rfl) (by kernel_rfl) (fun _ _ _ _ h => h) rfl hS ?_
    apply Exists.intro
    apply And.intro
    · intro W9 hW9; skip; go_simp; try with_reducible rfl
    simp only [Act.put, List.setIfInBounds_toArray, List.set_cons_zero, List.set_cons_succ]
    refine take1 (i := 8) (some 70) rfl rfl (by kernel_rfl) (by kernel_rfl) (by kernel_rfl) (fun _ _ _ _ h => h) rfl hS ?_
    apply Exists.intro
    apply And.intro
    · intro W9 hW9; skip; go_simp; try with_reducible rfl
    simp only [Act.put, List.setIfInBounds_toArray, List.set_cons_zero, List.set_cons_succ]
    refine take1 (i := 9) (some 71) rfl rfl (by kernel_rfl) (by kernel_rfl) (by kernel_rfl) (fun _ _ _ _ h => h) rfl hS ?_
    refine Exists.intro (.agg #[.int .i64 (x 7), .int .i64 (x 8), .int .i64 (x 9)]) ?_
    apply And.intro
    · intro W9 hW9; skip; exact run_load_3q _ rfl g 7 (by simp [Act.eval, Act.put]) (rg_bw9 R7.out hW9)
    simp only [Act.put, List.setIfInBounds_toArray, List.set_cons_zero, List.set_cons_succ]
    refine take1 (i := 10) (some 72) rfl rfl (by kernel_rfl) (by kernel_rfl) (by kernel_rfl) (fun _ _ _ _ h => h) rfl hS ?_
    apply Exists.intro
    apply And.intro
    · intro W9 hW9; skip; go_simp; try with_reducible rfl
    simp only [Act.put, List.setIfInBounds_toArray, List.set_cons_zero, List.set_cons_succ]
    refine take1 (i := 11) (some 73) rfl rfl (by kernel_rfl) (by kernel_rfl) (by kernel_rfl) (fun _ _ _ _ h => h) rfl hS ?_
    apply Exists.intro
    apply And.intro
    · intro W9 hW9; skip; go_simp; try with_reducible rfl
    simp only [Act.put, List.setIfInBounds_toArray, List.set_cons_zero, List.set_cons_succ]
    refine take1 (i := 12) (some 74) rfl rfl (by kernel_rfl) (by kernel_rfl) (by kernel_rfl) (fun _ _ _ _ h => h) rfl hS ?_
    apply Exists.intro
    apply And.intro
    · intro W9 hW9; skip; go_simp; try with_reducible rfl
    simp only [Act.put, List.setIfInBounds_toArray, List.set_cons_zero, List.set_cons_succ]
    refine take1 (i := 13) (some 75) rfl rfl (by kernel_rfl) (by kernel_rfl) (by kernel_rfl) (fun _ _ _ _ h => h) rfl hS ?_
    apply Exists.intro
    apply And.intro
    · intro W9 hW9; skip; go_simp; try with_reducible rfl
    simp only [Act.put, List.setIfInBounds_toArray, List.set_cons_zero, List.set_cons_succ]
    refine take1 (i := 14) (some 76) rfl rfl (by kernel_rfl) (by kernel_rfl) (by kernel_rfl) (fun _ _ _ _ h => h) rfl hS ?_
    refine Exists.intro (.agg #[.int .i64 (x 10), .int .i64 (x 11), .int .i64 (x 12)]) ?_
    apply And.intro
    · intro W9 hW9; skip; exact run_load_3q _ rfl g 10 (by simp [Act.eval, Act.put]) (rg_bw9 R10.out hW9)
    simp only [Act.put, List.setIfInBounds_toArray, List.set_cons_zero, List.set_cons_succ]
    refine take1 (i := 17) (some 79) rfl rfl (by kernel_rfl) (by kernel_rfl) (by kernel_rfl) (fun _ _ _ _ h => h) rfl hS ?_
    apply Exists.intro
    apply And.intro
    · intro W9 hW9; skip; go_simp; try with_reducible rfl
    simp only [Act.put, List.setIfInBounds_toArray, List.set_cons_zero, List.set_cons_succ]
    refine wpAnyH_ready (rs := [15]) (by kernel_rfl) (by simp) ?_
    refine AllReadyH.cons rfl (fun K hK => ?_) ?_
    go_simp
    have NB := Lib.hid (Blk.new wd 27 #[.int .i64 (x 4), .int .i64 (x 5), .int .i64 (x 6), .int .i64 (x 7), .int .i64 (x 8), .int .i64 (x 9), .int .i64 (x 10), .int .i64 (x 11), .int .i64 (x 12)])
    have hba := Bw.alloc (Bw.refl wd) (.cells #[.int .i64 (x 4), .int .i64 (x 5), .int .i64 (x 6), .int .i64 (x 7), .int .i64 (x 8), .int .i64 (x 9), .int .i64 (x 10), .int .i64 (x 11), .int .i64 (x 12)] 27)
    obtain ⟨gb, hgb⟩ : ∃ gb, wd.heap.size = gb := ⟨_, rfl⟩
    have hgb2 : gb ≠ g := by have := hS.size; omega
    rw [hgb] at NB ⊢
    have hS9 := hS.trans hba
    clear hba hS
    generalize World.alloc wd _ = we at *
    have HGB := Lib.hid (show gb < we.heap.size from NB.out.lt)
    refine hK.out _ _ hS9 (fun hS => ?_)
    clear hK K
    clear hS9 hgb
    refine take1 (i := 16) (some 78) rfl rfl (by kernel_rfl) (by kernel_rfl) (by kernel_rfl) (fun _ _ _ _ h => h) rfl hS ?_
    apply Exists.intro
    apply And.intro
    · intro W9 hW9; skip; go_simp; try with_reducible rfl
    simp only [Act.put, List.setIfInBounds_toArray, List.set_cons_zero, List.set_cons_succ]
    refine wpAnyH_done (by kernel_rfl) ?_ _
    rotate_left
    exact AllReadyH.nil
    have HRW := Lib.hid (fun k (hk : k < 3) => row9 (x := x) NB.out k hk)
    have HQ3 := Lib.hid (HQ2.out.bw hS)
    have HK3 := Lib.hid (HK2.out.bwr hS hlt2)
    clear R4 R7 R10 NB HQ2 HK2 hS hlt2
    obtain ⟨W3, hW3⟩ : ∃ W3, W3 = we := ⟨_, rfl⟩
    subst hW3
    have hlt3 : g < W3.heap.size := HQ3.out.lt
    have HSP0 := Lib.hid (show upX (plS x) 22 (sprK x x18 A 0) = plS x from upX_id _ _ _ (by show x 22 = 0; exact h22))
    have HSB := Lib.hid (sprK_bd HX.out.2.2 hr18 (a := A) (by omega))
    go_wp2_with fail
    go_loopg [79] 3 (fun gg s79 wr => ∃ k : Nat, k ≤ 3 ∧ 3 - k ≤ gg ∧ s79 = .int .i64 k ∧ Hid (Kx g W3 wr) ∧ Hid (QBlk wr g (upX (plS x) 22 (sprK x x18 A k))))
    case atStart => exact ⟨0, by omega, by omega, rfl, Lib.hid (Kx.of_bw (Bw.refl _) (Nat.le_of_lt hlt3)), Lib.hid (by rw [HSP0.out]; exact HQ3.out)⟩
    case round =>
      obtain ⟨k, hk, hgg, rfl, HKL, HQL⟩ := hrel
      obtain ⟨wf, hwf⟩ : ∃ wf, wf = wr := ⟨_, rfl⟩
      subst hwf
      have hltf : g < wf.heap.size := HQL.out.lt
      by_cases hlk : k < 3
      · have hkz : (k : Int) < 3 := by omega
        have hk0 : (0 : Int) ≤ k := by omega
        have HR := Lib.hid (kx_rg HKL.out HGB.out hgb2 (HRW.out k hlk))
        obtain ⟨_, hc1, hc2⟩ := HX.out.2.2 k hlk
        obtain ⟨m0, m1, u0, u1, v0, v1⟩ := vQ_bd (a := A) hc1 hc2 (by omega)
        have SZ1 := Lib.hid (fun W => size40_any (x (5 + 3 * k)) (by omega) W)
        have SZ2 := Lib.hid (fun W => size40_any (x (6 + 3 * k)) (by omega) W)
        have UPX := Lib.hid (fun W => up40_any (2 * szW (x (6 + 3 * k)) * A) 1024 (by omega) (by omega) W)
        have HV := Lib.hid (show szW (x (5 + 3 * k)) + upW (2 * szW (x (6 + 3 * k)) * A) 1024 = vQ (x (5 + 3 * k)) (x (6 + 3 * k)) A from rfl)
        have HSN := Lib.hid (show sprK x x18 A (k + 1) = mx28 (sprK x x18 A k) (vQ (x (5 + 3 * k)) (x (6 + 3 * k)) A * x18 + 1) from rfl)
        have hsk := HSB.out k (by omega)
        have hs1 : 0 ≤ szW (x (5 + 3 * k)) ∧ szW (x (5 + 3 * k)) ≤ 8192 := by unfold szW; omega
        have hs2 : 0 ≤ szW (x (6 + 3 * k)) ∧ szW (x (6 + 3 * k)) ≤ 2048 := by unfold szW; omega
        generalize hc1e : x (5 + 3 * k) = c1 at *
        generalize hc2e : x (6 + 3 * k) = c2 at *
        generalize hc0e : x (4 + 3 * k) = c0 at *
        generalize hvq : vQ c1 c2 A = vv at *
        generalize szW c1 = sc1 at *
        generalize szW c2 = sc2 at *
        generalize upW (2 * sc2 * A) 1024 = uu at *
        clear hc1e hc2e hc0e hvq hc1 hc2
        have hv := HV.out
        clear HV
        have hmm : 0 ≤ vv * x18 ∧ vv * x18 ≤ 39475200 := ⟨Int.mul_nonneg v0 hr18.1, Int.mul_le_mul v1 hr18.2 hr18.1 (by omega)⟩
        generalize hmv : vv * x18 = mv at *
        have hm28 : 0 ≤ mx28 (sprK x x18 A k) (mv + 1) ∧ mx28 (sprK x x18 A k) (mv + 1) ≤ 40000000 := by rw [← HSN.out]; exact HSB.out (k + 1) (by omega)
        have d18 : wf.cell? ⟨g, 18, none⟩ = some (.int .i64 x18) := by rw [← HE.out.2.1]; exact HQL.out.at 18 (by omega)
        have d21 : wf.cell? ⟨g, 21, none⟩ = some (.int .i64 A) := by rw [← HA.out]; exact HQL.out.at 21 (by omega)
        have d22 : wf.cell? ⟨g, 22, none⟩ = some (.int .i64 (sprK x x18 A k)) := by have h9 := HQL.out.at 22 (by omega); rwa [upX_same] at h9
        have f22 := HQL.out.fz 22
        generalize hsp : sprK x x18 A k = sp at *
        generalize hmx : mx28 sp (mv + 1) = mx at *
        have HMX := Lib.hid (And.intro hsp hmx)
        clear hsp
        go_upto_region 12 with (first | ((with_reducible refine at_load 27 (.tmp 81) ?_); refine wpList_load_mid rfl 27 _ rfl gb (k * 3) (by simp [Act.eval, Act.put]) _ _ HR.out Tryd.underlying27 rfl (by kernel_rfl) ?_) | ((with_reducible refine at_store 27 (.tmp 5) (.tmp 82) ?_); refine wpList_store_row rfl 27 (.tmp 5) (.tmp 82) rfl wf.heap.size #[.int .i64 c0, .int .i64 c1, .int .i64 c2] rfl rfl 27 #[.int .i64 0, .int .i64 0, .int .i64 0] (Blk.new wf 27 #[.int .i64 0, .int .i64 0, .int .i64 0]) (by kernel_rfl) rfl (by simp [Value.oneCell']) ?_))
        have hb2 := Bw.setRow (Bw.alloc (Bw.refl wf) (.cells #[.int .i64 0, .int .i64 0, .int .i64 0] 27)) (Nat.le_refl _) #[.int .i64 c0, .int .i64 c1, .int .i64 c2]
        have K5 := (Blk.new wf 27 #[.int .i64 0, .int .i64 0, .int .i64 0]).row #[.int .i64 c0, .int .i64 c1, .int .i64 c2]
        obtain ⟨g5, hg5⟩ : ∃ g5, wf.heap.size = g5 := ⟨_, rfl⟩
        rw [hg5] at K5 hb2 ⊢
        generalize World.setRow (World.alloc wf _) _ _ = z5 at *
        clear hg5
        (try simp only [Act.put])
        replace d18 := hb2.cell' d18
        replace d21 := hb2.cell' d21
        replace d22 := hb2.cell' d22
        replace f22 := (HQL.out.bw hb2).fz 22
        replace HQL := Lib.hid (HQL.out.bw hb2)
        replace HKL := Lib.hid (HKL.out.bwr hb2 hltf)
        have hlt5 : g < z5.heap.size := HQL.out.lt
        have c1c := K5.cell (show (#[.int .i64 c0, .int .i64 c1, .int .i64 c2] : Array Value)[1]? = some (.int .i64 c1) from rfl)
        have c2c := K5.cell (show (#[.int .i64 c0, .int .i64 c1, .int .i64 c2] : Array Value)[2]? = some (.int .i64 c2) from rfl)
        clear hb2 K5 HR
        have k1 := fun p : Ext z5 => Ext.cell' c1c p
        have k2 := fun p : Ext z5 => Ext.cell' c2c p
        have k21 := fun p : Ext z5 => Ext.cell' d21 p
        have hw4 : IntKind.i64.wrap (2 * sc2) = 2 * sc2 := by rw [IntKind.wrap_i64]; omega
        have hw5 : IntKind.i64.wrap (2 * sc2 * A) = 2 * sc2 * A := by rw [IntKind.wrap_i64]; omega
        have hw6 : IntKind.i64.wrap (sc1 + uu) = sc1 + uu := by rw [IntKind.wrap_i64]; omega
        (refine wp_region_quiet_ext (by kernel_rfl) (by kernel_rfl) ?_; (repeat (go_big_quiet_step (((first | (go_at_call 44; first | (with_reducible exact Calls.ext_of (SZ1.out _)) | (with_reducible exact Calls.ext_of (SZ2.out _))) | (go_at_call 45; with_reducible exact Calls.ext_of (UPX.out _))))))); refine wpQuiet_nil ?_; rintro wh ⟨⟨_, hbq⟩, rfl⟩; obtain ⟨hccq, hffq⟩ := Bw.cells hbq; have hszq := Bw.size hbq)
        replace d18 := hbq.cell' d18
        replace d22 := hbq.cell' d22
        replace f22 := (HQL.out.bw hbq).fz 22
        replace HQL := Lib.hid (HQL.out.bw hbq)
        replace HKL := Lib.hid (HKL.out.bwr hbq hlt5)
        have hlth : g < wh.heap.size := HQL.out.lt
        clear k1 k2 k21 hbq hccq hffq hszq d21 c1c c2c hw4 hw5 hw6
        go_upto_region 13 with fail
        (try rw [hv])
        have k18 := fun p : Ext wh => Ext.cell' d18 p
        have k22 := fun p : Ext wh => Ext.cell' d22 p
        have hw7 : IntKind.i64.wrap (vv * x18) = mv := by rw [hmv, IntKind.wrap_i64]; omega
        have hw8 : IntKind.i64.wrap (mv + 1) = mv + 1 := by rw [IntKind.wrap_i64]; omega
        (refine wp_region_ext_tail 13 (by kernel_rfl) (by kernel_rfl) ?_; simp only [List.take_succ_cons, List.take_zero, List.drop_succ_cons, List.drop_zero]; (repeat (go_big_quiet_step ((fail)))); refine wpQuiet_nil ?_; rintro wi ⟨⟨_, hbq⟩, rfl⟩; obtain ⟨hccq, hffq⟩ := Bw.cells hbq; have hszq := Bw.size hbq)
        replace d22 := hbq.cell' d22
        replace f22 := (HQL.out.bw hbq).fz 22
        replace HQL := Lib.hid (HQL.out.bw hbq)
        replace HKL := Lib.hid (HKL.out.bwr hbq hlth)
        have hlti : g < wi.heap.size := HQL.out.lt
        clear k18 k22 hbq hccq hffq hszq d18 hw7 hw8
        go_wp2
        go_roundg (3 - (k + 1))
        case measure => omega
        case rel => exact ⟨k + 1, by omega, by omega, by go_num, Lib.hid (HKL.out.trans (Kx.set (j := 22) hlti _)), Lib.hid (by
          have h9 := HQL.out.set 22 mx
          rw [upX_upX] at h9
          rw [HSN.out]
          first | exact h9 | (rw [← HMX.out.2] at h9; rw [HMX.out.1]; exact h9))⟩
      · obtain rfl : k = 3 := by omega
        have hkz : ¬ ((3 : Nat) : Int) < 3 := by omega
        have d2 : wf.cell? ⟨g, 2, none⟩ = some (.int .i64 (x 2)) := HQL.out.at 2 (by omega)
        have d3 : wf.cell? ⟨g, 3, none⟩ = some (.int .i64 (x 3)) := HQL.out.at 3 (by omega)
        have d21 : wf.cell? ⟨g, 21, none⟩ = some (.int .i64 A) := by rw [← HA.out]; exact HQL.out.at 21 (by omega)
        have d22 : wf.cell? ⟨g, 22, none⟩ = some (.int .i64 (sprK x x18 A 3)) := by have h9 := HQL.out.at 22 (by omega); rwa [upX_same] at h9
        have f22 := HQL.out.fz 22
        have hs3 := HSB.out 3 (by omega)
        have HSQ := Lib.hid (show sprK x x18 A 3 + (x 2 + upW (x 3 * A) 3600) = sprQ x by unfold sprQ; rw [HA.out, HE.out.2.1])
        obtain ⟨hx2, hx3, _⟩ := HX.out
        have m0 : 0 ≤ x 3 * A ∧ x 3 * A ≤ 1048575 * 14400 := ⟨Int.mul_nonneg hx3.1 (by omega), Int.mul_le_mul hx3.2 (by omega) (by omega) (by omega)⟩
        have UPX := Lib.hid (fun W => up40_any (x 3 * A) 3600 (by omega) (by omega) W)
        have u0 := upW_bd (a := x 3 * A) (b := 3600) m0.1 (by omega)
        generalize hm3 : x 3 * A = m3 at *
        generalize x 3 = x3 at *
        generalize x 2 = x2 at *
        generalize sprK x x18 A 3 = sp at *
        generalize upW m3 3600 = uu at *
        go_upto_region 15 with fail
        have k2 := fun p : Ext wf => Ext.cell' d2 p
        have k3 := fun p : Ext wf => Ext.cell' d3 p
        have k21 := fun p : Ext wf => Ext.cell' d21 p
        have k22 := fun p : Ext wf => Ext.cell' d22 p
        have hw4 : IntKind.i64.wrap (x3 * A) = m3 := by rw [hm3, IntKind.wrap_i64]; omega
        have hw5 : IntKind.i64.wrap (x2 + uu) = x2 + uu := by rw [IntKind.wrap_i64]; omega
        have hw6 : IntKind.i64.wrap (sp + (x2 + uu)) = sp + (x2 + uu) := by rw [IntKind.wrap_i64]; omega
        (refine wp_region_ext_tail 22 (by kernel_rfl) (by kernel_rfl) ?_; simp only [List.take_succ_cons, List.take_zero, List.drop_succ_cons, List.drop_zero]; (repeat (go_big_quiet_step (((go_at_call 45; with_reducible exact Calls.ext_of (UPX.out _)))))); refine wpQuiet_nil ?_; rintro wh ⟨⟨_, hbq⟩, rfl⟩; obtain ⟨hccq, hffq⟩ := Bw.cells hbq; have hszq := Bw.size hbq)
        replace d22 := hbq.cell' d22
        replace f22 := (HQL.out.bw hbq).fz 22
        replace HQL := Lib.hid (HQL.out.bw hbq)
        replace HKL := Lib.hid (HKL.out.bwr hbq hltf)
        have hlth : g < wh.heap.size := HQL.out.lt
        clear k2 k3 k21 k22 hbq hccq hffq hszq d2 d3 d21
        go_wp2
        go_ret
        refine ⟨rfl, ?_, (HK3.out.trans HKL.out).trans (Kx.set (j := 22) hlth _)⟩
        have h9 := HQL.out.set 22 (sp + (x2 + uu))
        rw [upX_upX, HSQ.out] at h9
        rw [HPL.out, ← HSQ.out]
        first | exact h9 | (rw [HSQ.out]; exact h9)
end Go.Proofs.Sky

namespace Go.Proofs.Sky
open Go Go.RowKit Go.Shelf
attribute [local go_sem] Oper.semAt_some
set_option maxHeartbeats 4000000
set_option maxRecDepth 8000
/-! chapter 40: height -/
theorem height40_bad (x : Nat → Int) (g : Nat) (w : World) (hq : QBlk w g x) (h : x 32 ≠ 0) : Calls Tryd.prog 26 #[.pointer (some ⟨g, 0, none⟩)] w fun e w' => e = .returned (.pointer (some ⟨g, 0, none⟩)) ∧ QBlk w' g x ∧ Kx g w w' := by
  have HQ := Lib.hid hq
  have d32 := hq.at 32 (by omega)
  have hlt := hq.lt
  have hne : (x 32 == 0) = false := by simpa using h
  have hne2 : (x 32 != 0) = true := by simpa using h
  clear hq h
  generalize x 32 = e at *
  go_enter Tryd.func26, Tryd.ntmps26
  go_wp2
  go_ret
  exact ⟨rfl, HQ.out, Kx.of_bw (Bw.refl _) (Nat.le_of_lt hlt)⟩
theorem height40_any (x : Nat → Int) (g : Nat) (w : World) (hq : QBlk w g x) (h32 : x 32 = 0) (hm : Mid x) : Calls Tryd.prog 26 #[.pointer (some ⟨g, 0, none⟩)] w fun e w' => e = .returned (.pointer (some ⟨g, 0, none⟩)) ∧ QBlk w' g (upX x 27 (upQ40 x)) ∧ Kx g w w' := by
  have HQ := Lib.hid hq
  have d32 := hq.at 32 (by omega)
  rw [h32] at d32
  have HF := Lib.hid (fK_bd hm)
  have HFN := Lib.hid (show ∀ k, fK40 x (k + 1) = fK40 x k + (x (23 + k) - x (13 + k)) * x (13 + k) from fun _ => rfl)
  have hlt := hq.lt
  have HM := Lib.hid hm
  clear hq hm h32
  go_enter Tryd.func26, Tryd.ntmps26
  go_upto_region 5 with fail
  clear d32
  go_wp2_with fail
  go_loopw [3, 12] (fun s3 s12 wr => ∃ k : Nat, k ≤ 3 ∧ s12 = .int .i64 k ∧ s3 = .int .i64 (fK40 x k) ∧ Hid (Bw w wr)) (fun _ s12 _ => 3 - (intOf s12).toNat)
  case atStart => exact ⟨0, by omega, rfl, rfl, Lib.hid (Bw.refl _)⟩
  case round =>
    obtain ⟨k, hk, rfl, rfl, HW⟩ := hrel
    obtain ⟨wf, hwf⟩ : ∃ wf, wf = wr := ⟨_, rfl⟩
    subst hwf
    by_cases hlk : k < 3
    · have hkz : (k : Int) < 3 := by omega
      have hk0 : (0 : Int) ≤ k := by omega
      have hu := HM.out.u k hlk
      have hs := HM.out.s k hlk
      have hm1 := mul_bd40 (a := x (23 + k) - x (13 + k)) (b := x (13 + k)) (A := 1100000000) (B := 100000000) (by omega) hu
      have hf := HF.out k hk
      have HN := Lib.hid (HFN.out k)
      have ds := HW.out.cell' (HQ.out.at (23 + k) (by omega))
      have du := HW.out.cell' (HQ.out.at (13 + k) (by omega))
      generalize fK40 x k = f at *
      generalize x (23 + k) = sk at *
      generalize x (13 + k) = uk at *
      have hw1 : IntKind.i64.wrap (sk - uk) = sk - uk := by rw [IntKind.wrap_i64]; omega
      have hw2 : IntKind.i64.wrap ((sk - uk) * uk) = (sk - uk) * uk := by rw [IntKind.wrap_i64]; omega
      have hw3 : IntKind.i64.wrap (f + (sk - uk) * uk) = f + (sk - uk) * uk := by rw [IntKind.wrap_i64]; omega
      go_upto_region 7 with fail
      have ks := fun p : Ext wf => Ext.cell' ds p
      have ku := fun p : Ext wf => Ext.cell' du p
      (refine wp_region_quiet_ext (by kernel_rfl) (by kernel_rfl) ?_; (repeat (go_big_quiet_step ((fail)))); refine wpQuiet_nil ?_; rintro wg ⟨⟨_, hbq⟩, rfl⟩; obtain ⟨hccq, hffq⟩ := Bw.cells hbq; have hszq := Bw.size hbq)
      clear ks ku ds du hccq hffq hszq
      go_wp2
      go_roundw
      case rel => exact ⟨k + 1, by omega, by go_num, by rw [HN.out], Lib.hid (HW.out.trans hbq)⟩
      case measure => simp [intOf]; omega
    · obtain rfl : k = 3 := by omega
      have hkz : ¬ ((3 : Nat) : Int) < 3 := by omega
      have hf := HF.out 3 (by omega)
      have HQ1 := Lib.hid (HQ.out.bw HW.out)
      have HK := Lib.hid (Kx.of_bw HW.out (Nat.le_of_lt hlt))
      have hlt1 : g < wf.heap.size := HQ1.out.lt
      have HU := Lib.hid (show upQ40 x = if bQ40 x < fK40 x 3 then 1 else if fK40 x 3 < -(bQ40 x) then -1 else 0 from rfl)
      have HB := Lib.hid (show bQ40 x = x 22 * len3 (x 13) (x 14) (x 15) + x 16 * (len3 (x 23) (x 24) (x 25) + 2 * len3 (x 13) (x 14) (x 15)) + 2 * x 22 * x 16 + x 16 * x 16 from rfl)
      have hu0 : -100000000 ≤ x 13 ∧ x 13 ≤ 100000000 := HM.out.u 0 (by omega)
      have hu1 : -100000000 ≤ x 14 ∧ x 14 ≤ 100000000 := HM.out.u 1 (by omega)
      have hu2 : -100000000 ≤ x 15 ∧ x 15 ≤ 100000000 := HM.out.u 2 (by omega)
      have hs0 : -1000000000 ≤ x 23 ∧ x 23 ≤ 1000000000 := HM.out.s 0 (by omega)
      have hs1 : -1000000000 ≤ x 24 ∧ x 24 ≤ 1000000000 := HM.out.s 1 (by omega)
      have hs2 : -1000000000 ≤ x 25 ∧ x 25 ≤ 1000000000 := HM.out.s 2 (by omega)
      obtain ⟨hr0, hr1⟩ := HM.out.r
      obtain ⟨hw0, hw1⟩ := HM.out.w
      have LU := Lib.hid (fun W => length40_any (x 13) (x 14) (x 15) (by omega) (by omega) (by omega) W)
      have LS := Lib.hid (fun W => length40_any (x 23) (x 24) (x 25) (by omega) (by omega) (by omega) W)
      have hlu : 0 ≤ len3 (x 13) (x 14) (x 15) ∧ len3 (x 13) (x 14) (x 15) ≤ 300000000 := by unfold len3 szW; omega
      have hls : 0 ≤ len3 (x 23) (x 24) (x 25) ∧ len3 (x 23) (x 24) (x 25) ≤ 3000000000 := by unfold len3 szW; omega
      clear hu0 hu1 hu2 hs0 hs1 hs2 HF HFN
      have d13 : wf.cell? ⟨g, 13, none⟩ = some (.int .i64 (x 13)) := HQ1.out.at 13 (by omega)
      have d14 : wf.cell? ⟨g, 14, none⟩ = some (.int .i64 (x 14)) := HQ1.out.at 14 (by omega)
      have d15 : wf.cell? ⟨g, 15, none⟩ = some (.int .i64 (x 15)) := HQ1.out.at 15 (by omega)
      have d16 : wf.cell? ⟨g, 16, none⟩ = some (.int .i64 (x 16)) := HQ1.out.at 16 (by omega)
      have d22 : wf.cell? ⟨g, 22, none⟩ = some (.int .i64 (x 22)) := HQ1.out.at 22 (by omega)
      have d23 : wf.cell? ⟨g, 23, none⟩ = some (.int .i64 (x 23)) := HQ1.out.at 23 (by omega)
      have d24 : wf.cell? ⟨g, 24, none⟩ = some (.int .i64 (x 24)) := HQ1.out.at 24 (by omega)
      have d25 : wf.cell? ⟨g, 25, none⟩ = some (.int .i64 (x 25)) := HQ1.out.at 25 (by omega)
      have f27 := HQ1.out.fz 27
      have d27 := HQ1.out.at 27 (by omega)
      generalize len3 (x 13) (x 14) (x 15) = lu at *
      generalize len3 (x 23) (x 24) (x 25) = ls at *
      generalize fK40 x 3 = f at *
      generalize bQ40 x = bq at *
      generalize x 13 = u0 at *
      generalize x 14 = u1 at *
      generalize x 15 = u2 at *
      generalize x 23 = s0 at *
      generalize x 24 = s1 at *
      generalize x 25 = s2 at *
      generalize x 16 = rr at *
      generalize x 22 = ww at *
      generalize x 27 = x27 at *
      have m1 : 0 ≤ ww * lu ∧ ww * lu ≤ 45000000 * 300000000 := ⟨Int.mul_nonneg hw0 hlu.1, Int.mul_le_mul hw1 hlu.2 hlu.1 (by omega)⟩
      have m2 : 0 ≤ rr * (ls + 2 * lu) ∧ rr * (ls + 2 * lu) ≤ 10000000 * 3600000000 := ⟨Int.mul_nonneg hr0 (by omega), Int.mul_le_mul hr1 (by omega) (by omega) (by omega)⟩
      have m3 : 0 ≤ 2 * ww * rr ∧ 2 * ww * rr ≤ 90000000 * 10000000 := ⟨Int.mul_nonneg (by omega) hr0, Int.mul_le_mul (by omega) hr1 hr0 (by omega)⟩
      have m4 : 0 ≤ rr * rr ∧ rr * rr ≤ 10000000 * 10000000 := ⟨Int.mul_nonneg hr0 hr0, Int.mul_le_mul hr1 hr1 hr0 (by omega)⟩
      go_upto_region 9 with fail
      have k13 := fun p : Ext wf => Ext.cell' d13 p
      have k14 := fun p : Ext wf => Ext.cell' d14 p
      have k15 := fun p : Ext wf => Ext.cell' d15 p
      have k16 := fun p : Ext wf => Ext.cell' d16 p
      have k22 := fun p : Ext wf => Ext.cell' d22 p
      have k23 := fun p : Ext wf => Ext.cell' d23 p
      have k24 := fun p : Ext wf => Ext.cell' d24 p
      have k25 := fun p : Ext wf => Ext.cell' d25 p
      have hw2 : IntKind.i64.wrap (2 * lu) = 2 * lu := by rw [IntKind.wrap_i64]; omega
      have hw3 : IntKind.i64.wrap (ls + 2 * lu) = ls + 2 * lu := by rw [IntKind.wrap_i64]; omega
      have hw4 : IntKind.i64.wrap (2 * ww) = 2 * ww := by rw [IntKind.wrap_i64]; omega
      have hw5 : IntKind.i64.wrap (ww * lu) = ww * lu := by rw [IntKind.wrap_i64]; omega
      have hw6 : IntKind.i64.wrap (rr * (ls + 2 * lu)) = rr * (ls + 2 * lu) := by rw [IntKind.wrap_i64]; omega
      have hw7 : IntKind.i64.wrap (2 * ww * rr) = 2 * ww * rr := by rw [IntKind.wrap_i64]; omega
      have hw8 : IntKind.i64.wrap (rr * rr) = rr * rr := by rw [IntKind.wrap_i64]; omega
      have hw9 : IntKind.i64.wrap (ww * lu + rr * (ls + 2 * lu)) = ww * lu + rr * (ls + 2 * lu) := by rw [IntKind.wrap_i64]; omega
      have hwA : IntKind.i64.wrap (ww * lu + rr * (ls + 2 * lu) + 2 * ww * rr) = ww * lu + rr * (ls + 2 * lu) + 2 * ww * rr := by rw [IntKind.wrap_i64]; omega
      have hwB : IntKind.i64.wrap (ww * lu + rr * (ls + 2 * lu) + 2 * ww * rr + rr * rr) = ww * lu + rr * (ls + 2 * lu) + 2 * ww * rr + rr * rr := by rw [IntKind.wrap_i64]; omega
      (refine wp_region_quiet_ext (by kernel_rfl) (by kernel_rfl) ?_; (repeat (go_big_quiet_step (((go_at_call 46; first | (with_reducible exact Calls.ext_of (LU.out _)) | (with_reducible exact Calls.ext_of (LS.out _))))))); refine wpQuiet_nil ?_; rintro wh ⟨⟨_, hbq⟩, rfl⟩; obtain ⟨hccq, hffq⟩ := Bw.cells hbq; have hszq := Bw.size hbq)
      have hbb : 0 ≤ bq ∧ bq ≤ 100000000000000000 := by rw [HB.out]; omega
      rw [← HB.out]
      have d27' := hbq.cell' d27
      have f27' := (HQ1.out.bw hbq).fz 27
      have HQ2 := Lib.hid (HQ1.out.bw hbq)
      have HK2 := Lib.hid (HK.out.bwr hbq hlt1)
      have hlt2 : g < wh.heap.size := HQ2.out.lt
      clear k13 d13 k14 d14 k15 d15 k16 d16 k22 d22 k23 d23 k24 d24 k25 d25
      clear hw2 hw3 hw4 hw5 hw6 hw7 hw8 hw9 hwA hwB m1 m2 m3 m4 HB LU LS hbq hccq hffq hszq d27 f27
      have hwn : IntKind.i64.wrap (-bq) = -bq := by rw [IntKind.wrap_i64]; omega
      by_cases h1 : bq < f
      · have HE := Lib.hid (show upQ40 x = 1 by rw [HU.out, if_pos h1])
        go_wp2
        go_ret
        exact ⟨rfl, by rw [HE.out]; exact HQ2.out.set 27 1, HK2.out.trans (Kx.set (j := 27) hlt2 _)⟩
      · by_cases h2 : f < -bq
        · have HE := Lib.hid (show upQ40 x = -1 by rw [HU.out, if_neg h1, if_pos h2])
          go_wp2
          go_ret
          exact ⟨rfl, by rw [HE.out]; exact HQ2.out.set 27 (-1), HK2.out.trans (Kx.set (j := 27) hlt2 _)⟩
        · have HE := Lib.hid (show upQ40 x = 0 by rw [HU.out, if_neg h1, if_neg h2])
          go_wp2
          go_ret
          exact ⟨rfl, by rw [HE.out]; exact HQ2.out.set 27 0, HK2.out.trans (Kx.set (j := 27) hlt2 _)⟩
end Go.Proofs.Sky

namespace Go.Proofs.Sky
open Go Go.RowKit Go.Shelf
attribute [local go_sem] Oper.semAt_some
attribute [-go_sem] run_max_int2 run_min_int2
attribute [local go_sem] run_mx28 run_mn28
set_option maxHeartbeats 4000000
set_option maxRecDepth 8000
/-! chapter 40: distance -/
theorem distance40_bad (x : Nat → Int) (g : Nat) (w : World) (hq : QBlk w g x) (h : x 32 ≠ 0) : Calls Tryd.prog 27 #[.pointer (some ⟨g, 0, none⟩)] w fun e w' => e = .returned (.pointer (some ⟨g, 0, none⟩)) ∧ QBlk w' g x ∧ Kx g w w' := by
  have HQ := Lib.hid hq
  have d32 := hq.at 32 (by omega)
  have hlt := hq.lt
  have hne : (x 32 == 0) = false := by simpa using h
  have hne2 : (x 32 != 0) = true := by simpa using h
  clear hq h
  generalize x 32 = e at *
  go_enter Tryd.func27, Tryd.ntmps27
  go_wp2
  go_ret
  exact ⟨rfl, HQ.out, Kx.of_bw (Bw.refl _) (Nat.le_of_lt hlt)⟩
theorem distance40_any (x : Nat → Int) (g : Nat) (r : Int) (w : World) (hq : QBlk w g x) (h32 : x 32 = 0) (hm : Mid x) (hr0 : 0 ≤ r) (hr1 : r * r ≤ sK40 x 3) (hr2 : sK40 x 3 < (r + 1) * (r + 1)) : Calls Tryd.prog 27 #[.pointer (some ⟨g, 0, none⟩)] w fun e w' => e = .returned (.pointer (some ⟨g, 0, none⟩)) ∧ QBlk w' g (diQ x r) ∧ Kx g w w' := by
  have HQ := Lib.hid hq
  have d32 := hq.at 32 (by omega)
  rw [h32] at d32
  have HF := Lib.hid (sK_bd hm)
  have HFN := Lib.hid (show ∀ k, sK40 x (k + 1) = sK40 x k + (x (23 + k) - x (13 + k)) * (x (23 + k) - x (13 + k)) from fun _ => rfl)
  have hlt := hq.lt
  have HM := Lib.hid hm
  have RT := Lib.hid (fun W => root40_any (sK40 x 3) r (by have := sK_bd hm 3 (by omega); omega) (by have := sK_bd hm 3 (by omega); omega) hr0 hr1 hr2 W)
  have hrr : r ≤ 2000000000 := by
    rcases Int.lt_or_le 2000000000 r with h | h
    · have h1 : 2000000000 * 2000000000 ≤ r * r := Int.mul_le_mul (by omega) (by omega) (by omega) (by omega)
      have := sK_bd hm 3 (by omega)
      omega
    · exact h
  clear hq hm h32 hr1 hr2
  go_enter Tryd.func27, Tryd.ntmps27
  go_upto_region 5 with fail
  clear d32
  go_wp2_with fail
  go_loopw [3, 15] (fun s3 s15 wr => ∃ k : Nat, k ≤ 3 ∧ s15 = .int .i64 k ∧ s3 = .int .i64 (sK40 x k) ∧ Hid (Bw w wr)) (fun _ s15 _ => 3 - (intOf s15).toNat)
  case atStart => exact ⟨0, by omega, rfl, rfl, Lib.hid (Bw.refl _)⟩
  case round =>
    obtain ⟨k, hk, rfl, rfl, HW⟩ := hrel
    obtain ⟨wf, hwf⟩ : ∃ wf, wf = wr := ⟨_, rfl⟩
    subst hwf
    by_cases hlk : k < 3
    · have hkz : (k : Int) < 3 := by omega
      have hk0 : (0 : Int) ≤ k := by omega
      have hu := HM.out.u k hlk
      have hs := HM.out.s k hlk
      have hb : -1100000000 ≤ x (23 + k) - x (13 + k) ∧ x (23 + k) - x (13 + k) ≤ 1100000000 := by omega
      have hm1 := mul_bd40 hb hb
      have hf := HF.out k hk
      have HN := Lib.hid (HFN.out k)
      have ds := HW.out.cell' (HQ.out.at (23 + k) (by omega))
      have du := HW.out.cell' (HQ.out.at (13 + k) (by omega))
      generalize sK40 x k = f at *
      generalize x (23 + k) = sk at *
      generalize x (13 + k) = uk at *
      have hw1 : IntKind.i64.wrap (sk - uk) = sk - uk := by rw [IntKind.wrap_i64]; omega
      have hw2 : IntKind.i64.wrap ((sk - uk) * (sk - uk)) = (sk - uk) * (sk - uk) := by rw [IntKind.wrap_i64]; omega
      have hw3 : IntKind.i64.wrap (f + (sk - uk) * (sk - uk)) = f + (sk - uk) * (sk - uk) := by rw [IntKind.wrap_i64]; omega
      go_upto_region 7 with fail
      have ks := fun p : Ext wf => Ext.cell' ds p
      have ku := fun p : Ext wf => Ext.cell' du p
      (refine wp_region_quiet_ext (by kernel_rfl) (by kernel_rfl) ?_; (repeat (go_big_quiet_step ((fail)))); refine wpQuiet_nil ?_; rintro wg ⟨⟨_, hbq⟩, rfl⟩; obtain ⟨hccq, hffq⟩ := Bw.cells hbq; have hszq := Bw.size hbq)
      clear ks ku ds du hccq hffq hszq
      go_wp2
      go_roundw
      case rel => exact ⟨k + 1, by omega, by go_num, by rw [HN.out], Lib.hid (HW.out.trans hbq)⟩
      case measure => simp [intOf]; omega
    · obtain rfl : k = 3 := by omega
      have hkz : ¬ ((3 : Nat) : Int) < 3 := by omega
      have HQ1 := Lib.hid (HQ.out.bw HW.out)
      have HK := Lib.hid (Kx.of_bw HW.out (Nat.le_of_lt hlt))
      have hlt1 : g < wf.heap.size := HQ1.out.lt
      obtain ⟨hr0', hr1'⟩ := HM.out.r
      obtain ⟨hw0', hw1'⟩ := HM.out.w
      obtain ⟨hc0, hc1⟩ := HM.out.c
      obtain ⟨hm0, hm1⟩ := HM.out.m
      have HE := Lib.hid (show 2 * x 22 + x 16 = eQ40 x from rfl)
      have HNE := Lib.hid (show mx28 0 (r - eQ40 x) = nearQ x r from rfl)
      have HFA := Lib.hid (show r + 1 + eQ40 x = farQ x r from rfl)
      have HLO := Lib.hid (show (nearQ x r - x 19) * 1000 * x 20 / 299792458 = lowQ x r from rfl)
      have HHI := Lib.hid (show (farQ x r + x 19) * 1000 * x 20 / 299792458 = highQ x r from rfl)
      have HMA := Lib.hid (show mn28 (highQ x r - lowQ x r + 1) (x 20) = manyQ x r from rfl)
      have HLA := Lib.hid (show lowQ x r % x 20 = lagQ x r from rfl)
      have HDI := Lib.hid (show diQ x r = upX (upX (upX (upX (upX x 28 (nearQ x r)) 29 (farQ x r)) 26 (x 0)) 31 (manyQ x r)) 30 (lagQ x r) from rfl)
      clear HF HFN
      have d16 : wf.cell? ⟨g, 16, none⟩ = some (.int .i64 (x 16)) := HQ1.out.at 16 (by omega)
      have d22 : wf.cell? ⟨g, 22, none⟩ = some (.int .i64 (x 22)) := HQ1.out.at 22 (by omega)
      have hwa : IntKind.i64.wrap (2 * x 22) = 2 * x 22 := by rw [IntKind.wrap_i64]; omega
      have hwb : IntKind.i64.wrap (2 * x 22 + x 16) = 2 * x 22 + x 16 := by rw [IntKind.wrap_i64]; omega
      generalize sK40 x 3 = sm at *
      go_upto_region 9 with fail
      have k16 := fun p : Ext wf => Ext.cell' d16 p
      have k22 := fun p : Ext wf => Ext.cell' d22 p
      (refine wp_region_quiet_ext (by kernel_rfl) (by kernel_rfl) ?_; (repeat (go_big_quiet_step (((go_at_call 47; with_reducible exact Calls.ext_of (RT.out _)))))); refine wpQuiet_nil ?_; rintro wh ⟨⟨_, hbq⟩, rfl⟩; obtain ⟨hccq, hffq⟩ := Bw.cells hbq; have hszq := Bw.size hbq)
      replace HQ1 := Lib.hid (HQ1.out.bw hbq)
      replace HK := Lib.hid (HK.out.bwr hbq hlt1)
      have hlth : g < wh.heap.size := HQ1.out.lt
      clear k16 k22 d16 d22 hwa hwb hbq hccq hffq hszq RT
      rw [HE.out]
      have hee : 0 ≤ eQ40 x ∧ eQ40 x ≤ 100000000 := by rw [← HE.out]; omega
      have d28 := HQ1.out.at 28 (by omega)
      have d29 := HQ1.out.at 29 (by omega)
      have f28 := HQ1.out.fz 28
      have f29 := HQ1.out.fz 29
      generalize eQ40 x = e at *
      have hnn : 0 ≤ nearQ x r ∧ nearQ x r ≤ 2000000000 := by rw [← HNE.out]; have := mx28_ge 0 (r - e); omega
      have hff : 0 ≤ farQ x r ∧ farQ x r ≤ 2200000000 := by rw [← HFA.out]; omega
      have hwc : IntKind.i64.wrap (r - e) = r - e := by rw [IntKind.wrap_i64]; omega
      have hwd : IntKind.i64.wrap (r + 1) = r + 1 := by rw [IntKind.wrap_i64]; omega
      have hwe : IntKind.i64.wrap (r + 1 + e) = r + 1 + e := by rw [IntKind.wrap_i64]; omega
      generalize x 28 = x28 at d28
      generalize x 29 = x29 at d29
      go_upto_region 11 with fail
      rw [HNE.out, HFA.out]
      have hq2 := (HQ1.out.set 28 (nearQ x r)).set 29 (farQ x r)
      have hk2 := (HK.out.trans (Kx.set (j := 28) hlth (.int .i64 (nearQ x r)))).trans (Kx.set (j := 29) (by simpa using hlth) (.int .i64 (farQ x r)))
      obtain ⟨W2, hW2⟩ : ∃ W2, (wh.setCell ⟨g, 28, none⟩ (.int .i64 (nearQ x r))).setCell ⟨g, 29, none⟩ (.int .i64 (farQ x r)) = W2 := ⟨_, rfl⟩
      rw [hW2] at hq2 hk2 ⊢
      have HQ2 := Lib.hid hq2
      have HK2 := Lib.hid hk2
      have hlt2 : g < W2.heap.size := hq2.lt
      clear hW2 hq2 hk2 d28 d29 f28 f29 hwc hwd hwe HQ1 HK
      have d28 : W2.cell? ⟨g, 28, none⟩ = some (.int .i64 (nearQ x r)) := HQ2.out.at 28 (by omega)
      have d29 : W2.cell? ⟨g, 29, none⟩ = some (.int .i64 (farQ x r)) := HQ2.out.at 29 (by omega)
      have d19 : W2.cell? ⟨g, 19, none⟩ = some (.int .i64 (x 19)) := HQ2.out.at 19 (by omega)
      have d20 : W2.cell? ⟨g, 20, none⟩ = some (.int .i64 (x 20)) := HQ2.out.at 20 (by omega)
      have m1 := mul_bd40 (a := (nearQ x r - x 19) * 1000) (b := x 20) (A := 3000000000000) (B := 8192) (by omega) (by omega)
      have m2 := mul_bd40 (a := (farQ x r + x 19) * 1000) (b := x 20) (A := 3200000000000) (B := 8192) (by omega) (by omega)
      have DL := Lib.hid (fun W => down40_any ((nearQ x r - x 19) * 1000 * x 20) 299792458 (by omega) (by omega) W)
      have DH := Lib.hid (fun W => down40_any ((farQ x r + x 19) * 1000 * x 20) 299792458 (by omega) (by omega) W)
      have hlb : -90000000 ≤ lowQ x r ∧ lowQ x r ≤ 90000000 := by rw [← HLO.out]; omega
      have hhb : -90000000 ≤ highQ x r ∧ highQ x r ≤ 90000000 := by rw [← HHI.out]; omega
      rw [HLO.out] at DL
      rw [HHI.out] at DH
      obtain ⟨ne, hne⟩ : ∃ ne, nearQ x r = ne := ⟨_, rfl⟩
      obtain ⟨fa, hfa⟩ : ∃ fa, farQ x r = fa := ⟨_, rfl⟩
      obtain ⟨lo, hlo⟩ : ∃ lo, lowQ x r = lo := ⟨_, rfl⟩
      obtain ⟨hi, hhi⟩ : ∃ hi, highQ x r = hi := ⟨_, rfl⟩
      obtain ⟨cc, hcc⟩ : ∃ cc, x 19 = cc := ⟨_, rfl⟩
      obtain ⟨mm, hmm⟩ : ∃ mm, x 20 = mm := ⟨_, rfl⟩
      rw [hne, hcc, hmm] at DL m1
      rw [hfa, hcc, hmm] at DH m2
      rw [hlo] at DL hlb HMA HLA
      rw [hhi] at DH hhb HMA
      rw [hmm] at HMA HLA hm0 hm1 d20
      rw [hne] at d28 hnn HQ2 HDI ⊢
      rw [hfa] at d29 hff HQ2 HDI ⊢
      rw [hcc] at d19 hc0 hc1
      have HG := Lib.hid (And.intro hne (And.intro hfa (And.intro hlo (And.intro hhi (And.intro hcc hmm)))))
      clear hne hfa hlo hhi hcc hmm HLO HHI HNE HFA
      have hwf : IntKind.i64.wrap (ne - cc) = ne - cc := by rw [IntKind.wrap_i64]; omega
      have hwg : IntKind.i64.wrap ((ne - cc) * 1000) = (ne - cc) * 1000 := by rw [IntKind.wrap_i64]; omega
      have hwh : IntKind.i64.wrap ((ne - cc) * 1000 * mm) = (ne - cc) * 1000 * mm := by rw [IntKind.wrap_i64]; omega
      have hwi : IntKind.i64.wrap (fa + cc) = fa + cc := by rw [IntKind.wrap_i64]; omega
      have hwj : IntKind.i64.wrap ((fa + cc) * 1000) = (fa + cc) * 1000 := by rw [IntKind.wrap_i64]; omega
      have hwk : IntKind.i64.wrap ((fa + cc) * 1000 * mm) = (fa + cc) * 1000 * mm := by rw [IntKind.wrap_i64]; omega
      have k28 := fun p : Ext W2 => Ext.cell' d28 p
      have k19 := fun p : Ext W2 => Ext.cell' d19 p
      have k20 := fun p : Ext W2 => Ext.cell' d20 p
      (refine wp_region_quiet_ext (by kernel_rfl) (by kernel_rfl) ?_; (repeat (go_big_quiet_step (((go_at_call 48; with_reducible exact Calls.ext_of (DL.out _)))))); refine wpQuiet_nil ?_; rintro wi ⟨⟨_, hbq⟩, rfl⟩; obtain ⟨hccq, hffq⟩ := Bw.cells hbq; have hszq := Bw.size hbq)
      replace d29 := hbq.cell' d29
      replace d19 := hbq.cell' d19
      replace d20 := hbq.cell' d20
      replace HQ2 := Lib.hid (HQ2.out.bw hbq)
      replace HK2 := Lib.hid (HK2.out.bwr hbq hlt2)
      have hlti : g < wi.heap.size := HQ2.out.lt
      clear k28 k19 k20 hbq hccq hffq hszq d28 hwf hwg hwh DL m1
      go_upto_region 12 with fail
      have k29 := fun p : Ext wi => Ext.cell' d29 p
      have k19 := fun p : Ext wi => Ext.cell' d19 p
      have k20 := fun p : Ext wi => Ext.cell' d20 p
      (refine wp_region_quiet_ext (by kernel_rfl) (by kernel_rfl) ?_; (repeat (go_big_quiet_step (((go_at_call 48; with_reducible exact Calls.ext_of (DH.out _)))))); refine wpQuiet_nil ?_; rintro wj ⟨⟨_, hbq⟩, rfl⟩; obtain ⟨hccq, hffq⟩ := Bw.cells hbq; have hszq := Bw.size hbq)
      replace d20 := hbq.cell' d20
      replace HQ2 := Lib.hid (HQ2.out.bw hbq)
      replace HK2 := Lib.hid (HK2.out.bwr hbq hlti)
      have hltj : g < wj.heap.size := HQ2.out.lt
      clear k29 k19 k20 hbq hccq hffq hszq d29 d19 hwi hwj hwk DH m2
      have d0 : wj.cell? ⟨g, 0, none⟩ = some (.int .i64 (x 0)) := HQ2.out.at 0 (by omega)
      have d26 := HQ2.out.at 26 (by omega)
      have f26 := HQ2.out.fz 26
      have d31 := HQ2.out.at 31 (by omega)
      have f31 := HQ2.out.fz 31
      have hwl : IntKind.i64.wrap (hi - lo) = hi - lo := by rw [IntKind.wrap_i64]; omega
      have hwm : IntKind.i64.wrap (hi - lo + 1) = hi - lo + 1 := by rw [IntKind.wrap_i64]; omega
      go_upto_region 15 with fail
      rw [HMA.out]
      have hq3 := (HQ2.out.set 26 (x 0)).set 31 (manyQ x r)
      have hk3 := (HK2.out.trans (Kx.set (j := 26) hltj (.int .i64 (x 0)))).trans (Kx.set (j := 31) (by simpa using hltj) (.int .i64 (manyQ x r)))
      obtain ⟨W3, hW3⟩ : ∃ W3, (wj.setCell ⟨g, 26, none⟩ (.int .i64 (x 0))).setCell ⟨g, 31, none⟩ (.int .i64 (manyQ x r)) = W3 := ⟨_, rfl⟩
      rw [hW3] at hq3 hk3 ⊢
      have HQ3 := Lib.hid hq3
      have HK3 := Lib.hid hk3
      have hlt3 : g < W3.heap.size := hq3.lt
      clear hW3 hq3 hk3 d26 f26 d31 f31 d0 hwl hwm HQ2 HK2 d20
      have d20 : W3.cell? ⟨g, 20, none⟩ = some (.int .i64 mm) := by rw [← HG.out.2.2.2.2.2]; exact HQ3.out.at 20 (by omega)
      have d30 := HQ3.out.at 30 (by omega)
      have f30 := HQ3.out.fz 30
      obtain ⟨md, t1, b1, b2, t2⟩ := lag_way lo mm hm0
      rw [HLA.out] at t2
      have hz : ¬ mm = 0 := by omega
      have hzb : (mm == 0) = false := by simpa using hz
      have hwn : IntKind.i64.wrap (md + mm) = md + mm := by rw [IntKind.wrap_i64]; omega
      have hlg : 0 ≤ lagQ x r ∧ lagQ x r < mm := by rw [← HLA.out]; exact ⟨Int.emod_nonneg _ hz, Int.emod_lt_of_pos _ (by omega)⟩
      generalize hla : lagQ x r = la at *
      have k20 := fun p : Ext W3 => Ext.cell' d20 p
      (refine wp_region_ext_tail 18 (by kernel_rfl) (by kernel_rfl) ?_; simp only [List.take_succ_cons, List.take_zero, List.drop_succ_cons, List.drop_zero]; (repeat (go_big_quiet_step ((fail)))); refine wpQuiet_nil ?_; rintro wk ⟨⟨_, hbq⟩, rfl⟩; obtain ⟨hccq, hffq⟩ := Bw.cells hbq; have hszq := Bw.size hbq)
      replace d30 := hbq.cell' d30
      replace f30 := (HQ3.out.bw hbq).fz 30
      replace HQ3 := Lib.hid (HQ3.out.bw hbq)
      replace HK3 := Lib.hid (HK3.out.bwr hbq hlt3)
      have hltk : g < wk.heap.size := HQ3.out.lt
      clear k20 hbq hccq hffq hszq d20
      go_wp2
      go_ret
      refine ⟨rfl, ?_, HK3.out.trans (Kx.set (j := 30) hltk _)⟩
      rw [HDI.out]
      first | exact HQ3.out.set 30 la | (rw [hla]; exact HQ3.out.set 30 la)
end Go.Proofs.Sky
