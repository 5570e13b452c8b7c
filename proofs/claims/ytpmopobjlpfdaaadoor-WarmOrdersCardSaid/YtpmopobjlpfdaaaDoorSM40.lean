/-
  lemmas for the theorems of this claim. No conditions beyond those written in the statements.
-/
import Derived.Test.YtpmopobjlpfdaaaDoorSQ40
import Derived.Deep.Cut
set_option linter.unusedVariables false
set_option linter.unusedSimpArgs false
set_option linter.unnecessarySimpa false
namespace Go.Proofs.Sky
open Go Go.RowKit Go.Shelf
attribute [local go_sem] Oper.semAt_some
set_option maxHeartbeats 4000000
set_option maxRecDepth 8000
/-! chapter 40: symMergeCmpFunc, one element before the rest -/
theorem symA_any (hs : List (Nat → Int)) (rest : List Value) (g c a m b : Nat) (w : World) (hm : MemH w g hs rest) (hl : hs.length ≤ 1000000) (ham : m = a + 1) (hmb : m < b) (hb : b ≤ hs.length) (hS : Srt m b hs) :
   Calls Tryd.prog 59 #[.slice (some ⟨g, 0, none⟩) hs.length c, .int .i64 a, .int .i64 m, .int .i64 b, .func (.func 32) #[] #[]] w (SortP g a b hs rest w) := by
  have HM0 := Lib.hid hm
  have hgl := hm.lt
  have CF := Lib.hid (fun x y W => cmpH_any x y W)
  have eg : ∀ args w, (callFunc 32 args).run Tryd.prog w = .ok (.enter 32 args) w := enters_of Tryd.func32 (by kernel_rfl) rfl
  have HSR := Lib.hid (fun i l' h h1 h2 h3 h4 => MovU.srt (a := a) (i := i) (b := b) (l := hs) (l' := l') h (by rw [← ham]; exact hS) h1 h2 h3 h4)
  clear hm hS
  obtain ⟨n, hn⟩ : ∃ n, hs.length = n := ⟨_, rfl⟩
  have HN := Lib.hid hn
  rw [hn] at hl hb ⊢
  clear hn
  have hw0 : IntKind.i64.wrap ((m : Int) - (a : Int)) = 1 := by rw [IntKind.wrap_i64]; omega
  have HMA := Lib.hid ham
  have ham2 : a < m := by omega
  clear ham
  go_enter Tryd.func59, Tryd.ntmps59
  go_wp2
  go_loopg [10, 11] n (fun gg s10 s11 wr => ∃ i j : Nat, m ≤ i ∧ i ≤ j ∧ j ≤ b ∧ j - i ≤ gg ∧ s10 = .int .i64 (i : Int) ∧ s11 = .int .i64 (j : Int) ∧ Hid (MemH wr g hs rest) ∧ Hid (Kx g w wr) ∧ Hid ((i = m ∨ cmpHn (at0 hs (i - 1)) (at0 hs a) < 0) ∧ (j = b ∨ ¬ cmpHn (at0 hs j) (at0 hs a) < 0)))
  case atStart => exact ⟨m, b, Nat.le_refl _, by omega, Nat.le_refl _, by omega, rfl, rfl, HM0, Lib.hid (Kx.of_bw (Bw.refl _) (Nat.le_of_lt hgl)), Lib.hid ⟨.inl rfl, .inl rfl⟩⟩
  case round =>
    obtain ⟨i, j, hmi, hij, hjb, hgg, rfl, rfl, HM, HK, HG⟩ := hrel
    obtain ⟨wi, rfl⟩ : ∃ wc, wc = wr := ⟨_, rfl⟩
    by_cases hlt : i < j
    · have hltz : (i : Int) < (j : Int) := by omega
      obtain ⟨h, hh⟩ : ∃ h, h = (i + j) / 2 := ⟨_, rfl⟩
      have hu0 : IntKind.i64.wrap ((i : Int) + j) = (i : Int) + j := by rw [IntKind.wrap_i64]; omega
      have hu1 : IntKind.u64.wrap ((i : Int) + j) = (i : Int) + j := by rw [IntKind.wrap_u64]; omega
      have hu2 : ((i : Int) + j) / 2 = (h : Int) := by omega
      have hu3 : IntKind.i64.wrap (h : Int) = h := by rw [IntKind.wrap_i64]; omega
      have hhi : i ≤ h := by omega
      have hhj : h < j := by omega
      clear hh
      go_upto_region 5 with fail
      have hq2 : (h : Int) < n := by omega
      have haz : (a : Int) < n := by omega
      have hq3 : IntKind.i64.wrap ((h : Int) + 1) = (h : Int) + 1 := by rw [IntKind.wrap_i64]; omega
      have RX := Lib.hid (HM.out.rg (at0_some (l := hs) (i := h) (by have := HN.out; omega)))
      have RY := Lib.hid (HM.out.rg (at0_some (l := hs) (i := a) (by have := HN.out; omega)))
      have CC := Lib.hid (fun W => CF.out (at0 hs h) (at0 hs a) W)
      obtain ⟨cc, hcc⟩ : ∃ cc, cmpHn (at0 hs h) (at0 hs a) = cc := ⟨_, rfl⟩
      rw [hcc] at CC
      have HCC := Lib.hid hcc
      clear hcc
      generalize at0 hs h = x at RX CC
      generalize at0 hs a = y at RY CC
      refine wp_region_quiet_ext (by kernel_rfl) (by kernel_rfl) ?_
      (repeat (go_big_quiet_step (fail)))
      go_big_quiet_want
      refine quiet_load40 (.agg (hnV x)) (some 44) rfl (fun W hW => ?_) ?_
      · obtain ⟨p, rfl⟩ := hW
        exact run_load_hn (.tmp 43) rfl g (h * 6) (by simp [Act.eval, Act.put]) (rg_bw9 RX.out p.b)
      simp only [Act.put, List.setIfInBounds_toArray, List.set_cons_zero, List.set_cons_succ]
      go_big_quiet_on
      (repeat (go_big_quiet_step (fail)))
      go_big_quiet_want
      refine quiet_load40 (.agg (hnV y)) (some 48) rfl (fun W hW => ?_) ?_
      · obtain ⟨p, rfl⟩ := hW
        exact run_load_hn (.tmp 47) rfl g (a * 6) (by simp [Act.eval, Act.put]) (rg_bw9 RY.out p.b)
      simp only [Act.put, List.setIfInBounds_toArray, List.set_cons_zero, List.set_cons_succ]
      go_big_quiet_on
      (repeat (go_big_quiet_step ((go_at_fn 32; with_reducible exact Calls.ext_of (CC.out _)))))
      refine wpQuiet_nil ?_
      rintro wq ⟨⟨_, hbq⟩, rfl⟩
      replace HK := Lib.hid (HK.out.trans (Kx.of_bw hbq (Nat.le_of_lt HM.out.lt)))
      replace HM := Lib.hid (HM.out.bw hbq)
      clear hbq RX RY CC
      by_cases hc : cc < 0
      · have HG2 := Lib.hid (show (h + 1 = m ∨ cmpHn (at0 hs (h + 1 - 1)) (at0 hs a) < 0) from .inr (by rw [Nat.add_sub_cancel, HCC.out]; exact hc))
        go_wp2
        go_roundg (j - (h + 1))
        case measure => omega
        case rel => exact ⟨h + 1, j, by omega, by omega, hjb, Nat.le_refl _, by go_num, rfl, HM, HK, Lib.hid ⟨HG2.out, HG.out.2⟩⟩
      · have HG2 := Lib.hid (show (h = b ∨ ¬ cmpHn (at0 hs h) (at0 hs a) < 0) from .inr (by rw [HCC.out]; exact hc))
        go_wp2
        go_roundg (h - i)
        case measure => omega
        case rel => exact ⟨i, h, hmi, hhi, by omega, Nat.le_refl _, rfl, rfl, HM, HK, Lib.hid ⟨HG.out.1, HG2.out⟩⟩
    · have hltz : ¬ (i : Int) < (j : Int) := by omega
      obtain rfl : i = j := by omega
      obtain ⟨e, he⟩ : ∃ e, e = i - 1 := ⟨_, rfl⟩
      have hwe : IntKind.i64.wrap ((i : Int) - 1) = (e : Int) := by rw [IntKind.wrap_i64]; omega
      have HEI := Lib.hid (show i = e + 1 by omega)
      have hae : a ≤ e := by omega
      have heb : e + 1 ≤ n := by omega
      have hebb : e < b := by omega
      have HFIN := Lib.hid (fun (l' : List (Nat → Int)) (h : MovU a e hs l') => HSR.out i l' (by rwa [← he]) (by have := HMA.out; omega) hjb (by have := HMA.out; have := HG.out.1; omega) (by have := HG.out.2; omega))
      clear he HG
      go_wp2
      go_loopg [13] n (fun g2 s13 wz => ∃ k cur, a ≤ k ∧ k ≤ e ∧ e - k ≤ g2 ∧ s13 = .int .i64 ((k : Nat) : Int) ∧ Hid (MemH wz g cur rest) ∧ Hid (Kx g w wz) ∧ Hid (MovU a k hs cur))
      case atStart => exact ⟨a, hs, Nat.le_refl _, hae, by omega, rfl, HM, HK, Lib.hid (MovU.zero _ _)⟩
      case round =>
        clear HM HK
        obtain ⟨k, cur, hak, hke, hg2, rfl, HM, HK, HV⟩ := hrel
        obtain ⟨wj, rfl⟩ : ∃ wc, wc = wr := ⟨_, rfl⟩
        have hcl : cur.length = n := by rw [HV.out.perm.length_eq, HN.out]
        by_cases hlk : k < e
        · have hlkz : (k : Int) < (e : Int) := by omega
          obtain ⟨M, hJ⟩ : ∃ M, M = k + 1 := ⟨_, rfl⟩
          have hwk : IntKind.i64.wrap ((k : Int) + 1) = (M : Int) := by rw [IntKind.wrap_i64]; omega
          have hkn : (k : Int) < (n : Int) := by omega
          have hMn : (M : Int) < (n : Int) := by omega
          have HST := Lib.hid (show MovU a M hs (swH cur k M) by rw [hJ]; exact HV.out.step hak (by have := HN.out; omega))
          have HJL := Lib.hid (show k < cur.length by omega)
          have HML2 := Lib.hid (show M < (cur.set k (at0 cur M)).length by rw [List.length_set]; omega)
          have RJ := Lib.hid (HM.out.rg (at0_some (l := cur) (i := k) (by omega)))
          have RM := Lib.hid (HM.out.rg (at0_some (l := cur) (i := M) (by omega)))
          have HSW := Lib.hid (show (cur.set k (at0 cur M)).set M (at0 cur k) = swH cur k M from rfl)
          clear hcl
          generalize at0 cur k = x at *
          generalize at0 cur M = y at *
          have HJM := Lib.hid hJ
          clear hJ
          go_upto_region 11 with fail
          refine wp_region_held_drew (S := fun _ => True) (by kernel_rfl) trivial (fun hS => ?_)
          have hdr := Bw.drew (Bw.refl wj)
          replace RJ := Lib.hid (rg_bw9 RJ.out hdr)
          replace RM := Lib.hid (rg_bw9 RM.out hdr)
          replace HK := Lib.hid (HK.out.trans (Kx.of_bw hdr (Nat.le_of_lt HM.out.lt)))
          replace HM := Lib.hid (HM.out.bw hdr)
          clear hdr
          generalize World.drew _ = wd at *
          refine take1 (i := 0) (some 61) rfl rfl (by kernel_rfl) (by kernel_rfl) (by kernel_rfl) (fun _ _ _ _ h => h) rfl hS ?_
          apply Exists.intro
          apply And.intro
          · intro W9 hW9; skip; go_simp; try with_reducible rfl
          simp only [Act.put, List.setIfInBounds_toArray, List.set_cons_zero, List.set_cons_succ]
          refine take1 (i := 1) (some 62) rfl rfl (by kernel_rfl) (by kernel_rfl) (by kernel_rfl) (fun _ _ _ _ h => h) rfl hS ?_
          apply Exists.intro
          apply And.intro
          · intro W9 hW9; skip; go_simp; try with_reducible rfl
          simp only [Act.put, List.setIfInBounds_toArray, List.set_cons_zero, List.set_cons_succ]
          refine take1 (i := 2) (some 63) rfl rfl (by kernel_rfl) (by kernel_rfl) (by kernel_rfl) (fun _ _ _ _ h => h) rfl hS ?_
          apply Exists.intro
          apply And.intro
          · intro W9 hW9; skip; go_simp; try with_reducible rfl
          simp only [Act.put, List.setIfInBounds_toArray, List.set_cons_zero, List.set_cons_succ]
          refine take1 (i := 3) (some 64) rfl rfl (by kernel_rfl) (by kernel_rfl) (by kernel_rfl) (fun _ _ _ _ h => h) rfl hS ?_
          apply Exists.intro
          apply And.intro
          · intro W9 hW9; skip; go_simp; try with_reducible rfl
          simp only [Act.put, List.setIfInBounds_toArray, List.set_cons_zero, List.set_cons_succ]
          refine take1 (i := 4) (some 65) rfl rfl (by kernel_rfl) (by kernel_rfl) (by kernel_rfl) (fun _ _ _ _ h => h) rfl hS ?_
          apply Exists.intro
          apply And.intro
          · intro W9 hW9; skip; go_simp; try with_reducible rfl
          simp only [Act.put, List.setIfInBounds_toArray, List.set_cons_zero, List.set_cons_succ]
          refine take1 (i := 5) (some 66) rfl rfl (by kernel_rfl) (by kernel_rfl) (by kernel_rfl) (fun _ _ _ _ h => h) rfl hS ?_
          apply Exists.intro
          apply And.intro
          · intro W9 hW9; skip; go_simp; try with_reducible rfl
          simp only [Act.put, List.setIfInBounds_toArray, List.set_cons_zero, List.set_cons_succ]
          refine take1 (i := 6) (some 67) rfl rfl (by kernel_rfl) (by kernel_rfl) (by kernel_rfl) (fun _ _ _ _ h => h) rfl hS ?_
          apply Exists.intro
          apply And.intro
          · intro W9 hW9; skip; go_simp; try with_reducible rfl
          simp only [Act.put, List.setIfInBounds_toArray, List.set_cons_zero, List.set_cons_succ]
          refine take1 (i := 7) (some 68) rfl rfl (by kernel_rfl) (by kernel_rfl) (by kernel_rfl) (fun _ _ _ _ h => h) rfl hS ?_
          apply Exists.intro
          apply And.intro
          · intro W9 hW9; skip; go_simp; try with_reducible rfl
          simp only [Act.put, List.setIfInBounds_toArray, List.set_cons_zero, List.set_cons_succ]
          refine take1 (i := 8) (some 69) rfl rfl (by kernel_rfl) (by kernel_rfl) (by kernel_rfl) (fun _ _ _ _ h => h) rfl hS ?_
          apply Exists.intro
          apply And.intro
          · intro W9 hW9; skip; go_simp; try with_reducible rfl
          simp only [Act.put, List.setIfInBounds_toArray, List.set_cons_zero, List.set_cons_succ]
          refine take1 (i := 10) (some 71) rfl rfl (by kernel_rfl) (by kernel_rfl) (by kernel_rfl) (fun _ _ _ _ h => h) rfl hS ?_
          apply Exists.intro
          apply And.intro
          · intro W9 hW9; skip; go_simp; try with_reducible rfl
          simp only [Act.put, List.setIfInBounds_toArray, List.set_cons_zero, List.set_cons_succ]
          refine take1 (i := 11) (some 72) rfl rfl (by kernel_rfl) (by kernel_rfl) (by kernel_rfl) (fun _ _ _ _ h => h) rfl hS ?_
          apply Exists.intro
          apply And.intro
          · intro W9 hW9; skip; go_simp; try with_reducible rfl
          simp only [Act.put, List.setIfInBounds_toArray, List.set_cons_zero, List.set_cons_succ]
          refine take1 (i := 12) (some 73) rfl rfl (by kernel_rfl) (by kernel_rfl) (by kernel_rfl) (fun _ _ _ _ h => h) rfl hS ?_
          apply Exists.intro
          apply And.intro
          · intro W9 hW9; skip; go_simp; try with_reducible rfl
          simp only [Act.put, List.setIfInBounds_toArray, List.set_cons_zero, List.set_cons_succ]
          refine wpAnyH_ready (rs := [9, 13]) (by kernel_rfl) (by simp) ?_
          refine AllReadyH.cons rfl (fun K hK => ?_) ?_
          refine wp_load_hn (.tmp 69) rfl (some 70) rfl g (M * 6) (by simp [Act.eval, Act.put]) RM.out ?_
          simp only [Act.put, List.setIfInBounds_toArray, List.set_cons_zero, List.set_cons_succ]
          refine hK.out _ _ trivial (fun hS => ?_)
          clear hK K
          skip
          refine wpAnyH_ready (rs := [13]) (by kernel_rfl) (by simp) ?_
          refine AllReadyH.cons rfl (fun K hK => ?_) ?_
          refine wp_load_hn (.tmp 73) rfl (some 74) rfl g (k * 6) (by simp [Act.eval, Act.put]) RJ.out ?_
          simp only [Act.put, List.setIfInBounds_toArray, List.set_cons_zero, List.set_cons_succ]
          refine hK.out _ _ trivial (fun hS => ?_)
          clear hK K
          skip
          refine take1 (i := 14) (some 75) rfl rfl (by kernel_rfl) (by kernel_rfl) (by kernel_rfl) (fun _ _ _ _ h => h) rfl hS ?_
          apply Exists.intro
          apply And.intro
          · intro W9 hW9; skip; go_simp; try with_reducible rfl
          simp only [Act.put, List.setIfInBounds_toArray, List.set_cons_zero, List.set_cons_succ]
          refine wpAnyH_ready (rs := [15]) (by kernel_rfl) (by simp) ?_
          refine AllReadyH.cons rfl (fun K hK => ?_) ?_
          refine wp_store_mid0 23 (.tmp 75) (.tmp 70) rfl rfl g (k * 6) (hnV y) (by simp [Act.eval, Act.put]) rfl (HM.out.there HJL.out) (by kernel_rfl) (by simp [Value.oneCell', hnV]) ?_
          have HM2 := Lib.hid (HM.out.set HJL.out y)
          have HK2 := Lib.hid (HK.out.trans (Kx.sets (hnc y) (k * 6) _ HM.out.lt))
          rw [show (hnV y).toList = hnc y from rfl]
          refine hK.out _ _ trivial (fun hS => ?_)
          clear hK K
          clear RM RJ
          generalize World.setCells wd g (k * 6) (hnc y) = we at *
          refine take1 (i := 16) (some 76) rfl rfl (by kernel_rfl) (by kernel_rfl) (by kernel_rfl) (fun _ _ _ _ h => h) rfl hS ?_
          apply Exists.intro
          apply And.intro
          · intro W9 hW9; skip; go_simp; try with_reducible rfl
          simp only [Act.put, List.setIfInBounds_toArray, List.set_cons_zero, List.set_cons_succ]
          refine wpAnyH_ready (rs := [17]) (by kernel_rfl) (by simp) ?_
          refine AllReadyH.cons rfl (fun K hK => ?_) ?_
          refine wp_store_mid0 23 (.tmp 76) (.tmp 74) rfl rfl g (M * 6) (hnV x) (by simp [Act.eval, Act.put]) rfl (HM2.out.there HML2.out) (by kernel_rfl) (by simp [Value.oneCell', hnV]) ?_
          have HM3 := Lib.hid (HM2.out.set HML2.out x)
          have HK3 := Lib.hid (HK2.out.trans (Kx.sets (hnc x) (M * 6) _ HM2.out.lt))
          rw [show (hnV x).toList = hnc x from rfl]
          refine hK.out _ _ trivial (fun hS => ?_)
          clear hK K
          generalize World.setCells we g (M * 6) (hnc x) = wf at *
          refine wpAnyH_done (by kernel_rfl) ?_ _
          rotate_left
          exact AllReadyH.nil
          exact AllReadyH.nil
          exact AllReadyH.nil
          refine AllReadyH.cons rfl (fun K hK => ?_) ?_
          refine wp_load_hn (.tmp 73) rfl (some 74) rfl g (k * 6) (by simp [Act.eval, Act.put]) RJ.out ?_
          simp only [Act.put, List.setIfInBounds_toArray, List.set_cons_zero, List.set_cons_succ]
          refine hK.out _ _ trivial (fun hS => ?_)
          clear hK K
          skip
          refine wpAnyH_ready (rs := [9]) (by kernel_rfl) (by simp) ?_
          refine AllReadyH.cons rfl (fun K hK => ?_) ?_
          refine wp_load_hn (.tmp 69) rfl (some 70) rfl g (M * 6) (by simp [Act.eval, Act.put]) RM.out ?_
          simp only [Act.put, List.setIfInBounds_toArray, List.set_cons_zero, List.set_cons_succ]
          refine hK.out _ _ trivial (fun hS => ?_)
          clear hK K
          skip
          refine take1 (i := 14) (some 75) rfl rfl (by kernel_rfl) (by kernel_rfl) (by kernel_rfl) (fun _ _ _ _ h => h) rfl hS ?_
          apply Exists.intro
          apply And.intro
          · intro W9 hW9; skip; go_simp; try with_reducible rfl
          simp only [Act.put, List.setIfInBounds_toArray, List.set_cons_zero, List.set_cons_succ]
          refine wpAnyH_ready (rs := [15]) (by kernel_rfl) (by simp) ?_
          refine AllReadyH.cons rfl (fun K hK => ?_) ?_
          refine wp_store_mid0 23 (.tmp 75) (.tmp 70) rfl rfl g (k * 6) (hnV y) (by simp [Act.eval, Act.put]) rfl (HM.out.there HJL.out) (by kernel_rfl) (by simp [Value.oneCell', hnV]) ?_
          have HM2 := Lib.hid (HM.out.set HJL.out y)
          have HK2 := Lib.hid (HK.out.trans (Kx.sets (hnc y) (k * 6) _ HM.out.lt))
          rw [show (hnV y).toList = hnc y from rfl]
          refine hK.out _ _ trivial (fun hS => ?_)
          clear hK K
          clear RM RJ
          generalize World.setCells wd g (k * 6) (hnc y) = we at *
          refine take1 (i := 16) (some 76) rfl rfl (by kernel_rfl) (by kernel_rfl) (by kernel_rfl) (fun _ _ _ _ h => h) rfl hS ?_
          apply Exists.intro
          apply And.intro
          · intro W9 hW9; skip; go_simp; try with_reducible rfl
          simp only [Act.put, List.setIfInBounds_toArray, List.set_cons_zero, List.set_cons_succ]
          refine wpAnyH_ready (rs := [17]) (by kernel_rfl) (by simp) ?_
          refine AllReadyH.cons rfl (fun K hK => ?_) ?_
          refine wp_store_mid0 23 (.tmp 76) (.tmp 74) rfl rfl g (M * 6) (hnV x) (by simp [Act.eval, Act.put]) rfl (HM2.out.there HML2.out) (by kernel_rfl) (by simp [Value.oneCell', hnV]) ?_
          have HM3 := Lib.hid (HM2.out.set HML2.out x)
          have HK3 := Lib.hid (HK2.out.trans (Kx.sets (hnc x) (M * 6) _ HM2.out.lt))
          rw [show (hnV x).toList = hnc x from rfl]
          refine hK.out _ _ trivial (fun hS => ?_)
          clear hK K
          generalize World.setCells we g (M * 6) (hnc x) = wf at *
          refine wpAnyH_done (by kernel_rfl) ?_ _
          rotate_left
          exact AllReadyH.nil
          exact AllReadyH.nil
          exact AllReadyH.nil
          exact AllReadyH.nil
          all_goals
            go_wp2
            go_roundg (e - M)
            case measure => have := HJM.out; omega
            case rel => exact ⟨M, swH cur k M, by have := HJM.out; omega, by have := HJM.out; omega, Nat.le_refl _, rfl, by rw [← HSW.out]; exact HM3, HK3, HST⟩
        · have hlkz : ¬ (k : Int) < (e : Int) := by omega
          obtain rfl : k = e := by omega
          go_wp2
          go_end0
          exact ⟨⟨_, rfl⟩, cur, HM.out, HK.out, HV.out.pi hak hebb, HFIN.out cur HV.out⟩
end Go.Proofs.Sky

namespace Go.Proofs.Sky
open Go Go.RowKit Go.Shelf
attribute [local go_sem] Oper.semAt_some
set_option maxHeartbeats 4000000
set_option maxRecDepth 8000
/-! chapter 40: symMergeCmpFunc, one element behind the rest -/
theorem symB_any (hs : List (Nat → Int)) (rest : List Value) (g c a m b : Nat) (w : World) (hm : MemH w g hs rest) (hl : hs.length ≤ 1000000) (ham : a + 1 < m) (hmb : b = m + 1) (hb : b ≤ hs.length) (hS : Srt a m hs) :
   Calls Tryd.prog 59 #[.slice (some ⟨g, 0, none⟩) hs.length c, .int .i64 a, .int .i64 m, .int .i64 b, .func (.func 32) #[] #[]] w (SortP g a b hs rest w) := by
  have HM0 := Lib.hid hm
  have hgl := hm.lt
  have CF := Lib.hid (fun x y W => cmpH_any x y W)
  have eg : ∀ args w, (callFunc 32 args).run Tryd.prog w = .ok (.enter 32 args) w := enters_of Tryd.func32 (by kernel_rfl) rfl
  have HSR := Lib.hid (fun i l' h h1 h2 h3 h4 => (show Srt a b l' by rw [hmb]; exact MovD.srt (a := a) (i := i) (m := m) (l := hs) (l' := l') h hS h1 h2 h3 h4))
  clear hm hS
  obtain ⟨n, hn⟩ : ∃ n, hs.length = n := ⟨_, rfl⟩
  have HN := Lib.hid hn
  rw [hn] at hl hb ⊢
  clear hn
  obtain ⟨d, hd⟩ : ∃ d, m - a = d := ⟨_, rfl⟩
  have hw0 : IntKind.i64.wrap ((m : Int) - (a : Int)) = (d : Int) := by rw [IntKind.wrap_i64]; omega
  have hd1 : ¬ (d : Int) = 1 := by omega
  have hd2 : ((d : Int) == 1) = false := by simp; omega
  have hw1 : IntKind.i64.wrap ((b : Int) - (m : Int)) = 1 := by rw [IntKind.wrap_i64]; omega
  have hmb2 : m < b := by omega
  have hmn9 : m < n := by omega
  have hmnz : (m : Int) < (n : Int) := by omega
  clear hmb hd
  go_enter Tryd.func59, Tryd.ntmps59
  go_wp2
  go_loopg [14, 15] n (fun gg s14 s15 wr => ∃ i j : Nat, a ≤ i ∧ i ≤ j ∧ j ≤ m ∧ j - i ≤ gg ∧ s14 = .int .i64 (i : Int) ∧ s15 = .int .i64 (j : Int) ∧ Hid (MemH wr g hs rest) ∧ Hid (Kx g w wr) ∧ Hid ((i = a ∨ ¬ cmpHn (at0 hs m) (at0 hs (i - 1)) < 0) ∧ (j = m ∨ cmpHn (at0 hs m) (at0 hs j) < 0)))
  case atStart => exact ⟨a, m, Nat.le_refl _, by omega, Nat.le_refl _, by omega, rfl, rfl, HM0, Lib.hid (Kx.of_bw (Bw.refl _) (Nat.le_of_lt hgl)), Lib.hid ⟨.inl rfl, .inl rfl⟩⟩
  case round =>
    obtain ⟨i, j, hmi, hij, hjb, hgg, rfl, rfl, HM, HK, HG⟩ := hrel
    obtain ⟨wi, rfl⟩ : ∃ wc, wc = wr := ⟨_, rfl⟩
    by_cases hlt : i < j
    · have hltz : (i : Int) < (j : Int) := by omega
      obtain ⟨h, hh⟩ : ∃ h, h = (i + j) / 2 := ⟨_, rfl⟩
      have hu0 : IntKind.i64.wrap ((i : Int) + j) = (i : Int) + j := by rw [IntKind.wrap_i64]; omega
      have hu1 : IntKind.u64.wrap ((i : Int) + j) = (i : Int) + j := by rw [IntKind.wrap_u64]; omega
      have hu2 : ((i : Int) + j) / 2 = (h : Int) := by omega
      have hu3 : IntKind.i64.wrap (h : Int) = h := by rw [IntKind.wrap_i64]; omega
      have hhi : i ≤ h := by omega
      have hhj : h < j := by omega
      clear hh
      go_upto_region 17 with fail
      have hq2 : (h : Int) < n := by omega
      have hq3 : IntKind.i64.wrap ((h : Int) + 1) = (h : Int) + 1 := by rw [IntKind.wrap_i64]; omega
      have RX := Lib.hid (HM.out.rg (at0_some (l := hs) (i := m) (by have := HN.out; omega)))
      have RY := Lib.hid (HM.out.rg (at0_some (l := hs) (i := h) (by have := HN.out; omega)))
      have CC := Lib.hid (fun W => CF.out (at0 hs m) (at0 hs h) W)
      obtain ⟨cc, hcc⟩ : ∃ cc, cmpHn (at0 hs m) (at0 hs h) = cc := ⟨_, rfl⟩
      rw [hcc] at CC
      have HCC := Lib.hid hcc
      clear hcc
      generalize at0 hs m = x at RX CC
      generalize at0 hs h = y at RY CC
      refine wp_region_quiet_ext (by kernel_rfl) (by kernel_rfl) ?_
      (repeat (go_big_quiet_step (fail)))
      go_big_quiet_want
      refine quiet_load40 (.agg (hnV x)) (some 96) rfl (fun W hW => ?_) ?_
      · obtain ⟨p, rfl⟩ := hW
        exact run_load_hn (.tmp 95) rfl g (m * 6) (by simp [Act.eval, Act.put]) (rg_bw9 RX.out p.b)
      simp only [Act.put, List.setIfInBounds_toArray, List.set_cons_zero, List.set_cons_succ]
      go_big_quiet_on
      (repeat (go_big_quiet_step (fail)))
      go_big_quiet_want
      refine quiet_load40 (.agg (hnV y)) (some 100) rfl (fun W hW => ?_) ?_
      · obtain ⟨p, rfl⟩ := hW
        exact run_load_hn (.tmp 99) rfl g (h * 6) (by simp [Act.eval, Act.put]) (rg_bw9 RY.out p.b)
      simp only [Act.put, List.setIfInBounds_toArray, List.set_cons_zero, List.set_cons_succ]
      go_big_quiet_on
      (repeat (go_big_quiet_step ((go_at_fn 32; with_reducible exact Calls.ext_of (CC.out _)))))
      refine wpQuiet_nil ?_
      rintro wq ⟨⟨_, hbq⟩, rfl⟩
      replace HK := Lib.hid (HK.out.trans (Kx.of_bw hbq (Nat.le_of_lt HM.out.lt)))
      replace HM := Lib.hid (HM.out.bw hbq)
      clear hbq RX RY CC
      by_cases hc : cc < 0
      · have e1 : (!decide (cc < 0)) = false := by rw [decide_eq_true hc]; rfl
        have e2 : decide ((0 : Int) ≤ cc) = false := decide_eq_false (by omega)
        (try simp only [e1, e2])
        clear e1 e2
        have HG2 := Lib.hid (show (h = m ∨ cmpHn (at0 hs m) (at0 hs h) < 0) from .inr (by rw [HCC.out]; exact hc))
        go_wp2
        go_roundg (h - i)
        case measure => omega
        case rel => exact ⟨i, h, hmi, hhi, by omega, Nat.le_refl _, rfl, rfl, HM, HK, Lib.hid ⟨by have := HG.out.1; omega, HG2.out⟩⟩
      · have e1 : (!decide (cc < 0)) = true := by rw [decide_eq_false hc]; rfl
        have e2 : decide ((0 : Int) ≤ cc) = true := decide_eq_true (by omega)
        (try simp only [e1, e2])
        clear e1 e2
        have HG2 := Lib.hid (show (h + 1 = a ∨ ¬ cmpHn (at0 hs m) (at0 hs (h + 1 - 1)) < 0) from .inr (by rw [Nat.add_sub_cancel, HCC.out]; exact hc))
        go_wp2
        go_roundg (j - (h + 1))
        case measure => omega
        case rel => exact ⟨h + 1, j, by omega, by omega, hjb, Nat.le_refl _, by go_num, rfl, HM, HK, Lib.hid ⟨HG2.out, HG.out.2⟩⟩
    · have hltz : ¬ (i : Int) < (j : Int) := by omega
      obtain rfl : i = j := by omega
      have HFIN := Lib.hid (fun (l' : List (Nat → Int)) (h : MovD m i hs l') => HSR.out i l' h hmi hjb (by have := HG.out.1; omega) (by have := HG.out.2; omega))
      clear HG
      go_wp2
      go_loopg [17] n (fun g2 s17 wz => ∃ k cur, i ≤ k ∧ k ≤ m ∧ k - i ≤ g2 ∧ s17 = .int .i64 ((k : Nat) : Int) ∧ Hid (MemH wz g cur rest) ∧ Hid (Kx g w wz) ∧ Hid (MovD m k hs cur))
      case atStart => exact ⟨m, hs, hjb, Nat.le_refl _, by omega, rfl, HM, HK, Lib.hid (MovD.zero _ _)⟩
      case round =>
        clear HM HK
        obtain ⟨k, cur, hak, hke, hg2, rfl, HM, HK, HV⟩ := hrel
        obtain ⟨wj, rfl⟩ : ∃ wc, wc = wr := ⟨_, rfl⟩
        have hcl : cur.length = n := by rw [HV.out.perm.length_eq, HN.out]
        by_cases hlk : i < k
        · have hlkz : (i : Int) < (k : Int) := by omega
          obtain ⟨M, hJ⟩ : ∃ M, M = k - 1 := ⟨_, rfl⟩
          have hwk : IntKind.i64.wrap ((k : Int) - 1) = (M : Int) := by rw [IntKind.wrap_i64]; omega
          have hkn : (k : Int) < (n : Int) := by omega
          have hMn : (M : Int) < (n : Int) := by omega
          have HST := Lib.hid (show MovD m M hs (swH cur k M) by rw [hJ]; exact HV.out.step (by omega) hke (by have := HN.out; omega))
          have HJL := Lib.hid (show k < cur.length by omega)
          have HML2 := Lib.hid (show M < (cur.set k (at0 cur M)).length by rw [List.length_set]; omega)
          have RJ := Lib.hid (HM.out.rg (at0_some (l := cur) (i := k) (by omega)))
          have RM := Lib.hid (HM.out.rg (at0_some (l := cur) (i := M) (by omega)))
          have HSW := Lib.hid (show (cur.set k (at0 cur M)).set M (at0 cur k) = swH cur k M from rfl)
          clear hcl
          generalize at0 cur k = x at *
          generalize at0 cur M = y at *
          have HJM := Lib.hid hJ
          clear hJ
          go_upto_region 23 with fail
          refine wp_region_held_drew (S := fun _ => True) (by kernel_rfl) trivial (fun hS => ?_)
          have hdr := Bw.drew (Bw.refl wj)
          replace RJ := Lib.hid (rg_bw9 RJ.out hdr)
          replace RM := Lib.hid (rg_bw9 RM.out hdr)
          replace HK := Lib.hid (HK.out.trans (Kx.of_bw hdr (Nat.le_of_lt HM.out.lt)))
          replace HM := Lib.hid (HM.out.bw hdr)
          clear hdr
          generalize World.drew _ = wd at *
          refine take1 (i := 0) (some 113) rfl rfl (by kernel_rfl) (by kernel_rfl) (by kernel_rfl) (fun _ _ _ _ h => h) rfl hS ?_
          apply Exists.intro
          apply And.intro
          · intro W9 hW9; skip; go_simp; try with_reducible rfl
          simp only [Act.put, List.setIfInBounds_toArray, List.set_cons_zero, List.set_cons_succ]
          refine take1 (i := 1) (some 114) rfl rfl (by kernel_rfl) (by kernel_rfl) (by kernel_rfl) (fun _ _ _ _ h => h) rfl hS ?_
          apply Exists.intro
          apply And.intro
          · intro W9 hW9; skip; go_simp; try with_reducible rfl
          simp only [Act.put, List.setIfInBounds_toArray, List.set_cons_zero, List.set_cons_succ]
          refine take1 (i := 2) (some 115) rfl rfl (by kernel_rfl) (by kernel_rfl) (by kernel_rfl) (fun _ _ _ _ h => h) rfl hS ?_
          apply Exists.intro
          apply And.intro
          · intro W9 hW9; skip; go_simp; try with_reducible rfl
          simp only [Act.put, List.setIfInBounds_toArray, List.set_cons_zero, List.set_cons_succ]
          refine take1 (i := 3) (some 116) rfl rfl (by kernel_rfl) (by kernel_rfl) (by kernel_rfl) (fun _ _ _ _ h => h) rfl hS ?_
          apply Exists.intro
          apply And.intro
          · intro W9 hW9; skip; go_simp; try with_reducible rfl
          simp only [Act.put, List.setIfInBounds_toArray, List.set_cons_zero, List.set_cons_succ]
          refine take1 (i := 4) (some 117) rfl rfl (by kernel_rfl) (by kernel_rfl) (by kernel_rfl) (fun _ _ _ _ h => h) rfl hS ?_
          apply Exists.intro
          apply And.intro
          · intro W9 hW9; skip; go_simp; try with_reducible rfl
          simp only [Act.put, List.setIfInBounds_toArray, List.set_cons_zero, List.set_cons_succ]
          refine take1 (i := 5) (some 118) rfl rfl (by kernel_rfl) (by kernel_rfl) (by kernel_rfl) (fun _ _ _ _ h => h) rfl hS ?_
          apply Exists.intro
          apply And.intro
          · intro W9 hW9; skip; go_simp; try with_reducible rfl
          simp only [Act.put, List.setIfInBounds_toArray, List.set_cons_zero, List.set_cons_succ]
          refine take1 (i := 6) (some 119) rfl rfl (by kernel_rfl) (by kernel_rfl) (by kernel_rfl) (fun _ _ _ _ h => h) rfl hS ?_
          apply Exists.intro
          apply And.intro
          · intro W9 hW9; skip; go_simp; try with_reducible rfl
          simp only [Act.put, List.setIfInBounds_toArray, List.set_cons_zero, List.set_cons_succ]
          refine take1 (i := 7) (some 120) rfl rfl (by kernel_rfl) (by kernel_rfl) (by kernel_rfl) (fun _ _ _ _ h => h) rfl hS ?_
          apply Exists.intro
          apply And.intro
          · intro W9 hW9; skip; go_simp; try with_reducible rfl
          simp only [Act.put, List.setIfInBounds_toArray, List.set_cons_zero, List.set_cons_succ]
          refine take1 (i := 8) (some 121) rfl rfl (by kernel_rfl) (by kernel_rfl) (by kernel_rfl) (fun _ _ _ _ h => h) rfl hS ?_
          apply Exists.intro
          apply And.intro
          · intro W9 hW9; skip; go_simp; try with_reducible rfl
          simp only [Act.put, List.setIfInBounds_toArray, List.set_cons_zero, List.set_cons_succ]
          refine take1 (i := 10) (some 123) rfl rfl (by kernel_rfl) (by kernel_rfl) (by kernel_rfl) (fun _ _ _ _ h => h) rfl hS ?_
          apply Exists.intro
          apply And.intro
          · intro W9 hW9; skip; go_simp; try with_reducible rfl
          simp only [Act.put, List.setIfInBounds_toArray, List.set_cons_zero, List.set_cons_succ]
          refine take1 (i := 11) (some 124) rfl rfl (by kernel_rfl) (by kernel_rfl) (by kernel_rfl) (fun _ _ _ _ h => h) rfl hS ?_
          apply Exists.intro
          apply And.intro
          · intro W9 hW9; skip; go_simp; try with_reducible rfl
          simp only [Act.put, List.setIfInBounds_toArray, List.set_cons_zero, List.set_cons_succ]
          refine take1 (i := 12) (some 125) rfl rfl (by kernel_rfl) (by kernel_rfl) (by kernel_rfl) (fun _ _ _ _ h => h) rfl hS ?_
          apply Exists.intro
          apply And.intro
          · intro W9 hW9; skip; go_simp; try with_reducible rfl
          simp only [Act.put, List.setIfInBounds_toArray, List.set_cons_zero, List.set_cons_succ]
          refine wpAnyH_ready (rs := [9, 13]) (by kernel_rfl) (by simp) ?_
          refine AllReadyH.cons rfl (fun K hK => ?_) ?_
          refine wp_load_hn (.tmp 121) rfl (some 122) rfl g (M * 6) (by simp [Act.eval, Act.put]) RM.out ?_
          simp only [Act.put, List.setIfInBounds_toArray, List.set_cons_zero, List.set_cons_succ]
          refine hK.out _ _ trivial (fun hS => ?_)
          clear hK K
          skip
          refine wpAnyH_ready (rs := [13]) (by kernel_rfl) (by simp) ?_
          refine AllReadyH.cons rfl (fun K hK => ?_) ?_
          refine wp_load_hn (.tmp 125) rfl (some 126) rfl g (k * 6) (by simp [Act.eval, Act.put]) RJ.out ?_
          simp only [Act.put, List.setIfInBounds_toArray, List.set_cons_zero, List.set_cons_succ]
          refine hK.out _ _ trivial (fun hS => ?_)
          clear hK K
          skip
          refine take1 (i := 14) (some 127) rfl rfl (by kernel_rfl) (by kernel_rfl) (by kernel_rfl) (fun _ _ _ _ h => h) rfl hS ?_
          apply Exists.intro
          apply And.intro
          · intro W9 hW9; skip; go_simp; try with_reducible rfl
          simp only [Act.put, List.setIfInBounds_toArray, List.set_cons_zero, List.set_cons_succ]
          refine wpAnyH_ready (rs := [15]) (by kernel_rfl) (by simp) ?_
          refine AllReadyH.cons rfl (fun K hK => ?_) ?_
          refine wp_store_mid0 23 (.tmp 127) (.tmp 122) rfl rfl g (k * 6) (hnV y) (by simp [Act.eval, Act.put]) rfl (HM.out.there HJL.out) (by kernel_rfl) (by simp [Value.oneCell', hnV]) ?_
          have HM2 := Lib.hid (HM.out.set HJL.out y)
          have HK2 := Lib.hid (HK.out.trans (Kx.sets (hnc y) (k * 6) _ HM.out.lt))
          rw [show (hnV y).toList = hnc y from rfl]
          refine hK.out _ _ trivial (fun hS => ?_)
          clear hK K
          clear RM RJ
          generalize World.setCells wd g (k * 6) (hnc y) = we at *
          refine take1 (i := 16) (some 128) rfl rfl (by kernel_rfl) (by kernel_rfl) (by kernel_rfl) (fun _ _ _ _ h => h) rfl hS ?_
          apply Exists.intro
          apply And.intro
          · intro W9 hW9; skip; go_simp; try with_reducible rfl
          simp only [Act.put, List.setIfInBounds_toArray, List.set_cons_zero, List.set_cons_succ]
          refine wpAnyH_ready (rs := [17]) (by kernel_rfl) (by simp) ?_
          refine AllReadyH.cons rfl (fun K hK => ?_) ?_
          refine wp_store_mid0 23 (.tmp 128) (.tmp 126) rfl rfl g (M * 6) (hnV x) (by simp [Act.eval, Act.put]) rfl (HM2.out.there HML2.out) (by kernel_rfl) (by simp [Value.oneCell', hnV]) ?_
          have HM3 := Lib.hid (HM2.out.set HML2.out x)
          have HK3 := Lib.hid (HK2.out.trans (Kx.sets (hnc x) (M * 6) _ HM2.out.lt))
          rw [show (hnV x).toList = hnc x from rfl]
          refine hK.out _ _ trivial (fun hS => ?_)
          clear hK K
          generalize World.setCells we g (M * 6) (hnc x) = wf at *
          refine wpAnyH_done (by kernel_rfl) ?_ _
          rotate_left
          exact AllReadyH.nil
          exact AllReadyH.nil
          exact AllReadyH.nil
          refine AllReadyH.cons rfl (fun K hK => ?_) ?_
          refine wp_load_hn (.tmp 125) rfl (some 126) rfl g (k * 6) (by simp [Act.eval, Act.put]) RJ.out ?_
          simp only [Act.put, List.setIfInBounds_toArray, List.set_cons_zero, List.set_cons_succ]
          refine hK.out _ _ trivial (fun hS => ?_)
          clear hK K
          skip
          refine wpAnyH_ready (rs := [9]) (by kernel_rfl) (by simp) ?_
          refine AllReadyH.cons rfl (fun K hK => ?_) ?_
          refine wp_load_hn (.tmp 121) rfl (some 122) rfl g (M * 6) (by simp [Act.eval, Act.put]) RM.out ?_
          simp only [Act.put, List.setIfInBounds_toArray, List.set_cons_zero, List.set_cons_succ]
          refine hK.out _ _ trivial (fun hS => ?_)
          clear hK K
          skip
          refine take1 (i := 14) (some 127) rfl rfl (by kernel_rfl) (by kernel_rfl) (by kernel_rfl) (fun _ _ _ _ h => h) rfl hS ?_
          apply Exists.intro
          apply And.intro
          · intro W9 hW9; skip; go_simp; try with_reducible rfl
          simp only [Act.put, List.setIfInBounds_toArray, List.set_cons_zero, List.set_cons_succ]
          refine wpAnyH_ready (rs := [15]) (by kernel_rfl) (by simp) ?_
          refine AllReadyH.cons rfl (fun K hK => ?_) ?_
          refine wp_store_mid0 23 (.tmp 127) (.tmp 122) rfl rfl g (k * 6) (hnV y) (by simp [Act.eval, Act.put]) rfl (HM.out.there HJL.out) (by kernel_rfl) (by simp [Value.oneCell', hnV]) ?_
          have HM2 := Lib.hid (HM.out.set HJL.out y)
          have HK2 := Lib.hid (HK.out.trans (Kx.sets (hnc y) (k * 6) _ HM.out.lt))
          rw [show (hnV y).toList = hnc y from rfl]
          refine hK.out _ _ trivial (fun hS => ?_)
          clear hK K
          clear RM RJ
          generalize World.setCells wd g (k * 6) (hnc y) = we at *
          refine take1 (i := 16) (some 128) rfl rfl (by kernel_rfl) (by kernel_rfl) (by kernel_rfl) (fun _ _ _ _ h => h) rfl hS ?_
          apply Exists.intro
          apply And.intro
          · intro W9 hW9; skip; go_simp; try with_reducible rfl
          simp only [Act.put, List.setIfInBounds_toArray, List.set_cons_zero, List.set_cons_succ]
          refine wpAnyH_ready (rs := [17]) (by kernel_rfl) (by simp) ?_
          refine AllReadyH.cons rfl (fun K hK => ?_) ?_
          refine wp_store_mid0 23 (.tmp 128) (.tmp 126) rfl rfl g (M * 6) (hnV x) (by simp [Act.eval, Act.put]) rfl (HM2.out.there HML2.out) (by kernel_rfl) (by simp [Value.oneCell', hnV]) ?_
          have HM3 := Lib.hid (HM2.out.set HML2.out x)
          have HK3 := Lib.hid (HK2.out.trans (Kx.sets (hnc x) (M * 6) _ HM2.out.lt))
          rw [show (hnV x).toList = hnc x from rfl]
          refine hK.out _ _ trivial (fun hS => ?_)
          clear hK K
          generalize World.setCells we g (M * 6) (hnc x) = wf at *
          refine wpAnyH_done (by kernel_rfl) ?_ _
          rotate_left
          exact AllReadyH.nil
          exact AllReadyH.nil
          exact AllReadyH.nil
          exact AllReadyH.nil
          all_goals
            go_wp2
            go_roundg (M - i)
            case measure => have := HJM.out; omega
            case rel => exact ⟨M, swH cur k M, by have := HJM.out; omega, by have := HJM.out; omega, Nat.le_refl _, rfl, by rw [← HSW.out]; exact HM3, HK3, HST⟩
        · have hlkz : ¬ (i : Int) < (k : Int) := by omega
          obtain rfl : k = i := by omega
          go_wp2
          go_end0
          exact ⟨⟨_, rfl⟩, cur, HM.out, HK.out, HV.out.pi hmi hke hmb2, HFIN.out cur HV.out⟩
end Go.Proofs.Sky

namespace Go.Proofs.Sky
open Go Go.RowKit Go.Shelf
attribute [local go_sem] Oper.semAt_some
set_option maxHeartbeats 4000000
set_option maxRecDepth 8000
/-! chapter 40: symMergeCmpFunc, in general -/
theorem symC_any (hs : List (Nat → Int)) (rest : List Value) (g c a m b : Nat) (w : World) (hm : MemH w g hs rest) (hl : hs.length ≤ 1000000) (ham : a + 1 < m) (hmb : m + 1 < b) (hb : b ≤ hs.length) (hS1 : Srt a m hs) (hS2 : Srt m b hs)
   (hrec : ∀ (cur : List (Nat → Int)) (a' m' b' : Nat) (W : World), MemH W g cur rest → cur.length = hs.length → a' < m' → m' < b' → b' ≤ hs.length → b' - a' < b - a → Srt a' m' cur → Srt m' b' cur → Calls Tryd.prog 59 #[.slice (some ⟨g, 0, none⟩) hs.length c, .int .i64 (a' : Int), .int .i64 (m' : Int), .int .i64 (b' : Int), .func (.func 32) #[] #[]] W (SortP g a' b' cur rest W)) :
   Calls Tryd.prog 59 #[.slice (some ⟨g, 0, none⟩) hs.length c, .int .i64 a, .int .i64 m, .int .i64 b, .func (.func 32) #[] #[]] w (SortP g a b hs rest w) := by
  have HM0 := Lib.hid hm
  have hgl := hm.lt
  have CF := Lib.hid (fun x y W => cmpH_any x y W)
  have eg : ∀ args w, (callFunc 32 args).run Tryd.prog w = .ok (.enter 32 args) w := enters_of Tryd.func32 (by kernel_rfl) rfl
  have HREC := Lib.hid hrec
  have RO := Lib.hid (fun (x y z : Nat) (W : World) h1 h2 h3 h4 => rotate_any hs rest g c x y z (.func (.func 32) #[] #[]) W h1 hl h2 h3 h4)
  have HP4 := Lib.hid (fun st mid en lo hi l' => parts4 (a := a) (m := m) (b := b) (st := st) (mid := mid) (en := en) (lo := lo) (hi := hi) (l := hs) (l' := l') hS1 hS2)
  clear hm hS1 hS2 hrec
  obtain ⟨n, hn⟩ : ∃ n, hs.length = n := ⟨_, rfl⟩
  have HN := Lib.hid hn
  rw [hn] at hl hb HREC RO ⊢
  clear hn
  obtain ⟨d, hd⟩ : ∃ d, m - a = d := ⟨_, rfl⟩
  have hw0 : IntKind.i64.wrap ((m : Int) - (a : Int)) = (d : Int) := by rw [IntKind.wrap_i64]; omega
  have hd1 : ¬ (d : Int) = 1 := by omega
  have hd2 : ((d : Int) == 1) = false := by simp; omega
  clear hd
  obtain ⟨d', hd'⟩ : ∃ d, b - m = d := ⟨_, rfl⟩
  have hw1 : IntKind.i64.wrap ((b : Int) - (m : Int)) = (d' : Int) := by rw [IntKind.wrap_i64]; omega
  have hd3 : ¬ (d' : Int) = 1 := by omega
  have hd4 : ((d' : Int) == 1) = false := by simp; omega
  clear hd'
  obtain ⟨mid, hmid⟩ : ∃ mid, mid = (a + b) / 2 := ⟨_, rfl⟩
  have hv0 : IntKind.i64.wrap ((a : Int) + b) = (a : Int) + b := by rw [IntKind.wrap_i64]; omega
  have hv1 : IntKind.u64.wrap ((a : Int) + b) = (a : Int) + b := by rw [IntKind.wrap_u64]; omega
  have hv2 : ((a : Int) + b) / 2 = (mid : Int) := by omega
  have hv3 : IntKind.i64.wrap (mid : Int) = mid := by rw [IntKind.wrap_i64]; omega
  obtain ⟨N2, hN2⟩ : ∃ N2, N2 = mid + m := ⟨_, rfl⟩
  have hv4 : IntKind.i64.wrap ((mid : Int) + m) = (N2 : Int) := by rw [IntKind.wrap_i64]; omega
  obtain ⟨p, hp⟩ : ∃ p, p = N2 - 1 := ⟨_, rfl⟩
  have hv5 : IntKind.i64.wrap ((N2 : Int) - 1) = (p : Int) := by rw [IntKind.wrap_i64]; omega
  obtain ⟨lo, hlo⟩ : ∃ lo, lo = if mid < m then N2 - b else a := ⟨_, rfl⟩
  obtain ⟨hi, hhi⟩ : ∃ hi, hi = if mid < m then mid else m := ⟨_, rfl⟩
  have HP := Lib.hid (show (mid < m ∧ lo + b = N2 ∧ hi = mid ∨ m ≤ mid ∧ lo = a ∧ hi = m) ∧ N2 = mid + m ∧ p + 1 = N2 ∧ 2 * mid ≤ a + b ∧ a + b < 2 * mid + 2 from ⟨by
    by_cases h : mid < m
    · rw [if_pos h] at hlo hhi; exact .inl ⟨h, by omega, hhi⟩
    · rw [if_neg h] at hlo hhi; exact .inr ⟨by omega, hlo, hhi⟩, hN2, by omega, by omega, by omega⟩)
  have hlohi : lo ≤ hi := by have := HP.out; omega
  clear hmid hN2 hp hlo hhi
  go_enter Tryd.func59, Tryd.ntmps59
  go_upto_if 140 with fail
  go_cut [20, 21] from 138 (fun s20 s21 wc => s20 = .int .i64 (lo : Int) ∧ s21 = .int .i64 (hi : Int) ∧ wc = w)
  case first =>
    by_cases h : mid < m
    · have hz : (mid : Int) < m := by omega
      have hv6 : IntKind.i64.wrap ((N2 : Int) - b) = (lo : Int) := by rw [IntKind.wrap_i64]; have := HP.out; omega
      have h9 : hi = mid := by have := HP.out; omega
      go_wp2
      go_meet
      exact ⟨rfl, by rw [h9], rfl⟩
    · have hz : ¬ (mid : Int) < m := by omega
      have h9 : hi = m := by have := HP.out; omega
      have h8 : lo = a := by have := HP.out; omega
      go_wp2
      go_meet
      exact ⟨by rw [h8], by rw [h9], rfl⟩
  case rest =>
  obtain ⟨rfl, rfl, rfl⟩ := hcut
  obtain ⟨w0, rfl⟩ : ∃ w0, w0 = wc := ⟨_, rfl⟩
  go_wp2
  go_loopg [20, 21] n (fun gg s20 s21 wr => ∃ i j : Nat, lo ≤ i ∧ i ≤ j ∧ j ≤ hi ∧ j - i ≤ gg ∧ s20 = .int .i64 (i : Int) ∧ s21 = .int .i64 (j : Int) ∧ Hid (MemH wr g hs rest) ∧ Hid (Kx g w0 wr) ∧ Hid ((i = lo ∨ ¬ cmpHn (at0 hs (p - (i - 1))) (at0 hs (i - 1)) < 0) ∧ (j = hi ∨ cmpHn (at0 hs (p - j)) (at0 hs j) < 0)))
  case atStart => exact ⟨lo, hi, Nat.le_refl _, hlohi, Nat.le_refl _, by have := HP.out; omega, rfl, rfl, HM0, Lib.hid (Kx.of_bw (Bw.refl _) (Nat.le_of_lt hgl)), Lib.hid ⟨.inl rfl, .inl rfl⟩⟩
  case round =>
    obtain ⟨i, j, hmi, hij, hjb, hgg, rfl, rfl, HM, HK, HG⟩ := hrel
    obtain ⟨wi, rfl⟩ : ∃ wc, wc = wr := ⟨_, rfl⟩
    by_cases hlt : i < j
    · have hltz : (i : Int) < (j : Int) := by omega
      have hjn : j ≤ n := by have := HP.out; omega
      obtain ⟨h, hh⟩ : ∃ h, h = (i + j) / 2 := ⟨_, rfl⟩
      have hu0 : IntKind.i64.wrap ((i : Int) + j) = (i : Int) + j := by rw [IntKind.wrap_i64]; omega
      have hu1 : IntKind.u64.wrap ((i : Int) + j) = (i : Int) + j := by rw [IntKind.wrap_u64]; omega
      have hu2 : ((i : Int) + j) / 2 = (h : Int) := by omega
      have hu3 : IntKind.i64.wrap (h : Int) = h := by rw [IntKind.wrap_i64]; omega
      have hhi : i ≤ h := by omega
      have hhj : h < j := by omega
      clear hh
      obtain ⟨q, hq⟩ : ∃ q, p - h = q := ⟨_, rfl⟩
      have hqn : q < n := by have := HP.out; omega
      have hwq : IntKind.i64.wrap ((p : Int) - (h : Int)) = (q : Int) := by rw [IntKind.wrap_i64]; have := HP.out; omega
      have HQ := Lib.hid hq
      clear hq
      go_upto_region 35 with fail
      have hq2 : (h : Int) < n := by omega
      have hq4 : (q : Int) < n := by omega
      have hq3 : IntKind.i64.wrap ((h : Int) + 1) = (h : Int) + 1 := by rw [IntKind.wrap_i64]; omega
      have RX := Lib.hid (HM.out.rg (at0_some (l := hs) (i := q) (by have := HN.out; omega)))
      have RY := Lib.hid (HM.out.rg (at0_some (l := hs) (i := h) (by have := HN.out; omega)))
      have CC := Lib.hid (fun W => CF.out (at0 hs q) (at0 hs h) W)
      obtain ⟨cc, hcc⟩ : ∃ cc, cmpHn (at0 hs q) (at0 hs h) = cc := ⟨_, rfl⟩
      rw [hcc] at CC
      have HCC := Lib.hid hcc
      clear hcc
      generalize at0 hs q = x at RX CC
      generalize at0 hs h = y at RY CC
      refine wp_region_quiet_ext (by kernel_rfl) (by kernel_rfl) ?_
      (repeat (go_big_quiet_step (fail)))
      go_big_quiet_want
      refine quiet_load40 (.agg (hnV x)) (some 164) rfl (fun W hW => ?_) ?_
      · obtain ⟨p, rfl⟩ := hW
        exact run_load_hn (.tmp 163) rfl g (q * 6) (by simp [Act.eval, Act.put]) (rg_bw9 RX.out p.b)
      simp only [Act.put, List.setIfInBounds_toArray, List.set_cons_zero, List.set_cons_succ]
      go_big_quiet_on
      (repeat (go_big_quiet_step (fail)))
      go_big_quiet_want
      refine quiet_load40 (.agg (hnV y)) (some 168) rfl (fun W hW => ?_) ?_
      · obtain ⟨p, rfl⟩ := hW
        exact run_load_hn (.tmp 167) rfl g (h * 6) (by simp [Act.eval, Act.put]) (rg_bw9 RY.out p.b)
      simp only [Act.put, List.setIfInBounds_toArray, List.set_cons_zero, List.set_cons_succ]
      go_big_quiet_on
      (repeat (go_big_quiet_step ((go_at_fn 32; with_reducible exact Calls.ext_of (CC.out _)))))
      refine wpQuiet_nil ?_
      rintro wq ⟨⟨_, hbq⟩, rfl⟩
      replace HK := Lib.hid (HK.out.trans (Kx.of_bw hbq (Nat.le_of_lt HM.out.lt)))
      replace HM := Lib.hid (HM.out.bw hbq)
      clear hbq RX RY CC
      by_cases hc : cc < 0
      · have e1 : (!decide (cc < 0)) = false := by rw [decide_eq_true hc]; rfl
        have e2 : decide ((0 : Int) ≤ cc) = false := decide_eq_false (by omega)
        (try simp only [e1, e2])
        clear e1 e2
        have HG2 := Lib.hid (show (h = hi ∨ cmpHn (at0 hs (p - h)) (at0 hs h) < 0) from .inr (by rw [HQ.out, HCC.out]; exact hc))
        go_wp2
        go_roundg (h - i)
        case measure => omega
        case rel => exact ⟨i, h, hmi, hhi, by omega, Nat.le_refl _, rfl, rfl, HM, HK, Lib.hid ⟨by have := HG.out.1; omega, HG2.out⟩⟩
      · have e1 : (!decide (cc < 0)) = true := by rw [decide_eq_false hc]; rfl
        have e2 : decide ((0 : Int) ≤ cc) = true := decide_eq_true (by omega)
        (try simp only [e1, e2])
        clear e1 e2
        have HG2 := Lib.hid (show (h + 1 = lo ∨ ¬ cmpHn (at0 hs (p - (h + 1 - 1))) (at0 hs (h + 1 - 1)) < 0) from .inr (by rw [Nat.add_sub_cancel, HQ.out, HCC.out]; exact hc))
        go_wp2
        go_roundg (j - (h + 1))
        case measure => omega
        case rel => exact ⟨h + 1, j, by omega, by omega, hjb, Nat.le_refl _, by go_num, rfl, HM, HK, Lib.hid ⟨HG2.out, HG.out.2⟩⟩
    · have hltz : ¬ (i : Int) < (j : Int) := by omega
      obtain rfl : i = j := by omega
      obtain ⟨en, hen⟩ : ∃ en, N2 - i = en := ⟨_, rfl⟩
      have hwe : IntKind.i64.wrap ((N2 : Int) - (i : Int)) = (en : Int) := by rw [IntKind.wrap_i64]; have := HP.out; omega
      have HE := Lib.hid (show en + i = mid + m ∧ a ≤ i ∧ i ≤ m ∧ m ≤ en ∧ en ≤ b ∧ i ≤ mid ∧ mid ≤ en ∧ a < mid ∧ mid < b by have := HP.out; omega)
      have HPP := Lib.hid (fun (l' : List (Nat → Int)) (h : RotP i m en hs l') => HP4.out i mid en lo hi l' HE.out.1 (by have := HE.out; omega) (by have := HE.out; omega) (by have := HE.out; omega) (by have := HE.out; omega) (by have := HE.out; omega) (by have := HE.out; omega) hmi hjb
        (by have h9 := HG.out.1; rw [show p = mid + m - 1 by have := HP.out; omega] at h9; omega) (by have h9 := HG.out.2; rw [show p = mid + m - 1 by have := HP.out; omega] at h9; exact h9) (fun h9 => by have := HP.out; omega) (fun h9 => by have := HP.out; omega) h)
      clear hen HG HP4 hltz hmi hjb hgg
      obtain ⟨B1, hB1⟩ : ∃ B1 : Bool, B1 = (decide (i < m) && decide (m < en)) := ⟨_, rfl⟩
      obtain ⟨B2, hB2⟩ : ∃ B2 : Bool, B2 = (decide (a < i) && decide (i < mid)) := ⟨_, rfl⟩
      obtain ⟨B3, hB3⟩ : ∃ B3 : Bool, B3 = (decide (mid < en) && decide (en < b)) := ⟨_, rfl⟩
      have HB1 := Lib.hid hB1
      have HB2 := Lib.hid hB2
      have HB3 := Lib.hid hB3
      clear hB1 hB2 hB3
      go_upto_region 39 with fail
      go_cut [185] from 178 (fun s185 wc => s185 = .bool B1 ∧ wi = wc)
      case first =>
        by_cases h1 : i < m
        · have h1z : (i : Int) < m := by omega
          by_cases h2 : m < en
          · have h2z : (m : Int) < en := by omega
            go_wp2
            go_meet
            exact ⟨by rw [HB1.out]; simp [h1, h2], rfl⟩
          · have h2z : ¬ (m : Int) < en := by omega
            go_wp2
            go_meet
            exact ⟨by rw [HB1.out]; simp [h1, h2], rfl⟩
        · have h1z : ¬ (i : Int) < m := by omega
          go_wp2
          go_meet
          exact ⟨by rw [HB1.out]; simp [h1], rfl⟩
      case rest =>
      obtain ⟨rfl, rfl⟩ := hcut
      go_upto_if 185 with fail
      go_cut [24] from 178 (fun s24 wc => s24 = .int .i64 (en : Int) ∧ ∃ l1, Hid (MemH wc g l1 rest) ∧ Hid (Kx g w0 wc) ∧ Hid (RotP i m en hs l1))
      case first =>
        cases B1 with
        | true =>
          have hb9 : i < m ∧ m < en := by have := HB1.out; simp at this; exact this
          have RC := Lib.hid (RO.out i m en wi HM.out hb9.1 hb9.2 (by have := HE.out; omega))
          go_wp2_with (go_at_call 66; refine RC.out.mono ?_; rintro e1 w1 ⟨⟨v1, rfl⟩, l1, HM1, HK1, HR1⟩)
          go_meet
          exact ⟨rfl, l1, Lib.hid HM1, Lib.hid (HK.out.trans HK1), Lib.hid HR1⟩
        | false =>
          have HN9 := Lib.hid (RotP.none (p := i) (q := m) (r := en) hs (by have := HB1.out; simp at this; have := HE.out; omega) (by have := HE.out; omega) (by have := HE.out; omega))
          go_wp2
          go_meet
          exact ⟨rfl, hs, HM, HK, HN9⟩
      case rest =>
      clear HM HK
      obtain ⟨rfl, l1, HM, HK, HR⟩ := hcut
      obtain ⟨wm, rfl⟩ : ∃ wm, wm = wc := ⟨_, rfl⟩
      have HQ4 := Lib.hid (HPP.out l1 HR.out)
      have HLL := Lib.hid (show l1.length = n by rw [HR.out.perm.length_eq, HN.out])
      go_upto_region 41 with fail
      go_cut [199] from 192 (fun s199 wc => s199 = .bool B2 ∧ wm = wc)
      case first =>
        by_cases h1 : a < i
        · have h1z : (a : Int) < i := by omega
          by_cases h2 : i < mid
          · have h2z : (i : Int) < mid := by omega
            go_wp2
            go_meet
            exact ⟨by rw [HB2.out]; simp [h1, h2], rfl⟩
          · have h2z : ¬ (i : Int) < mid := by omega
            go_wp2
            go_meet
            exact ⟨by rw [HB2.out]; simp [h1, h2], rfl⟩
        · have h1z : ¬ (a : Int) < i := by omega
          go_wp2
          go_meet
          exact ⟨by rw [HB2.out]; simp [h1], rfl⟩
      case rest =>
      obtain ⟨rfl, rfl⟩ := hcut
      go_upto_if 199 with fail
      go_cut [24] from 192 (fun s24 wc => s24 = .int .i64 (en : Int) ∧ ∃ l2, Hid (MemH wc g l2 rest) ∧ Hid (Kx g w0 wc) ∧ Hid (PI a mid l1 l2 ∧ Srt a mid l2))
      case first =>
        cases B2 with
        | true =>
          have hb9 : a < i ∧ i < mid := by have := HB2.out; simp at this; exact this
          have RC := Lib.hid (HREC.out l1 a i mid wm HM.out HLL.out hb9.1 hb9.2 (by have := HE.out; omega) (by have := HE.out; omega) HQ4.out.s1 HQ4.out.s2)
          go_wp2_with (go_at_call 59; refine RC.out.mono ?_; rintro e1 w1 ⟨⟨v1, rfl⟩, l2, HM1, HK1, HP1, HS1⟩)
          go_meet
          exact ⟨rfl, l2, Lib.hid HM1, Lib.hid (HK.out.trans HK1), Lib.hid ⟨HP1, HS1⟩⟩
        | false =>
          have HN9 := Lib.hid (show Srt a mid l1 by
            have h9 := HB2.out
            simp at h9
            by_cases h8 : a < i
            · have h7 : i = mid := by have := h9 h8; have := HE.out; omega
              have h6 := HQ4.out.s1
              rwa [h7] at h6
            · have h7 : i = a := by have := HE.out; omega
              have h6 := HQ4.out.s2
              rwa [h7] at h6)
          go_wp2
          go_meet
          exact ⟨rfl, l1, HM, HK, Lib.hid ⟨PI.refl _ _ _, HN9.out⟩⟩
      case rest =>
      clear HM HK
      obtain ⟨rfl, l2, HM, HK, HT⟩ := hcut
      obtain ⟨wt, rfl⟩ : ∃ wt, wt = wc := ⟨_, rfl⟩
      have HLL2 := Lib.hid (show l2.length = n by rw [HT.out.1.len, HLL.out])
      have HT3 := Lib.hid (HQ4.out.s3.keep HT.out.1 (.inr (Nat.le_refl _)))
      have HT4 := Lib.hid (HQ4.out.s4.keep HT.out.1 (.inr (by have := HE.out; omega)))
      have HFIN := Lib.hid (fun (l3 : List (Nat → Int)) (h1 : PI mid b l2 l3) (h2 : Srt mid b l3) => (show PI a b hs l3 ∧ Srt a b l3 from
        ⟨(((HR.out.pi (by have := HE.out; omega) (by have := HE.out; omega)).mono (a' := a) (b' := b) (by have := HE.out; omega) (by have := HE.out; omega)).trans (HT.out.1.mono (a' := a) (b' := b) (Nat.le_refl _) (by have := HE.out; omega))).trans (h1.mono (a' := a) (b' := b) (by have := HE.out; omega) (Nat.le_refl _)), join_halves HQ4.out.le HT.out.1 HT.out.2 h1 h2⟩))
      go_upto_region 43 with fail
      go_cut [213] from 206 (fun s213 wc => s213 = .bool B3 ∧ wt = wc)
      case first =>
        by_cases h1 : mid < en
        · have h1z : (mid : Int) < en := by omega
          by_cases h2 : en < b
          · have h2z : (en : Int) < b := by omega
            go_wp2
            go_meet
            exact ⟨by rw [HB3.out]; simp [h1, h2], rfl⟩
          · have h2z : ¬ (en : Int) < b := by omega
            go_wp2
            go_meet
            exact ⟨by rw [HB3.out]; simp [h1, h2], rfl⟩
        · have h1z : ¬ (mid : Int) < en := by omega
          go_wp2
          go_meet
          exact ⟨by rw [HB3.out]; simp [h1], rfl⟩
      case rest =>
      obtain ⟨rfl, rfl⟩ := hcut
      cases B3 with
      | true =>
        have hb9 : mid < en ∧ en < b := by have := HB3.out; simp at this; exact this
        have RC := Lib.hid (HREC.out l2 mid en b wt HM.out HLL2.out hb9.1 hb9.2 (by have := HE.out; omega) (by have := HE.out; omega) HT3.out HT4.out)
        go_wp2_with (go_at_call 59; refine RC.out.mono ?_; rintro e1 w1 ⟨⟨v1, rfl⟩, l3, HM1, HK1, HP1, HS1⟩)
        go_end0
        exact ⟨⟨_, rfl⟩, l3, HM1, HK.out.trans HK1, HFIN.out l3 HP1 HS1⟩
      | false =>
        have HN9 := Lib.hid (show Srt mid b l2 by
          have h9 := HB3.out
          simp at h9
          by_cases h8 : mid < en
          · have h7 : en = b := by have := h9 h8; have := HE.out; omega
            have h6 := HT3.out
            rwa [h7] at h6
          · have h7 : en = mid := by have := HE.out; omega
            have h6 := HT4.out
            rwa [h7] at h6)
        go_wp2
        go_end0
        exact ⟨⟨_, rfl⟩, l2, HM.out, HK.out, HFIN.out l2 (PI.refl _ _ _) HN9.out⟩
end Go.Proofs.Sky

namespace Go.Proofs.Sky
open Go Go.RowKit Go.Shelf
attribute [local go_sem] Oper.semAt_some
set_option maxHeartbeats 4000000
set_option maxRecDepth 8000
/-! chapter 40: symMergeCmpFunc; stable sorting -/
theorem symMerge_any (rest : List Value) (g c : Nat) : ∀ (k : Nat) (hs : List (Nat → Int)) (a m b : Nat) (w : World), b - a ≤ k → MemH w g hs rest → hs.length ≤ 1000000 → a < m → m < b → b ≤ hs.length → Srt a m hs → Srt m b hs →
   Calls Tryd.prog 59 #[.slice (some ⟨g, 0, none⟩) hs.length c, .int .i64 (a : Int), .int .i64 (m : Int), .int .i64 (b : Int), .func (.func 32) #[] #[]] w (SortP g a b hs rest w)
  | 0, hs, a, m, b, w, hk, _, _, h1, h2, _, _, _ => by omega
  | k + 1, hs, a, m, b, w, hk, hm, hl, ham, hmb, hb, hS1, hS2 => by
    by_cases h1 : m = a + 1
    · exact symA_any hs rest g c a m b w hm hl h1 hmb hb hS2
    · by_cases h2 : b = m + 1
      · exact symB_any hs rest g c a m b w hm hl (by omega) h2 hb hS1
      · refine symC_any hs rest g c a m b w hm hl (by omega) (by omega) hb hS1 hS2 (fun cur a' m' b' W hM hlen h3 h4 h5 h6 h7 h8 => ?_)
        have h9 := symMerge_any rest g c k cur a' m' b' W (by omega) hM (by omega) h3 h4 (by omega) h7 h8
        rwa [hlen] at h9
end Go.Proofs.Sky
