/-
  lemmas for the theorems of this claim. No conditions beyond those written in the statements.
-/
import Derived.Test.YtpmopobjlpfdaaaDoorSP40
import Derived.Test.YtpmopobjlpfdaaaDoorFB40
import Derived.Deep.Cut
set_option linter.unusedVariables false
set_option linter.unusedSimpArgs false
set_option linter.unnecessarySimpa false
namespace Go.Proofs.Sky
open Go Go.RowKit Go.Shelf
attribute [local go_sem] Oper.semAt_some
set_option maxHeartbeats 4000000
set_option maxRecDepth 8000
/-! chapter 40: insertionSortCmpFunc -/
/-- what a sort of the places a..b leaves behind -/
def SortP (g a b : Nat) (hs : List (Nat → Int)) (rest : List Value) (w : World) (e : Ending) (w' : World) : Prop := (∃ v, e = .returned v) ∧ ∃ hs', MemH w' g hs' rest ∧ Kx g w w' ∧ PI a b hs hs' ∧ Srt a b hs'
theorem quiet_load40 {P : Program} {o : Oper} {a : Act} {C : World → Prop} {K : Act → Prop} (v : Value) (dst : Option Tmp) (hd : o.dst = dst) (hv : ∀ w, C w → (execOp a.eval o).run P w = .ok (.value v) w) (h : K (a.put dst v)) : o.quiet P a C K := by
  subst hd
  refine ⟨v, fun w hw => ?_, h⟩
  unfold Oper.quietAt Oper.quietUpon
  rw [hv w hw]
  exact ⟨rfl, rfl⟩
theorem insSortH_any (hs : List (Nat → Int)) (rest : List Value) (g c a b : Nat) (w : World) (hm : MemH w g hs rest) (hl : hs.length ≤ 1000000) (hab : a ≤ b) (hb : b ≤ hs.length) :
   Calls Tryd.prog 58 #[.slice (some ⟨g, 0, none⟩) hs.length c, .int .i64 a, .int .i64 b, .func (.func 32) #[] #[]] w (SortP g a b hs rest w) := by
  have HM0 := Lib.hid hm
  have hgl := hm.lt
  have CF := Lib.hid (fun x y W => cmpH_any x y W)
  have eg : ∀ args w, (callFunc 32 args).run Tryd.prog w = .ok (.enter 32 args) w := enters_of Tryd.func32 (by kernel_rfl) rfl
  clear hm
  have HN := Lib.hid (show hs.length = hs.length from rfl)
  obtain ⟨n, hn⟩ : ∃ n, hs.length = n := ⟨_, rfl⟩
  replace HN := Lib.hid hn
  rw [hn] at hl hb ⊢
  clear hn
  have hwa : IntKind.i64.wrap ((a : Int) + 1) = (a : Int) + 1 := by rw [IntKind.wrap_i64]; omega
  go_enter Tryd.func58, Tryd.ntmps58
  go_wp2
  go_loopg [8] n (fun gg s8 wr => ∃ i cur, a < i ∧ (i ≤ b ∨ i = a + 1) ∧ n + 1 - i ≤ gg ∧ s8 = .int .i64 ((i : Nat) : Int) ∧ Hid (MemH wr g cur rest) ∧ Hid (Kx g w wr) ∧ Hid (PI a b hs cur ∧ Srt a i cur))
  case atStart => exact ⟨a + 1, hs, by omega, .inr rfl, by omega, by go_num, Lib.hid HM0.out, Lib.hid (Kx.of_bw (Bw.refl _) (Nat.le_of_lt hgl)), Lib.hid ⟨PI.refl _ _ _, fun p q h1 h2 h3 => by omega⟩⟩
  case round =>
    obtain ⟨i, cur0, hai, hib, hgg, rfl, HMr, HKr, HF⟩ := hrel
    obtain ⟨wb, rfl⟩ : ∃ wb, wb = wr := ⟨_, rfl⟩
    by_cases hlt : i < b
    · have hltz : (i : Int) < (b : Int) := by omega
      have hwi : IntKind.i64.wrap ((i : Int) + 1) = (i : Int) + 1 := by rw [IntKind.wrap_i64]; omega
      go_wp2
      go_loopg [9] n (fun g2 s9 wi => ∃ J cur, a ≤ J ∧ J ≤ i ∧ J ≤ g2 ∧ s9 = .int .i64 ((J : Nat) : Int) ∧ Hid (MemH wi g cur rest) ∧ Hid (Kx g w wi) ∧ Hid (PI a b hs cur ∧ SrtX a J i cur))
      case atStart => exact ⟨i, cur0, by omega, by omega, by omega, rfl, HMr, HKr, Lib.hid ⟨HF.out.1, SrtX.start HF.out.2⟩⟩
      case round =>
        obtain ⟨J, cur, haJ, hJi, hg2, rfl, HM, HK, HG⟩ := hrel
        obtain ⟨wi, rfl⟩ : ∃ wc, wc = wr := ⟨_, rfl⟩
        have hcl : cur.length = n := by rw [HG.out.1.len, HN.out]
        by_cases hj : a < J
        · have hjz : (a : Int) < (J : Int) := by omega
          obtain ⟨m, hJ⟩ : ∃ m, J = m + 1 := ⟨J - 1, by omega⟩
          have hwj : IntKind.i64.wrap ((J : Int) - 1) = (m : Int) := by rw [IntKind.wrap_i64]; omega
          have hjn : (J : Int) < (n : Int) := by omega
          have hmn : (m : Int) < (n : Int) := by omega
          have hwm : IntKind.i64.wrap (m : Int) = (m : Int) := by rw [IntKind.wrap_i64]; omega
          have RJ := Lib.hid (HM.out.rg (at0_some (l := cur) (i := J) (by omega)))
          have RM := Lib.hid (HM.out.rg (at0_some (l := cur) (i := m) (by omega)))
          have HDONE := Lib.hid (fun h => SrtX.done HG.out.2 hj h hJi)
          have HSTEP := Lib.hid (fun h => SrtX.step HG.out.2 hj hJi (by omega) h)
          have HPS := Lib.hid (HG.out.1.trans (PI.sw (a := a) (b := b) (l := cur) (i := J) (j := m) (by omega) (by omega) (by omega) (by omega) (by omega)))
          have HSW := Lib.hid (show (cur.set J (at0 cur m)).set m (at0 cur J) = swH cur J m from rfl)
          have HJL := Lib.hid (show J < cur.length by omega)
          have HML2 := Lib.hid (show m < (cur.set J (at0 cur m)).length by rw [List.length_set]; omega)
          rw [show J - 1 = m by omega] at HDONE HSTEP
          clear hcl
          generalize at0 cur J = x at *
          generalize at0 cur m = y at *
          have CC := Lib.hid (fun W => CF.out x y W)
          obtain ⟨cc, hcc⟩ : ∃ cc, cmpHn x y = cc := ⟨_, rfl⟩
          rw [hcc] at CC HDONE HSTEP
          clear hcc
          have HJM := Lib.hid hJ
          clear hJ
          go_upto_region 4 with fail
          refine wp_region_quiet_ext (by kernel_rfl) (by kernel_rfl) ?_
          (repeat (go_big_quiet_step (fail)))
          go_big_quiet_want
          refine quiet_load40 (.agg (hnV x)) (some 26) rfl (fun W hW => ?_) ?_
          · obtain ⟨p, rfl⟩ := hW
            exact run_load_hn (.tmp 25) rfl g (J * 6) (by simp [Act.eval, Act.put]) (rg_bw9 RJ.out p.b)
          simp only [Act.put, List.setIfInBounds_toArray, List.set_cons_zero, List.set_cons_succ]
          go_big_quiet_on
          (repeat (go_big_quiet_step (fail)))
          go_big_quiet_want
          refine quiet_load40 (.agg (hnV y)) (some 31) rfl (fun W hW => ?_) ?_
          · obtain ⟨p, rfl⟩ := hW
            exact run_load_hn (.tmp 30) rfl g (m * 6) (by simp [Act.eval, Act.put]) (rg_bw9 RM.out p.b)
          simp only [Act.put, List.setIfInBounds_toArray, List.set_cons_zero, List.set_cons_succ]
          go_big_quiet_on
          (repeat (go_big_quiet_step ((go_at_fn 32; with_reducible exact Calls.ext_of (CC.out _)))))
          refine wpQuiet_nil ?_
          rintro wq ⟨⟨_, hbq⟩, rfl⟩
          replace RJ := Lib.hid (rg_bw9 RJ.out hbq)
          replace RM := Lib.hid (rg_bw9 RM.out hbq)
          replace HK := Lib.hid (HK.out.trans (Kx.of_bw hbq (Nat.le_of_lt HM.out.lt)))
          replace HM := Lib.hid (HM.out.bw hbq)
          clear hbq
          by_cases hc : cc < 0
          · have HS2 := Lib.hid (HSTEP.out hc)
            go_upto_region 6 with fail
            refine wp_region_held_drew (S := fun _ => True) (by kernel_rfl) trivial (fun hS => ?_)
            have hdr := Bw.drew (Bw.refl wq)
            replace RJ := Lib.hid (rg_bw9 RJ.out hdr)
            replace RM := Lib.hid (rg_bw9 RM.out hdr)
            replace HK := Lib.hid (HK.out.trans (Kx.of_bw hdr (Nat.le_of_lt HM.out.lt)))
            replace HM := Lib.hid (HM.out.bw hdr)
            clear hdr
            generalize World.drew _ = wd at *
            refine take1 (i := 0) (some 37) rfl rfl (by kernel_rfl) (by kernel_rfl) (by kernel_rfl) (fun _ _ _ _ h => h) rfl hS ?_
            apply Exists.intro
            apply And.intro
            · intro W9 hW9; skip; go_simp; try with_reducible rfl
            simp only [Act.put, List.setIfInBounds_toArray, List.set_cons_zero, List.set_cons_succ]
            refine take1 (i := 1) (some 38) rfl rfl (by kernel_rfl) (by kernel_rfl) (by kernel_rfl) (fun _ _ _ _ h => h) rfl hS ?_
            apply Exists.intro
            apply And.intro
            · intro W9 hW9; skip; go_simp; try with_reducible rfl
            simp only [Act.put, List.setIfInBounds_toArray, List.set_cons_zero, List.set_cons_succ]
            refine take1 (i := 2) (some 39) rfl rfl (by kernel_rfl) (by kernel_rfl) (by kernel_rfl) (fun _ _ _ _ h => h) rfl hS ?_
            apply Exists.intro
            apply And.intro
            · intro W9 hW9; skip; go_simp; try with_reducible rfl
            simp only [Act.put, List.setIfInBounds_toArray, List.set_cons_zero, List.set_cons_succ]
            refine take1 (i := 3) (some 40) rfl rfl (by kernel_rfl) (by kernel_rfl) (by kernel_rfl) (fun _ _ _ _ h => h) rfl hS ?_
            apply Exists.intro
            apply And.intro
            · intro W9 hW9; skip; go_simp; try with_reducible rfl
            simp only [Act.put, List.setIfInBounds_toArray, List.set_cons_zero, List.set_cons_succ]
            refine take1 (i := 4) (some 41) rfl rfl (by kernel_rfl) (by kernel_rfl) (by kernel_rfl) (fun _ _ _ _ h => h) rfl hS ?_
            apply Exists.intro
            apply And.intro
            · intro W9 hW9; skip; go_simp; try with_reducible rfl
            simp only [Act.put, List.setIfInBounds_toArray, List.set_cons_zero, List.set_cons_succ]
            refine take1 (i := 5) (some 42) rfl rfl (by kernel_rfl) (by kernel_rfl) (by kernel_rfl) (fun _ _ _ _ h => h) rfl hS ?_
            apply Exists.intro
            apply And.intro
            · intro W9 hW9; skip; go_simp; try with_reducible rfl
            simp only [Act.put, List.setIfInBounds_toArray, List.set_cons_zero, List.set_cons_succ]
            refine take1 (i := 6) (some 43) rfl rfl (by kernel_rfl) (by kernel_rfl) (by kernel_rfl) (fun _ _ _ _ h => h) rfl hS ?_
            apply Exists.intro
            apply And.intro
            · intro W9 hW9; skip; go_simp; try with_reducible rfl
            simp only [Act.put, List.setIfInBounds_toArray, List.set_cons_zero, List.set_cons_succ]
            refine take1 (i := 7) (some 44) rfl rfl (by kernel_rfl) (by kernel_rfl) (by kernel_rfl) (fun _ _ _ _ h => h) rfl hS ?_
            apply Exists.intro
            apply And.intro
            · intro W9 hW9; skip; go_simp; try with_reducible rfl
            simp only [Act.put, List.setIfInBounds_toArray, List.set_cons_zero, List.set_cons_succ]
            refine take1 (i := 8) (some 45) rfl rfl (by kernel_rfl) (by kernel_rfl) (by kernel_rfl) (fun _ _ _ _ h => h) rfl hS ?_
            apply Exists.intro
            apply And.intro
            · intro W9 hW9; skip; go_simp; try with_reducible rfl
            simp only [Act.put, List.setIfInBounds_toArray, List.set_cons_zero, List.set_cons_succ]
            refine take1 (i := 10) (some 47) rfl rfl (by kernel_rfl) (by kernel_rfl) (by kernel_rfl) (fun _ _ _ _ h => h) rfl hS ?_
            apply Exists.intro
            apply And.intro
            · intro W9 hW9; skip; go_simp; try with_reducible rfl
            simp only [Act.put, List.setIfInBounds_toArray, List.set_cons_zero, List.set_cons_succ]
            refine take1 (i := 11) (some 48) rfl rfl (by kernel_rfl) (by kernel_rfl) (by kernel_rfl) (fun _ _ _ _ h => h) rfl hS ?_
            apply Exists.intro
            apply And.intro
            · intro W9 hW9; skip; go_simp; try with_reducible rfl
            simp only [Act.put, List.setIfInBounds_toArray, List.set_cons_zero, List.set_cons_succ]
            refine take1 (i := 12) (some 49) rfl rfl (by kernel_rfl) (by kernel_rfl) (by kernel_rfl) (fun _ _ _ _ h => h) rfl hS ?_
            apply Exists.intro
            apply And.intro
            · intro W9 hW9; skip; go_simp; try with_reducible rfl
            simp only [Act.put, List.setIfInBounds_toArray, List.set_cons_zero, List.set_cons_succ]
            refine wpAnyH_ready (rs := [9, 13]) (by kernel_rfl) (by simp) ?_
            refine AllReadyH.cons rfl (fun K hK => ?_) ?_
            refine wp_load_hn (.tmp 45) rfl (some 46) rfl g (m * 6) (by simp [Act.eval, Act.put]) RM.out ?_
            simp only [Act.put, List.setIfInBounds_toArray, List.set_cons_zero, List.set_cons_succ]
            refine hK.out _ _ trivial (fun hS => ?_)
            clear hK K
            skip
            refine wpAnyH_ready (rs := [13]) (by kernel_rfl) (by simp) ?_
            refine AllReadyH.cons rfl (fun K hK => ?_) ?_
            refine wp_load_hn (.tmp 49) rfl (some 50) rfl g (J * 6) (by simp [Act.eval, Act.put]) RJ.out ?_
            simp only [Act.put, List.setIfInBounds_toArray, List.set_cons_zero, List.set_cons_succ]
            refine hK.out _ _ trivial (fun hS => ?_)
            clear hK K
            skip
            refine take1 (i := 14) (some 51) rfl rfl (by kernel_rfl) (by kernel_rfl) (by kernel_rfl) (fun _ _ _ _ h => h) rfl hS ?_
            apply Exists.intro
            apply And.intro
            · intro W9 hW9; skip; go_simp; try with_reducible rfl
            simp only [Act.put, List.setIfInBounds_toArray, List.set_cons_zero, List.set_cons_succ]
            refine wpAnyH_ready (rs := [15]) (by kernel_rfl) (by simp) ?_
            refine AllReadyH.cons rfl (fun K hK => ?_) ?_
            refine wp_store_mid0 23 (.tmp 51) (.tmp 46) rfl rfl g (J * 6) (hnV y) (by simp [Act.eval, Act.put]) rfl (HM.out.there HJL.out) (by kernel_rfl) (by simp [Value.oneCell', hnV]) ?_
            have HM2 := Lib.hid (HM.out.set HJL.out y)
            have HK2 := Lib.hid (HK.out.trans (Kx.sets (hnc y) (J * 6) _ HM.out.lt))
            rw [show (hnV y).toList = hnc y from rfl]
            refine hK.out _ _ trivial (fun hS => ?_)
            clear hK K
            clear RM RJ
            generalize World.setCells wd g (J * 6) (hnc y) = we at *
            refine take1 (i := 16) (some 52) rfl rfl (by kernel_rfl) (by kernel_rfl) (by kernel_rfl) (fun _ _ _ _ h => h) rfl hS ?_
            apply Exists.intro
            apply And.intro
            · intro W9 hW9; skip; go_simp; try with_reducible rfl
            simp only [Act.put, List.setIfInBounds_toArray, List.set_cons_zero, List.set_cons_succ]
            refine wpAnyH_ready (rs := [17]) (by kernel_rfl) (by simp) ?_
            refine AllReadyH.cons rfl (fun K hK => ?_) ?_
            refine wp_store_mid0 23 (.tmp 52) (.tmp 50) rfl rfl g (m * 6) (hnV x) (by simp [Act.eval, Act.put]) rfl (HM2.out.there HML2.out) (by kernel_rfl) (by simp [Value.oneCell', hnV]) ?_
            have HM3 := Lib.hid (HM2.out.set HML2.out x)
            have HK3 := Lib.hid (HK2.out.trans (Kx.sets (hnc x) (m * 6) _ HM2.out.lt))
            rw [show (hnV x).toList = hnc x from rfl]
            refine hK.out _ _ trivial (fun hS => ?_)
            clear hK K
            generalize World.setCells we g (m * 6) (hnc x) = wf at *
            refine wpAnyH_done (by kernel_rfl) ?_ _
            rotate_left
            exact AllReadyH.nil
            exact AllReadyH.nil
            exact AllReadyH.nil
            refine AllReadyH.cons rfl (fun K hK => ?_) ?_
            refine wp_load_hn (.tmp 49) rfl (some 50) rfl g (J * 6) (by simp [Act.eval, Act.put]) RJ.out ?_
            simp only [Act.put, List.setIfInBounds_toArray, List.set_cons_zero, List.set_cons_succ]
            refine hK.out _ _ trivial (fun hS => ?_)
            clear hK K
            skip
            refine wpAnyH_ready (rs := [9]) (by kernel_rfl) (by simp) ?_
            refine AllReadyH.cons rfl (fun K hK => ?_) ?_
            refine wp_load_hn (.tmp 45) rfl (some 46) rfl g (m * 6) (by simp [Act.eval, Act.put]) RM.out ?_
            simp only [Act.put, List.setIfInBounds_toArray, List.set_cons_zero, List.set_cons_succ]
            refine hK.out _ _ trivial (fun hS => ?_)
            clear hK K
            skip
            refine take1 (i := 14) (some 51) rfl rfl (by kernel_rfl) (by kernel_rfl) (by kernel_rfl) (fun _ _ _ _ h => h) rfl hS ?_
            apply Exists.intro
            apply And.intro
            · intro W9 hW9; skip; go_simp; try with_reducible rfl
            simp only [Act.put, List.setIfInBounds_toArray, List.set_cons_zero, List.set_cons_succ]
            refine wpAnyH_ready (rs := [15]) (by kernel_rfl) (by simp) ?_
            refine AllReadyH.cons rfl (fun K hK => ?_) ?_
            refine wp_store_mid0 23 (.tmp 51) (.tmp 46) rfl rfl g (J * 6) (hnV y) (by simp [Act.eval, Act.put]) rfl (HM.out.there HJL.out) (by kernel_rfl) (by simp [Value.oneCell', hnV]) ?_
            have HM2 := Lib.hid (HM.out.set HJL.out y)
            have HK2 := Lib.hid (HK.out.trans (Kx.sets (hnc y) (J * 6) _ HM.out.lt))
            rw [show (hnV y).toList = hnc y from rfl]
            refine hK.out _ _ trivial (fun hS => ?_)
            clear hK K
            clear RM RJ
            generalize World.setCells wd g (J * 6) (hnc y) = we at *
            refine take1 (i := 16) (some 52) rfl rfl (by kernel_rfl) (by kernel_rfl) (by kernel_rfl) (fun _ _ _ _ h => h) rfl hS ?_
            apply Exists.intro
            apply And.intro
            · intro W9 hW9; skip; go_simp; try with_reducible rfl
            simp only [Act.put, List.setIfInBounds_toArray, List.set_cons_zero, List.set_cons_succ]
            refine wpAnyH_ready (rs := [17]) (by kernel_rfl) (by simp) ?_
            refine AllReadyH.cons rfl (fun K hK => ?_) ?_
            refine wp_store_mid0 23 (.tmp 52) (.tmp 50) rfl rfl g (m * 6) (hnV x) (by simp [Act.eval, Act.put]) rfl (HM2.out.there HML2.out) (by kernel_rfl) (by simp [Value.oneCell', hnV]) ?_
            have HM3 := Lib.hid (HM2.out.set HML2.out x)
            have HK3 := Lib.hid (HK2.out.trans (Kx.sets (hnc x) (m * 6) _ HM2.out.lt))
            rw [show (hnV x).toList = hnc x from rfl]
            refine hK.out _ _ trivial (fun hS => ?_)
            clear hK K
            generalize World.setCells we g (m * 6) (hnc x) = wf at *
            refine wpAnyH_done (by kernel_rfl) ?_ _
            rotate_left
            exact AllReadyH.nil
            exact AllReadyH.nil
            exact AllReadyH.nil
            exact AllReadyH.nil
            all_goals
              go_wp2
              go_roundg m
              case measure => have := HJM.out; omega
              case rel => exact ⟨m, swH cur J m, by have := HJM.out; omega, by have := HJM.out; omega, by omega, rfl, by rw [← HSW.out]; exact HM3, HK3, Lib.hid ⟨HPS.out, HS2.out⟩⟩
          · have HS2 := Lib.hid (HDONE.out hc)
            have hPI := Lib.hid HG.out.1
            go_wp2
            go_roundg (n + 1 - (i + 1))
            case measure => omega
            case rel => exact ⟨i + 1, cur, by omega, .inl (by omega), by omega, by go_num, HM, HK, Lib.hid ⟨hPI.out, HS2.out⟩⟩
        · have hjz : ¬ (a : Int) < (J : Int) := by omega
          have hja : J = a := by omega
          have HS2 := Lib.hid (show Srt a (i + 1) cur from SrtX.done_a (by have h9 := HG.out.2; rwa [hja] at h9))
          have hPI := Lib.hid HG.out.1
          clear hja
          go_upto_region 4 with fail
          refine wp_region_quiet_ext (by kernel_rfl) (by kernel_rfl) ?_
          (repeat (go_big_quiet_step (fail)))
          refine wpQuiet_nil ?_
          rintro wq ⟨⟨_, hbq⟩, rfl⟩
          replace HK := Lib.hid (HK.out.trans (Kx.of_bw hbq (Nat.le_of_lt HM.out.lt)))
          replace HM := Lib.hid (HM.out.bw hbq)
          clear hbq
          go_wp2
          go_roundg (n + 1 - (i + 1))
          case measure => omega
          case rel => exact ⟨i + 1, cur, by omega, .inl (by omega), by omega, by go_num, HM, HK, Lib.hid ⟨hPI.out, HS2.out⟩⟩
    · have hltz : ¬ (i : Int) < (b : Int) := by omega
      have HS := Lib.hid (show Srt a b cur0 from fun p q h1 h2 h3 => HF.out.2 p q h1 h2 (by omega))
      go_wp2
      go_end0
      exact ⟨⟨_, rfl⟩, cur0, HMr.out, HKr.out, HF.out.1, HS.out⟩
end Go.Proofs.Sky

namespace Go.Proofs.Sky
open Go Go.RowKit Go.Shelf
attribute [local go_sem] Oper.semAt_some
set_option maxHeartbeats 4000000
set_option maxRecDepth 8000
/-! chapter 40: stable sorting of less than 20 hints -/
theorem stableSmall_any (hs : List (Nat → Int)) (rest : List Value) (g c : Nat) (w : World) (hm : MemH w g hs rest) (hl : hs.length < 20) :
   Calls Tryd.prog 50 #[.slice (some ⟨g, 0, none⟩) hs.length c, .int .i64 hs.length, .func (.func 32) #[] #[]] w (SortP g 0 hs.length hs rest w) := by
  have SI := Lib.hid (insSortH_any hs rest g c 0 hs.length w hm (by omega) (by omega) (Nat.le_refl _))
  have hgl := hm.lt
  clear hm
  obtain ⟨N, hN⟩ : ∃ N, hs.length = N := ⟨_, rfl⟩
  rw [hN] at hl SI ⊢
  clear hN
  have h1 : ¬ (20 : Int) ≤ (N : Int) := by omega
  have h2 : ¬ (20 : Int) < (N : Int) := by omega
  have h3 : (N : Int) < (20 : Int) := by omega
  go_enter Tryd.func50, Tryd.ntmps50
  go_wp2
  go_loopg [7, 8] 1 (fun gg s7 s8 wr => s7 = .int .i64 0 ∧ s8 = .int .i64 20 ∧ wr = w)
  case atStart => exact ⟨rfl, rfl, rfl⟩
  case round =>
    obtain ⟨rfl, rfl, rfl⟩ := hrel
    go_wp2_with (go_at_call 58; refine SI.out.mono ?_; rintro e1 w1 ⟨⟨v1, rfl⟩, cur1, HM1, HK1, HP1, HS1⟩)
    go_loopg [6, 7, 8, 9] 1 (fun gg s6 s7 s8 s9 wq => s6 = .int .i64 20 ∧ wq = w1)
    case atStart => exact ⟨rfl, rfl⟩
    case round =>
      obtain ⟨rfl, rfl⟩ := hrel
      go_wp2
      go_end0
      exact ⟨⟨_, rfl⟩, cur1, HM1, HK1, HP1, HS1⟩
theorem sortSmall_any (hs : List (Nat → Int)) (rest : List Value) (g c : Nat) (w : World) (hm : MemH w g hs rest) (hl : hs.length < 20) :
   Calls Tryd.prog 31 #[.slice (some ⟨g, 0, none⟩) hs.length c, .func (.func 32) #[] #[]] w (SortP g 0 hs.length hs rest w) := by
  have SI := Lib.hid (stableSmall_any hs rest g c w hm hl)
  clear hm
  generalize hs.length = N at *
  go_enter Tryd.func31, Tryd.ntmps31
  go_wp2_with (go_at_call 50; refine SI.out.mono ?_; rintro e1 w1 ⟨⟨v1, rfl⟩, cur1, HM1, HK1, HP1, HS1⟩)
  go_end0
  exact ⟨⟨_, rfl⟩, cur1, HM1, HK1, HP1, HS1⟩
end Go.Proofs.Sky

namespace Go.Proofs.Sky
open Go Go.RowKit Go.Shelf
/-! chapter 40: two sorted rows of the same hints give the same numbers -/
def keyH (x : Nat → Int) : Int × Int × Int := (ltrH x, x 5, x 0)
def leK (a b : Int × Int × Int) : Prop := a.1 < b.1 ∨ (a.1 = b.1 ∧ (a.2.1 < b.2.1 ∨ (a.2.1 = b.2.1 ∧ a.2.2 ≤ b.2.2)))
theorem leK_anti {a b : Int × Int × Int} (h : leK a b) (k : leK b a) : a = b := by
  obtain ⟨a1, a2, a3⟩ := a
  obtain ⟨b1, b2, b3⟩ := b
  unfold leK at h k
  simp only at h k
  have e1 : a1 = b1 := by omega
  have e2 : a2 = b2 := by omega
  have e3 : a3 = b3 := by omega
  rw [e1, e2, e3]
theorem srt_pair {l : List (Nat → Int)} (h : Srt 0 l.length l) : (l.map keyH).Pairwise leK := by
  rw [List.pairwise_map, List.pairwise_iff_getElem]
  intro i j hi hj hij
  have h9 := h i j (by omega) hij hj
  rw [leH_iff, ← at0_get hi, ← at0_get hj] at h9
  exact h9
theorem sorted_same {l r : List (Nat → Int)} (hp : l.Perm r) (hl : Srt 0 l.length l) (hr : Srt 0 r.length r) : l.map (fun x => x 0) = r.map (fun x => x 0) := by
  have h9 : l.map keyH = r.map keyH := List.Perm.eq_of_pairwise (le := leK) (fun a b _ _ h k => leK_anti h k) (srt_pair hl) (srt_pair hr) (hp.map keyH)
  have h8 := congrArg (List.map fun k : Int × Int × Int => k.2.2) h9
  simpa [keyH, Function.comp_def] using h8
/-! the reference's insertion -/
def befH (x y : Nat → Int) : Bool := decide (cmpHn x y < 0)
def insAt (c : List (Nat → Int)) (x : Nat → Int) : Nat → Nat
  | 0 => 0
  | n + 1 => if befH x (at0 c n) then insAt c x n else n + 1
theorem insAt_le (c : List (Nat → Int)) (x : Nat → Int) : ∀ n, insAt c x n ≤ n
  | 0 => Nat.le_refl _
  | n + 1 => by
    unfold insAt
    split
    · exact Nat.le_succ_of_le (insAt_le c x n)
    · exact Nat.le_refl _
theorem insAt_spec (c : List (Nat → Int)) (x : Nat → Int) : ∀ n, (∀ k, insAt c x n ≤ k → k < n → cmpHn x (at0 c k) < 0) ∧ (insAt c x n = 0 ∨ ¬ cmpHn x (at0 c (insAt c x n - 1)) < 0)
  | 0 => ⟨fun k _ h => by omega, .inl rfl⟩
  | n + 1 => by
    obtain ⟨h1, h2⟩ := insAt_spec c x n
    unfold insAt
    by_cases hb : befH x (at0 c n) = true
    · rw [if_pos hb]
      refine ⟨fun k hk1 hk2 => ?_, h2⟩
      by_cases e : k = n
      · subst e; simpa [befH] using hb
      · exact h1 k hk1 (by omega)
    · rw [if_neg hb]
      exact ⟨fun k hk1 hk2 => by omega, .inr (by simpa [befH] using hb)⟩
def insR (c : List (Nat → Int)) (x : Nat → Int) : List (Nat → Int) := c.take (insAt c x c.length) ++ x :: c.drop (insAt c x c.length)
theorem insR_perm (c : List (Nat → Int)) (x : Nat → Int) : (insR c x).Perm (x :: c) := by
  unfold insR
  refine List.perm_middle.trans ?_
  rw [List.take_append_drop]
theorem insR_len (c : List (Nat → Int)) (x : Nat → Int) : (insR c x).length = c.length + 1 := (insR_perm c x).length_eq
theorem at0_ins (c : List (Nat → Int)) (x : Nat → Int) (a : Nat) (ha : a ≤ c.length) (k : Nat) : at0 (c.take a ++ x :: c.drop a) k = if k < a then at0 c k else if k = a then x else at0 c (k - 1) := by
  unfold at0
  rw [List.getD_eq_getElem?_getD, List.getD_eq_getElem?_getD, List.getD_eq_getElem?_getD]
  have hm : (c.take a).length = a := by rw [List.length_take]; omega
  by_cases h1 : k < a
  · rw [if_pos h1, List.getElem?_append_left (by omega), List.getElem?_take, if_pos h1]
  · rw [if_neg h1, List.getElem?_append_right (by omega), hm]
    by_cases h2 : k = a
    · subst h2; rw [if_pos rfl, Nat.sub_self]; rfl
    · rw [if_neg h2, show k - a = (k - 1 - a) + 1 by omega, List.getElem?_cons_succ, List.getElem?_drop]
      congr 2
      omega
theorem insR_srt {c : List (Nat → Int)} (x : Nat → Int) (h : Srt 0 c.length c) : Srt 0 (insR c x).length (insR c x) := by
  rw [insR_len]
  intro p q _ hpq hq
  obtain ⟨h1, h2⟩ := insAt_spec c x c.length
  have hle := insAt_le c x c.length
  unfold insR
  generalize insAt c x c.length = a at *
  rw [at0_ins c x a hle, at0_ins c x a hle]
  by_cases hp : p < a
  · rw [if_pos hp]
    by_cases hq1 : q < a
    · rw [if_pos hq1]; exact h p q (by omega) hpq (by omega)
    · rw [if_neg hq1]
      by_cases hq2 : q = a
      · rw [if_pos hq2]
        rcases h2 with h9 | h9
        · omega
        · by_cases e : p = a - 1
          · rw [e]; exact h9
          · exact leH_trans (h p (a - 1) (by omega) (by omega) (by omega)) h9
      · rw [if_neg hq2]; exact h p (q - 1) (by omega) (by omega) (by omega)
  · rw [if_neg hp, if_neg (show ¬ q < a by omega), if_neg (show ¬ q = a by omega)]
    by_cases hp2 : p = a
    · rw [if_pos hp2]; exact leH_lt (h1 (q - 1) (by omega) (by omega))
    · rw [if_neg hp2]; exact h (p - 1) (q - 1) (by omega) (by omega) (by omega)
def ordL (l : List (Nat → Int)) : List (Nat → Int) := l.foldl (fun c x => if x 1 = -1 then c else insR c x) []
theorem ordL_spec : ∀ (l c : List (Nat → Int)), Srt 0 c.length c → Srt 0 (l.foldl (fun c x => if x 1 = -1 then c else insR c x) c).length (l.foldl (fun c x => if x 1 = -1 then c else insR c x) c) ∧ (l.foldl (fun c x => if x 1 = -1 then c else insR c x) c).Perm (l.filter (fun x => !decide (x 1 = -1)) ++ c)
  | [], c, h => ⟨h, .refl _⟩
  | x :: r, c, h => by
    rw [List.foldl_cons]
    by_cases hx : x 1 = -1
    · rw [if_pos hx, List.filter_cons_of_neg (by simp [hx])]
      exact ordL_spec r c h
    · rw [if_neg hx, List.filter_cons_of_pos (by simp [hx])]
      obtain ⟨s, p⟩ := ordL_spec r (insR c x) (insR_srt x h)
      refine ⟨s, p.trans ?_⟩
      exact ((insR_perm c x).append_left _).trans List.perm_middle
/-- any sorted order of what is left gives the reference's numbers -/
theorem ord_same {l s : List (Nat → Int)} (hp : s.Perm (l.filter fun x => !decide (x 1 = -1))) (hs : Srt 0 s.length s) : s.map (fun x => x 0) = (ordL l).map (fun x => x 0) := by
  obtain ⟨h1, h2⟩ := ordL_spec l [] (fun p q _ _ h => by simp at h)
  rw [List.append_nil] at h2
  exact sorted_same (hp.trans h2.symm) hs h1
end Go.Proofs.Sky

namespace Go.Proofs.Sky
open Go Go.RowKit Go.Shelf
attribute [local go_sem] Oper.semAt_some
set_option maxHeartbeats 4000000
set_option maxRecDepth 8000
/-! chapter 40: Order -/
theorem own_memH {w : World} {base : Nat} {v : Value} {hs : List (Nat → Int)} (h : w.ownsRow base 23 6 v hs.length (flatH hs)) (h0 : 0 < hs.length) : ∃ g c rest, v = .slice (some ⟨g, 0, none⟩) hs.length c ∧ base ≤ g ∧ hs.length ≤ c ∧ MemH w g hs rest := by
  rcases h.2 with ⟨_, h2⟩ | ⟨g, cap, cur, rfl, hg, hh, hc, _, _, ht⟩
  · omega
  · refine ⟨g, cap, cur.toList.drop (hs.length * 6), rfl, hg, hc, ?_⟩
    unfold MemH Blk
    rw [← ht, List.take_append_drop, Array.toArray_toList]
    exact hh
/-- Clone, DeleteFunc and the sort, one behind the other -/
def ReadyP (g c : Nat) (hs : List (Nat → Int)) (w w' : World) : Prop := ∃ s rest, MemH w' g s rest ∧ Bw w w' ∧ s.Perm (hs.filter fun x => !decide (x 1 = -1)) ∧ Srt 0 s.length s
theorem del_call (hs : List (Nat → Int)) (rest : List Value) (g c : Nat) (w : World) (hm : MemH w g hs rest) (hl : hs.length ≤ 1000000) (hlc : hs.length ≤ c) (h0 : 0 < hs.length) :
   Calls Tryd.prog 28 #[.slice (some ⟨g, 0, none⟩) hs.length c, .func (.func 30) #[] #[]] w fun e w' => e = .returned (.slice (some ⟨g, 0, none⟩) (hs.filter fun x => !decide (x 1 = -1)).length c) ∧ (∃ rest', MemH w' g (hs.filter fun x => !decide (x 1 = -1)) rest') ∧ Kx g w w' :=
  deleteFuncH_any (fun x => decide (x 1 = -1)) 30 (enters_of Tryd.func30 (by kernel_rfl) rfl) hs rest g c w (fun x W => dropB_any x W) hm hl hlc h0
theorem int_next {s : List (Nat → Int)} {k : Nat} (hk : k < s.length) : (s.take (k + 1)).map (fun x => x 0) = (s.take k).map (fun x => x 0) ++ [at0 s k 0] := by
  rw [List.take_add_one, at0_some hk, List.map_append]; rfl
end Go.Proofs.Sky

namespace Go.Proofs.Sky
open Go Go.RowKit Go.Shelf
attribute [local go_sem] Oper.semAt_some
set_option maxHeartbeats 4000000
set_option maxRecDepth 8000
/-! chapter 40: Order, the walk -/
def OrdQ (base : Nat) (hs : List (Nat → Int)) (e : Ending) (w' : World) : Prop := ∃ v', e = .returned v' ∧ RdI w' v' ((ordL hs).map fun x => x 0) ∧ Fresh base v'
theorem order_any (hs : List (Nat → Int)) (v : Value) (w : World) (hv : RdH w v hs) (h0 : 0 < hs.length) (hl : hs.length ≤ 1000)
   (hsort : ∀ cur rest g c W, MemH W g cur rest → cur.length ≤ hs.length → Calls Tryd.prog 31 #[.slice (some ⟨g, 0, none⟩) cur.length c, .func (.func 32) #[] #[]] W (SortP g 0 cur.length cur rest W)) :
   Calls Tryd.prog 10 #[v] w fun e w' => OrdQ w.heap.size hs e w' ∧ Bw w w' := by
  have CL := Lib.hid (cloneHn_any hs hl v w hv)
  obtain ⟨a, c, rfl⟩ := hv.form
  have HSO := Lib.hid hsort
  have HSAME := Lib.hid (fun s h1 h2 => ord_same (l := hs) (s := s) h1 h2)
  clear hv hsort
  go_enter Tryd.func10, Tryd.ntmps10
  go_upto_region 3 with (first | (go_at_call 29; refine CL.out.mono ?_; rintro e1 w1 ⟨⟨v1, rfl, ho1⟩, hb1⟩; obtain ⟨g, c1, rest, rfl, hg, hc1, hM1⟩ := own_memH ho1 h0; have DL := Lib.hid (del_call hs rest g c1 w1 hM1 (by omega) hc1 h0)) | (go_at_call 28; refine DL.out.mono ?_; rintro e2 w2 ⟨rfl, ⟨rest2, hM2⟩, hK2⟩; have SO := Lib.hid (HSO.out _ rest2 g c1 w2 hM2 (List.length_filter_le _ _))) | (go_at_call 31; refine SO.out.mono ?_; rintro e3 w3 ⟨⟨v3, rfl⟩, s, hM3, hK3, hP3, hS3⟩))
  have HM := Lib.hid hM3
  have HW := Lib.hid ((hK2.trans hK3).bw hb1 hg)
  have HSL := Lib.hid hP3.len
  rw [← hP3.len] at hS3 ⊢
  have HEQ := Lib.hid (HSAME.out s hP3.perm hS3)
  have HB := Lib.hid (show w.heap.size ≤ w.heap.size from Nat.le_refl _)
  have hsl : s.length ≤ 1000 := by rw [hP3.len]; exact Nat.le_trans (List.length_filter_le _ _) hl
  clear hM1 hM2 hM3 hK2 hK3 hP3 hS3 DL SO CL HSO ho1 hb1 HSAME hg hc1
  have HNX := Lib.hid (fun k hk => int_next (s := s) (k := k) hk)
  have HTL := Lib.hid (fun k => show ((s.take k).map fun x => x 0).length ≤ 1000 by rw [List.length_map, List.length_take]; omega)
  have HAL := Lib.hid (show (s.take s.length).map (fun x => x 0) = s.map (fun x => x 0) by rw [List.take_length])
  obtain ⟨n, hn⟩ : ∃ n, s.length = n := ⟨_, rfl⟩
  have HN := Lib.hid hn
  rw [hn] at hsl HAL ⊢
  clear hn HSL
  obtain ⟨L, hL⟩ : ∃ L : Nat → List Int, (fun k => (s.take k).map fun x => x 0) = L := ⟨_, rfl⟩
  have HL := Lib.hid hL
  clear hL
  obtain ⟨BB, hBB⟩ : ∃ BB, w.heap.size = BB := ⟨_, rfl⟩
  rw [hBB] at HB
  have HBB := Lib.hid hBB
  clear hBB
  go_wp2
  go_loopg [4, 14] n (fun gg s4 s14 wr => ∃ k : Nat, k ≤ n ∧ n - k ≤ gg ∧ s14 = .int .i64 (k : Int) ∧ Hid (Bw w wr) ∧ Hid (MemH wr g s rest2) ∧ Hid (wr.ownsRow BB 3 1 s4 (L k).length ((L k).map (Value.int .i64))))
  case atStart => exact ⟨0, by omega, by omega, rfl, HW, HM, Lib.hid (by rw [← HL.out]; exact World.ownsRow_nil _ _ _ _)⟩
  case round =>
    obtain ⟨k, hkn, hgg, rfl, HWr, HMr, O1⟩ := hrel
    obtain ⟨wb, rfl⟩ : ∃ wb, wb = wr := ⟨_, rfl⟩
    by_cases hlt : k < n
    · have hltz : (k : Int) < (n : Int) := by omega
      have R9 := Lib.hid (HMr.out.rg (at0_some (l := s) (i := k) (by have := HN.out; omega)))
      have HLN := Lib.hid (show L (k + 1) = L k ++ [at0 s k 0] by rw [← HL.out]; exact HNX.out k (by have := HN.out; omega))
      have HLL := Lib.hid (show (L k).length ≤ 1000 by rw [← HL.out]; exact HTL.out k)
      generalize at0 s k = x at R9 HLN
      have K1 := Lib.hid (Blk.new wb 23 #[.int .i64 0, .int .i64 0, .int .i64 0, .int .i64 0, .int .i64 0, .int .i64 0])
      have HW1 := Lib.hid (Bw.alloc (Bw.refl wb) (.cells #[.int .i64 0, .int .i64 0, .int .i64 0, .int .i64 0, .int .i64 0, .int .i64 0] 23))
      have HPX := Lib.hid (show (hnV x).all (·.oneCell') = true by simp [Value.oneCell', hnV])
      go_upto_region 7 with (first | ((with_reducible refine at_load 23 (.tmp 16) ?_); refine wpList_load_hn rfl (.tmp 16) rfl g (k * 6) (by simp [Act.eval, Act.put]) R9.out ?_) | ((with_reducible refine at_store 23 (.tmp 6) (.tmp 17) ?_); refine wpList_store_row rfl 23 (.tmp 6) (.tmp 17) rfl wb.heap.size (hnV x) rfl rfl 23 _ K1.out (by kernel_rfl) rfl HPX.out ?_))
      obtain ⟨g1, hg1⟩ : ∃ g1, wb.heap.size = g1 := ⟨_, rfl⟩
      have hbq := Bw.setRow HW1.out (Nat.le_of_eq hg1) (hnV x)
      have K2 := Lib.hid (K1.out.row (hnV x))
      rw [hg1] at K2 ⊢
      replace HWr := Lib.hid (HWr.out.trans hbq)
      replace HMr := Lib.hid (HMr.out.bw hbq)
      replace O1 := Lib.hid (own_bw O1.out hbq)
      clear HW1 K1 R9
      generalize World.setRow (World.alloc wb _) _ _ = wc at *
      clear hbq hg1
      have d0 := K2.out.cell (show (hnV x)[0]? = some (.int .i64 (x 0)) from rfl)
      generalize x 0 = z at *
      go_wp2_with (at_builtin; have hba := Bw.alloc (Bw.refl wc) (.cells #[.int .i64 z] 3); replace O1 := Lib.hid (own_bw O1.out hba); replace HWr := Lib.hid (HWr.out.trans hba); replace HMr := Lib.hid (HMr.out.bw hba); clear hba; refine wpList_append_int1 rfl (.tmp 18) (.tmp 21) _ rfl BB 3 Tryd.underlying34 infoInt _ (L k) z rfl O1.out _ rfl (by simp [go_sem]) (by have := HLL.out; omega) (by have := HWr.out.size; have := HBB.out; simp only [World.size_alloc] at *; omega) ?_; intro v8 w8 hown hgr; replace HMr := Lib.hid (show MemH w8 g s rest2 from Blk.kept HMr.out O1.out hgr (by decide)); replace HWr := Lib.hid (bw_grownN HBB.out HWr.out O1.out hgr); replace O1 := Lib.hid hown; clear hown hgr)
      go_roundg (n - (k + 1))
      case measure => omega
      case rel => exact ⟨k + 1, by omega, by omega, by go_num, HWr, HMr, Lib.hid (by rw [HLN.out]; exact O1.out)⟩
    · have hltz : ¬ (k : Int) < (n : Int) := by omega
      obtain rfl : k = n := by omega
      go_wp2
      go_ret
      have hLk : L k = (ordL hs).map fun x => x 0 := by rw [← HEQ.out, ← HAL.out, ← HL.out]
      have ho := O1.out
      rw [hLk, ← HBB.out] at ho
      have hlen : ((ordL hs).map fun x => x 0).length ≤ 9223372036854775807 := by rw [← hLk, ← HL.out]; exact Nat.le_trans (HTL.out k) (by omega)
      exact ⟨⟨_, rfl, (own_rd ho hlen).1, (own_rd ho hlen).2⟩, HWr.out⟩
end Go.Proofs.Sky

namespace Go.Proofs.Sky
open Go Go.RowKit Go.Shelf
/-! chapter 40: Order on few hints -/
theorem order_small (hs : List (Nat → Int)) (v : Value) (w : World) (hv : RdH w v hs) (h0 : 0 < hs.length) (hl : hs.length < 20) : Calls Tryd.prog 10 #[v] w fun e w' => OrdQ w.heap.size hs e w' ∧ Bw w w' :=
  order_any hs v w hv h0 (by omega) (fun cur rest g c W hm hle => sortSmall_any cur rest g c W hm (by omega))
def hnL (a b c d e f : Int) : Nat → Int := fun i => if i = 0 then a else if i = 1 then b else if i = 2 then c else if i = 3 then d else if i = 4 then e else if i = 5 then f else 0
theorem ord_known : (ordL [hnL 5 0 0 0 0 10, hnL 3 1 0 0 0 1000, hnL 4 (-1) 0 0 0 0, hnL 2 0 0 0 0 9]).map (fun x => x 0) = [3, 2, 5] := by decide
end Go.Proofs.Sky

namespace Go.Proofs.Sky
open Go Go.RowKit Go.Shelf
attribute [local go_sem] Oper.semAt_some
set_option maxHeartbeats 4000000
set_option maxRecDepth 8000
/-! chapter 40: WarmKnown -/
theorem k1_ok : prE (X0p plX4 6400000 0 0 1000000 1000 0 300000 1000) = 0 := by kernel_rfl
theorem k1_s : sK40 (pr3 (X0p plX4 6400000 0 0 1000000 1000 0 300000 1000)) 3 = 368640000000000 := by kernel_rfl
theorem k1_h : hV (pr4 (X0p plX4 6400000 0 0 1000000 1000 0 300000 1000) 19200000) = #[.int .i64 3, .int .i64 1, .int .i64 18199998, .int .i64 20200003, .int .i64 707, .int .i64 1000] := by kernel_rfl
theorem k2_ok : prE (X0p plX4 0 6400000 0 0 1000 0 0 1000) = 0 := by kernel_rfl
theorem k2_s : sK40 (pr3 (X0p plX4 0 6400000 0 0 1000 0 0 1000)) 3 = 696320000000000 := by kernel_rfl
theorem k2_h : ∃ n f l m, hV (pr4 (X0p plX4 0 6400000 0 0 1000 0 0 1000) 26387876) = #[.int .i64 3, .int .i64 (-1), .int .i64 n, .int .i64 f, .int .i64 l, .int .i64 m] := ⟨(pr4 (X0p plX4 0 6400000 0 0 1000 0 0 1000) 26387876) 28, (pr4 (X0p plX4 0 6400000 0 0 1000 0 0 1000) 26387876) 29, (pr4 (X0p plX4 0 6400000 0 0 1000 0 0 1000) 26387876) 30, (pr4 (X0p plX4 0 6400000 0 0 1000 0 0 1000) 26387876) 31, by
  unfold hV
  rw [show pr4 (X0p plX4 0 6400000 0 0 1000 0 0 1000) 26387876 26 = 3 by kernel_rfl, show pr4 (X0p plX4 0 6400000 0 0 1000 0 0 1000) 26387876 27 = -1 by kernel_rfl]⟩
theorem k3_ok : prE (X0p plX4 0 0 0 0 1000 0 0 1000) = 0 := by kernel_rfl
theorem k3_s : sK40 (pr3 (X0p plX4 0 0 0 0 1000 0 0 1000)) 3 = 655360000000000 := by kernel_rfl
theorem k3_h : ∃ n f l m, hV (pr4 (X0p plX4 0 0 0 0 1000 0 0 1000) 25600000) = #[.int .i64 3, .int .i64 0, .int .i64 n, .int .i64 f, .int .i64 l, .int .i64 m] := ⟨(pr4 (X0p plX4 0 0 0 0 1000 0 0 1000) 25600000) 28, (pr4 (X0p plX4 0 0 0 0 1000 0 0 1000) 25600000) 29, (pr4 (X0p plX4 0 0 0 0 1000 0 0 1000) 25600000) 30, (pr4 (X0p plX4 0 0 0 0 1000 0 0 1000) 25600000) 31, by
  unfold hV
  rw [show pr4 (X0p plX4 0 0 0 0 1000 0 0 1000) 25600000 26 = 3 by kernel_rfl, show pr4 (X0p plX4 0 0 0 0 1000 0 0 1000) 25600000 27 = 0 by kernel_rfl]⟩
theorem k4_e : prE (X0p plX4 6400000 0 0 0 15401 0 0 1000) = 17 := by kernel_rfl
theorem k5_e : prE (X0p plX4 100000001 0 0 0 15401 0 0 1000) = 2 := by kernel_rfl
theorem rdH_known (w : World) : RdH (w.alloc (.cells #[.int .i64 5, .int .i64 0, .int .i64 0, .int .i64 0, .int .i64 0, .int .i64 10, .int .i64 3, .int .i64 1, .int .i64 0, .int .i64 0, .int .i64 0, .int .i64 1000, .int .i64 4, .int .i64 (-1), .int .i64 0, .int .i64 0, .int .i64 0, .int .i64 0, .int .i64 2, .int .i64 0, .int .i64 0, .int .i64 0, .int .i64 0, .int .i64 9] 23)) (.slice (some ⟨w.heap.size, 0, none⟩) 4 4) [hnL 5 0 0 0 0 10, hnL 3 1 0 0 0 1000, hnL 4 (-1) 0 0 0 0, hnL 2 0 0 0 0 9] := by
  have h : MemH (w.alloc (.cells #[.int .i64 5, .int .i64 0, .int .i64 0, .int .i64 0, .int .i64 0, .int .i64 10, .int .i64 3, .int .i64 1, .int .i64 0, .int .i64 0, .int .i64 0, .int .i64 1000, .int .i64 4, .int .i64 (-1), .int .i64 0, .int .i64 0, .int .i64 0, .int .i64 0, .int .i64 2, .int .i64 0, .int .i64 0, .int .i64 0, .int .i64 0, .int .i64 9] 23)) w.heap.size [hnL 5 0 0 0 0 10, hnL 3 1 0 0 0 1000, hnL 4 (-1) 0 0 0 0, hnL 2 0 0 0 0 9] [] := Blk.new w 23 #[.int .i64 5, .int .i64 0, .int .i64 0, .int .i64 0, .int .i64 0, .int .i64 10, .int .i64 3, .int .i64 1, .int .i64 0, .int .i64 0, .int .i64 0, .int .i64 1000, .int .i64 4, .int .i64 (-1), .int .i64 0, .int .i64 0, .int .i64 0, .int .i64 0, .int .i64 2, .int .i64 0, .int .i64 0, .int .i64 0, .int .i64 0, .int .i64 9]
  exact h.rdH (c := 4) (by decide)
theorem rdG_known (w : World) : RdG (w.alloc (.cells (pgV plX4) 29)) (.slice (some ⟨w.heap.size, 0, none⟩) 1 1) [plX4] := by
  refine ⟨by decide, _, _, rfl, .inr ⟨w.heap.size, 0, rfl, by simp, fun i x hi => ?_⟩⟩
  cases i with
  | zero =>
    simp at hi
    subst hi
    exact blk_rg (cs := pgc plX4) (Blk.new w 29 (pgV plX4))
  | succ i => simp at hi
theorem law_known40 (w : World) (hw : WdAt w) : Calls Tryd.prog 3 #[] w fun e w' => e = .returned (.bool true) ∧ Bw w w' := by
  have HWD := Lib.hid hw
  have AW := Lib.hid (fun W h => awake40_any W h)
  have PLN := Lib.hid (fun W => plain40_any W)
  have AT := Lib.hid (fun x W => at40_any x W)
  have P1 := Lib.hid (fun W h => Predict_ok plX4 6400000 0 0 1000000 1000 0 300000 1000 19200000 W h k1_ok (fun k hk => by match k, hk with | 0, _ | 1, _ | 2, _ => decide) (by decide) (by rw [k1_s]; decide) (by rw [k1_s]; decide))
  rw [k1_h] at P1
  have P2 := Lib.hid (fun W h => Predict_ok plX4 0 6400000 0 0 1000 0 0 1000 26387876 W h k2_ok (fun k hk => by match k, hk with | 0, _ | 1, _ | 2, _ => decide) (by decide) (by rw [k2_s]; decide) (by rw [k2_s]; decide))
  obtain ⟨n2, f2, l2, m2, h2⟩ := k2_h
  rw [h2] at P2
  clear h2
  have P3 := Lib.hid (fun W h => Predict_ok plX4 0 0 0 0 1000 0 0 1000 25600000 W h k3_ok (fun k hk => by match k, hk with | 0, _ | 1, _ | 2, _ => decide) (by decide) (by rw [k3_s]; decide) (by rw [k3_s]; decide))
  obtain ⟨n3, f3, l3, m3, h3⟩ := k3_h
  rw [h3] at P3
  clear h3
  have P4 := Lib.hid (fun W h => Predict_err plX4 6400000 0 0 0 15401 0 0 1000 W h (by rw [k4_e]; decide) (fun k hk => by match k, hk with | 0, _ | 1, _ | 2, _ => decide))
  rw [k4_e] at P4
  have P5 := Lib.hid (fun W h => Predict_err plX4 100000001 0 0 0 15401 0 0 1000 W h (by rw [k5_e]; decide) (fun k hk => by match k, hk with | 0, _ | 1, _ | 2, _ => decide))
  rw [k5_e] at P5
  have F1 := Lib.hid (fun W => Fits_ok 0 0 0 0 998 3 1 1000 W (by decide) (by decide) (by decide) (by decide))
  rw [show decide (((1 : Int) - 998 + 1000) % 1000 < 3) = false from by decide] at F1
  have F2 := Lib.hid (fun W => Fits_ok 0 0 0 0 998 3 997 1000 W (by decide) (by decide) (by decide) (by decide))
  rw [show decide (((997 : Int) - 998 + 1000) % 1000 < 3) = false from by decide] at F2
  have F3 := Lib.hid (fun W => Fits_bad 0 0 0 0 998 3 1000 1000 W (by decide))
  have HO := Lib.hid (fun W => order_small [hnL 5 0 0 0 0 10, hnL 3 1 0 0 0 1000, hnL 4 (-1) 0 0 0 0, hnL 2 0 0 0 0 9] _ (World.alloc W (.cells #[.int .i64 5, .int .i64 0, .int .i64 0, .int .i64 0, .int .i64 0, .int .i64 10, .int .i64 3, .int .i64 1, .int .i64 0, .int .i64 0, .int .i64 0, .int .i64 1000, .int .i64 4, .int .i64 (-1), .int .i64 0, .int .i64 0, .int .i64 0, .int .i64 0, .int .i64 2, .int .i64 0, .int .i64 0, .int .i64 0, .int .i64 0, .int .i64 9] 23)) (rdH_known W) (by decide) (by decide))
  unfold OrdQ at HO
  rw [ord_known] at HO
  have AO := Lib.hid (fun v W hv h => all_old v W hv h)
  have AN := Lib.hid (fun W h => all_nil W h)
  have HVG := Lib.hid (fun W => rdG_known W)
  have AKI := Lib.hid (fun va vb W h1 h2 => alike_same [3, 2, 5] va vb W h1 h2)
  have HBO := Lib.hid (fun (W : World) => (show RdI (W.alloc (.cells #[.int .i64 3, .int .i64 2, .int .i64 5] 3)) (.slice (some ⟨W.heap.size, 0, none⟩) 3 3) [3, 2, 5] from RdI.lit W #[.int .i64 3, .int .i64 2, .int .i64 5] 3 [3, 2, 5] rfl (by decide)))
  have hq2 := fun a b c d e f W => eqH_self a b c d e f W
  have hgg := fun W a b op p q => eqH_guard a b op p q W
  clear hw
  obtain ⟨A, hA⟩ : ∃ A, A = pgV plX4 := ⟨_, rfl⟩
  rw [← hA] at PLN P1 P2 P3 P4 P5 HVG
  have HAL := Lib.hid (show A = #[.int .i64 3, .int .i64 1000, .int .i64 0, .int .i64 0, .int .i64 400000, .int .i64 0, .int .i64 0, .int .i64 0, .int .i64 0, .int .i64 0, .int .i64 0, .int .i64 0, .int .i64 0] from hA.trans (by kernel_rfl))
  clear hA
  have HW := Lib.hid (Bw.refl w)
  have HZ6 := Lib.hid (fun (W : World) => Blk.new W 23 #[.int .i64 0, .int .i64 0, .int .i64 0, .int .i64 0, .int .i64 0, .int .i64 0])
  go_enter Tryd.func3, Tryd.ntmps3
  go_upto_region 2 with (first | (go_at_call 8; (with_reducible refine Calls.mono (PLN.out _) ?_); rintro e1 w1 ⟨rfl, hb1⟩; replace HW := Lib.hid (HW.out.trans hb1); clear hb1) | (go_at_call 9; (with_reducible refine Calls.mono (AT.out _ _) ?_); rintro e1 w1 ⟨rfl, hb1⟩; replace HW := Lib.hid (HW.out.trans hb1); clear hb1) | (go_at_call 7; (with_reducible refine Calls.mono (P1.out _ (HWD.out.bw HW.out)) ?_); rintro e1 w1 ⟨rfl, hb1⟩; replace HW := Lib.hid (HW.out.trans hb1); clear hb1) | ((with_reducible refine at_store 23 (.tmp 1) (.tmp 19) ?_); refine wpList_store_row rfl 23 (.tmp 1) (.tmp 19) rfl w1.heap.size #[.int .i64 3, .int .i64 1, .int .i64 18199998, .int .i64 20200003, .int .i64 707, .int .i64 1000] rfl rfl 23 #[.int .i64 0, .int .i64 0, .int .i64 0, .int .i64 0, .int .i64 0, .int .i64 0] (HZ6.out w1) (by kernel_rfl) rfl (by simp [Value.oneCell']) ?_))
  obtain ⟨g1, hg9⟩ : ∃ g, w1.heap.size = g := ⟨_, rfl⟩
  have hb2 := Bw.setRow (Bw.alloc (Bw.refl w1) (.cells #[.int .i64 0, .int .i64 0, .int .i64 0, .int .i64 0, .int .i64 0, .int .i64 0] 23)) (Nat.le_of_eq hg9) #[.int .i64 3, .int .i64 1, .int .i64 18199998, .int .i64 20200003, .int .i64 707, .int .i64 1000]
  have K1 := Lib.hid ((HZ6.out w1).row #[.int .i64 3, .int .i64 1, .int .i64 18199998, .int .i64 20200003, .int .i64 707, .int .i64 1000])
  rw [hg9] at K1 ⊢
  replace HW := Lib.hid (HW.out.trans hb2)
  generalize World.setRow (World.alloc w1 _) _ _ = w1 at *
  clear hb2 hg9 P1
  (try simp only [Act.put])
  go_upto_region 3 with (first | (go_at_call 8; (with_reducible refine Calls.mono (PLN.out _) ?_); rintro e1 w1 ⟨rfl, hb1⟩; replace HW := Lib.hid (HW.out.trans hb1); replace K1 := Lib.hid (K1.out.bw hb1); clear hb1) | (go_at_call 9; (with_reducible refine Calls.mono (AT.out _ _) ?_); rintro e1 w1 ⟨rfl, hb1⟩; replace HW := Lib.hid (HW.out.trans hb1); replace K1 := Lib.hid (K1.out.bw hb1); clear hb1) | (go_at_call 7; (with_reducible refine Calls.mono (P2.out _ (HWD.out.bw HW.out)) ?_); rintro e1 w1 ⟨rfl, hb1⟩; replace HW := Lib.hid (HW.out.trans hb1); replace K1 := Lib.hid (K1.out.bw hb1); clear hb1) | ((with_reducible refine at_store 23 (.tmp 3) (.tmp 25) ?_); refine wpList_store_row rfl 23 (.tmp 3) (.tmp 25) rfl w1.heap.size #[.int .i64 3, .int .i64 (-1), .int .i64 n2, .int .i64 f2, .int .i64 l2, .int .i64 m2] rfl rfl 23 #[.int .i64 0, .int .i64 0, .int .i64 0, .int .i64 0, .int .i64 0, .int .i64 0] (HZ6.out w1) (by kernel_rfl) rfl (by simp [Value.oneCell']) ?_))
  obtain ⟨g3, hg9⟩ : ∃ g, w1.heap.size = g := ⟨_, rfl⟩
  have hb2 := Bw.setRow (Bw.alloc (Bw.refl w1) (.cells #[.int .i64 0, .int .i64 0, .int .i64 0, .int .i64 0, .int .i64 0, .int .i64 0] 23)) (Nat.le_of_eq hg9) #[.int .i64 3, .int .i64 (-1), .int .i64 n2, .int .i64 f2, .int .i64 l2, .int .i64 m2]
  have K3 := Lib.hid ((HZ6.out w1).row #[.int .i64 3, .int .i64 (-1), .int .i64 n2, .int .i64 f2, .int .i64 l2, .int .i64 m2])
  rw [hg9] at K3 ⊢
  replace HW := Lib.hid (HW.out.trans hb2)
  replace K1 := Lib.hid (K1.out.bw hb2)
  generalize World.setRow (World.alloc w1 _) _ _ = w1 at *
  clear hb2 hg9 P2
  (try simp only [Act.put])
  go_upto_region 4 with (first | (go_at_call 8; (with_reducible refine Calls.mono (PLN.out _) ?_); rintro e1 w1 ⟨rfl, hb1⟩; replace HW := Lib.hid (HW.out.trans hb1); replace K1 := Lib.hid (K1.out.bw hb1); replace K3 := Lib.hid (K3.out.bw hb1); clear hb1) | (go_at_call 9; (with_reducible refine Calls.mono (AT.out _ _) ?_); rintro e1 w1 ⟨rfl, hb1⟩; replace HW := Lib.hid (HW.out.trans hb1); replace K1 := Lib.hid (K1.out.bw hb1); replace K3 := Lib.hid (K3.out.bw hb1); clear hb1) | (go_at_call 7; (with_reducible refine Calls.mono (P3.out _ (HWD.out.bw HW.out)) ?_); rintro e1 w1 ⟨rfl, hb1⟩; replace HW := Lib.hid (HW.out.trans hb1); replace K1 := Lib.hid (K1.out.bw hb1); replace K3 := Lib.hid (K3.out.bw hb1); clear hb1) | ((with_reducible refine at_store 23 (.tmp 5) (.tmp 31) ?_); refine wpList_store_row rfl 23 (.tmp 5) (.tmp 31) rfl w1.heap.size #[.int .i64 3, .int .i64 0, .int .i64 n3, .int .i64 f3, .int .i64 l3, .int .i64 m3] rfl rfl 23 #[.int .i64 0, .int .i64 0, .int .i64 0, .int .i64 0, .int .i64 0, .int .i64 0] (HZ6.out w1) (by kernel_rfl) rfl (by simp [Value.oneCell']) ?_))
  obtain ⟨g5, hg9⟩ : ∃ g, w1.heap.size = g := ⟨_, rfl⟩
  have hb2 := Bw.setRow (Bw.alloc (Bw.refl w1) (.cells #[.int .i64 0, .int .i64 0, .int .i64 0, .int .i64 0, .int .i64 0, .int .i64 0] 23)) (Nat.le_of_eq hg9) #[.int .i64 3, .int .i64 0, .int .i64 n3, .int .i64 f3, .int .i64 l3, .int .i64 m3]
  have K5 := Lib.hid ((HZ6.out w1).row #[.int .i64 3, .int .i64 0, .int .i64 n3, .int .i64 f3, .int .i64 l3, .int .i64 m3])
  rw [hg9] at K5 ⊢
  replace HW := Lib.hid (HW.out.trans hb2)
  replace K1 := Lib.hid (K1.out.bw hb2)
  replace K3 := Lib.hid (K3.out.bw hb2)
  generalize World.setRow (World.alloc w1 _) _ _ = w1 at *
  clear hb2 hg9 P3
  (try simp only [Act.put])
  go_upto_region 5 with (first | (go_at_call 8; (with_reducible refine Calls.mono (PLN.out _) ?_); rintro e1 w1 ⟨rfl, hb1⟩; replace HW := Lib.hid (HW.out.trans hb1); replace K1 := Lib.hid (K1.out.bw hb1); replace K3 := Lib.hid (K3.out.bw hb1); replace K5 := Lib.hid (K5.out.bw hb1); clear hb1) | (go_at_call 9; (with_reducible refine Calls.mono (AT.out _ _) ?_); rintro e1 w1 ⟨rfl, hb1⟩; replace HW := Lib.hid (HW.out.trans hb1); replace K1 := Lib.hid (K1.out.bw hb1); replace K3 := Lib.hid (K3.out.bw hb1); replace K5 := Lib.hid (K5.out.bw hb1); clear hb1) | (go_at_call 7; (with_reducible refine Calls.mono (P4.out _ (HWD.out.bw HW.out)) ?_); rintro e1 w1 ⟨rfl, hb1⟩; replace HW := Lib.hid (HW.out.trans hb1); replace K1 := Lib.hid (K1.out.bw hb1); replace K3 := Lib.hid (K3.out.bw hb1); replace K5 := Lib.hid (K5.out.bw hb1); clear hb1) | ((with_reducible refine at_store 23 (.tmp 7) (.tmp 37) ?_); refine wpList_store_row rfl 23 (.tmp 7) (.tmp 37) rfl w1.heap.size #[.int .i64 0, .int .i64 0, .int .i64 0, .int .i64 0, .int .i64 0, .int .i64 0] rfl rfl 23 #[.int .i64 0, .int .i64 0, .int .i64 0, .int .i64 0, .int .i64 0, .int .i64 0] (HZ6.out w1) (by kernel_rfl) rfl (by simp [Value.oneCell']) ?_))
  obtain ⟨g7, hg9⟩ : ∃ g, w1.heap.size = g := ⟨_, rfl⟩
  have hb2 := Bw.setRow (Bw.alloc (Bw.refl w1) (.cells #[.int .i64 0, .int .i64 0, .int .i64 0, .int .i64 0, .int .i64 0, .int .i64 0] 23)) (Nat.le_of_eq hg9) #[.int .i64 0, .int .i64 0, .int .i64 0, .int .i64 0, .int .i64 0, .int .i64 0]
  have K7 := Lib.hid ((HZ6.out w1).row #[.int .i64 0, .int .i64 0, .int .i64 0, .int .i64 0, .int .i64 0, .int .i64 0])
  rw [hg9] at K7 ⊢
  replace HW := Lib.hid (HW.out.trans hb2)
  replace K1 := Lib.hid (K1.out.bw hb2)
  replace K3 := Lib.hid (K3.out.bw hb2)
  replace K5 := Lib.hid (K5.out.bw hb2)
  generalize World.setRow (World.alloc w1 _) _ _ = w1 at *
  clear hb2 hg9 P4
  (try simp only [Act.put])
  clear K7
  go_upto_region 6 with (first | (go_at_call 8; (with_reducible refine Calls.mono (PLN.out _) ?_); rintro e1 w1 ⟨rfl, hb1⟩; replace HW := Lib.hid (HW.out.trans hb1); replace K1 := Lib.hid (K1.out.bw hb1); replace K3 := Lib.hid (K3.out.bw hb1); replace K5 := Lib.hid (K5.out.bw hb1); clear hb1) | (go_at_call 9; (with_reducible refine Calls.mono (AT.out _ _) ?_); rintro e1 w1 ⟨rfl, hb1⟩; replace HW := Lib.hid (HW.out.trans hb1); replace K1 := Lib.hid (K1.out.bw hb1); replace K3 := Lib.hid (K3.out.bw hb1); replace K5 := Lib.hid (K5.out.bw hb1); clear hb1) | (go_at_call 7; (with_reducible refine Calls.mono (P5.out _ (HWD.out.bw HW.out)) ?_); rintro e1 w1 ⟨rfl, hb1⟩; replace HW := Lib.hid (HW.out.trans hb1); replace K1 := Lib.hid (K1.out.bw hb1); replace K3 := Lib.hid (K3.out.bw hb1); replace K5 := Lib.hid (K5.out.bw hb1); clear hb1) | ((with_reducible refine at_store 23 (.tmp 9) (.tmp 43) ?_); refine wpList_store_row rfl 23 (.tmp 9) (.tmp 43) rfl w1.heap.size #[.int .i64 0, .int .i64 0, .int .i64 0, .int .i64 0, .int .i64 0, .int .i64 0] rfl rfl 23 #[.int .i64 0, .int .i64 0, .int .i64 0, .int .i64 0, .int .i64 0, .int .i64 0] (HZ6.out w1) (by kernel_rfl) rfl (by simp [Value.oneCell']) ?_))
  obtain ⟨g9, hg9⟩ : ∃ g, w1.heap.size = g := ⟨_, rfl⟩
  have hb2 := Bw.setRow (Bw.alloc (Bw.refl w1) (.cells #[.int .i64 0, .int .i64 0, .int .i64 0, .int .i64 0, .int .i64 0, .int .i64 0] 23)) (Nat.le_of_eq hg9) #[.int .i64 0, .int .i64 0, .int .i64 0, .int .i64 0, .int .i64 0, .int .i64 0]
  have K9 := Lib.hid ((HZ6.out w1).row #[.int .i64 0, .int .i64 0, .int .i64 0, .int .i64 0, .int .i64 0, .int .i64 0])
  rw [hg9] at K9 ⊢
  replace HW := Lib.hid (HW.out.trans hb2)
  replace K1 := Lib.hid (K1.out.bw hb2)
  replace K3 := Lib.hid (K3.out.bw hb2)
  replace K5 := Lib.hid (K5.out.bw hb2)
  generalize World.setRow (World.alloc w1 _) _ _ = w1 at *
  clear hb2 hg9 P5
  (try simp only [Act.put])
  clear K9
  have d3 := K3.out.cell (show (#[.int .i64 3, .int .i64 (-1), .int .i64 n2, .int .i64 f2, .int .i64 l2, .int .i64 m2] : Array Value)[1]? = some (.int .i64 (-1)) from rfl)
  have d5 := K5.out.cell (show (#[.int .i64 3, .int .i64 0, .int .i64 n3, .int .i64 f3, .int .i64 l3, .int .i64 m3] : Array Value)[1]? = some (.int .i64 0) from rfl)
  go_upto_region 8 with ((with_reducible refine at_load 23 (.tmp 1) ?_); refine wpList_load_row rfl 23 _ rfl g1 rfl 23 #[.int .i64 3, .int .i64 1, .int .i64 18199998, .int .i64 20200003, .int .i64 707, .int .i64 1000] (0, 0) _ K1.out Tryd.underlying23 rfl (by kernel_rfl) ?_)
  clear d3 d5 K1 K3 K5 hq2 hgg HZ6
  go_upto_region 9 with (go_at_call 10; (with_reducible refine Calls.mono (HO.out _) ?_); rintro e1 w9 ⟨⟨v11, rfl, hr, _⟩, hb1⟩; have V11 := Lib.hid hr; replace HW := Lib.hid (HW.out.trans ((Bw.alloc (Bw.refl _) _).trans hb1)); clear hr hb1)
  clear HO
  obtain ⟨w1, hw1⟩ : ∃ w1, w1 = w9 := ⟨_, rfl⟩
  subst hw1
  go_upto_region 10 with (go_at_call 11; (with_reducible refine Calls.mono (F1.out _) ?_); rintro e1 w1 ⟨rfl, hb1⟩; replace HW := Lib.hid (HW.out.trans hb1); replace V11 := Lib.hid (V11.out.mono hb1); clear hb1)
  clear F1
  go_upto_region 11 with (go_at_call 11; (with_reducible refine Calls.mono (F2.out _) ?_); rintro e1 w1 ⟨rfl, hb1⟩; replace HW := Lib.hid (HW.out.trans hb1); replace V11 := Lib.hid (V11.out.mono hb1); clear hb1)
  clear F2
  go_upto_region 12 with (go_at_call 11; (with_reducible refine Calls.mono (F3.out _) ?_); rintro e1 w1 ⟨rfl, hb1⟩; replace HW := Lib.hid (HW.out.trans hb1); replace V11 := Lib.hid (V11.out.mono hb1); clear hb1)
  clear F3
  have hA2 := HAL.out
  subst hA2
  go_upto_region 13 with (first | (go_at_call 8; (with_reducible refine Calls.mono (PLN.out _) ?_); rintro e1 w1 ⟨rfl, hb1⟩; replace HW := Lib.hid (HW.out.trans hb1); replace V11 := Lib.hid (V11.out.mono hb1); clear hb1) | (go_at_call 9; (with_reducible refine Calls.mono (AT.out _ _) ?_); rintro e1 w2 ⟨rfl, hb1⟩; have HV := Lib.hid ((HVG.out w1).mono hb1); have hb3 := (Bw.alloc (Bw.refl w1) (.cells #[.int .i64 3, .int .i64 1000, .int .i64 0, .int .i64 0, .int .i64 400000, .int .i64 0, .int .i64 0, .int .i64 0, .int .i64 0, .int .i64 0, .int .i64 0, .int .i64 0, .int .i64 0] 29)).trans hb1; replace HW := Lib.hid (HW.out.trans hb3); replace V11 := Lib.hid (V11.out.mono hb3); clear hb1 hb3) | (go_at_call 12; (with_reducible refine Calls.mono (AO.out _ _ HV.out (HWD.out.bw HW.out)) ?_); rintro e1 w3 ⟨rfl, hb1⟩; replace HW := Lib.hid (HW.out.trans hb1); replace V11 := Lib.hid (V11.out.mono hb1); clear hb1 HV))
  clear AO
  go_upto_region 14 with (first | (go_at_call 9; (with_reducible refine Calls.mono (AT.out _ _) ?_); rintro e1 w4 ⟨rfl, hb1⟩; replace HW := Lib.hid (HW.out.trans hb1); replace V11 := Lib.hid (V11.out.mono hb1); clear hb1) | (go_at_call 12; (with_reducible refine Calls.mono (AN.out _ (HWD.out.bw HW.out)) ?_); rintro e1 w5 ⟨rfl, hb1⟩; replace HW := Lib.hid (HW.out.trans hb1); replace V11 := Lib.hid (V11.out.mono hb1); clear hb1))
  clear AN AT PLN
  obtain ⟨a11, c11, rfl⟩ := V11.out.form
  rw [show ([3, 2, 5] : List Int).length = 3 from rfl] at V11 ⊢
  have hb0 := Bw.alloc (Bw.refl w5) (.cells #[.int .i64 3, .int .i64 2, .int .i64 5] 3)
  replace V11 := Lib.hid (V11.out.mono hb0)
  replace HW := Lib.hid (HW.out.trans hb0)
  have VB := Lib.hid (HBO.out w5)
  clear hb0
  go_wp2_with (first | (go_at_call 13; (with_reducible refine Calls.mono (AKI.out _ _ _ V11.out VB.out) ?_); rintro e1 w6 ⟨rfl, hb1⟩; replace HW := Lib.hid (HW.out.trans hb1); clear hb1) | (go_at_call 14; (with_reducible refine Calls.mono (AW.out _ (HWD.out.bw HW.out)) ?_); rintro e1 w7 ⟨rfl, hb1⟩; replace HW := Lib.hid (HW.out.trans hb1); clear hb1))
  go_ret
  exact ⟨rfl, HW.out⟩
end Go.Proofs.Sky
