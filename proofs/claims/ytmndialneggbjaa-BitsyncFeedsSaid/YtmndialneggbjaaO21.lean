/-
  lemmas for the theorems of this claim. No conditions beyond those written in the statements.
-/
import Derived.Test.YtmndialneggbjaaL21
import Derived.Test.YtmndialneggbjaaN21
set_option linter.unusedVariables false
set_option linter.unusedSimpArgs false
set_option linter.unnecessarySimpa false
namespace Go.Proofs.Sky
open Go Go.RowKit Go.Shelf
set_option maxHeartbeats 4000000
set_option maxRecDepth 4000
theorem law_known (w : World) : Calls Try.prog 4 #[] w fun r w' => r = .returned (.bool true) ∧ Bw w w' := by
  have HBW := Lib.hid (Bw.refl w)
  have NW1 := Lib.hid (fun W => New_bad 0 W (by decide))
  have NW2 := Lib.hid (fun W => by have h := New_ok 2 W (by decide) (by decide); unfold SyP at h; exact h)
  have ED3 := Lib.hid (fun W V hW => by have h := Edge_any [0, 0] V 0 0 0 1 W hW; rw [show edgeR [0, 0] 0 (0, 0) 1 = (0, 18) by decide] at h; unfold EdP at h; exact h)
  have ED4 := Lib.hid (fun W V hW => by have h := Edge_any [0, 0] V 0 0 0 0 W hW; rw [show edgeR [0, 0] 0 (0, 0) 0 = (0, 2) by decide] at h; unfold EdP at h; exact h)
  have ED6 := Lib.hid (fun W V hW => by have h := Edge_any [2, 0] V 5 1 0 1 W hW; rw [show edgeR [2, 0] 5 (1, 0) 1 = (0, 0) by decide] at h; unfold EdP at h; exact h)
  have ED7 := Lib.hid (fun W V hW => by have h := Edge_any [2, 0] V 5 1 0 2 W hW; rw [show edgeR [2, 0] 5 (1, 0) 2 = (0, 0) by decide] at h; unfold EdP at h; exact h)
  have ED8 := Lib.hid (fun W V hW => by have h := Edge_any [2, 0] V 5 1 0 3 W hW; rw [show edgeR [2, 0] 5 (1, 0) 3 = (0, 18) by decide] at h; unfold EdP at h; exact h)
  have ED9 := Lib.hid (fun W V hW => by have h := Edge_any [2, 1] V 5 0 0 1 W hW; rw [show edgeR [2, 1] 5 (0, 0) 1 = (0, 13) by decide] at h; unfold EdP at h; exact h)
  have RL10 := Lib.hid (fun W V hW => real_any [1, 1, -1, -1, 1] V W hW (by decide))
  have RD11 := Lib.hid (fun W vl (h1 : RdS W vl (reL [1, 1, -1, -1, 1])) (h2 : Capd vl) => by have h := Read_any (reL [1, 1, -1, -1, 1]) vl 2 1 W h1 h2 (by decide); rw [show readR (reL [1, 1, -1, -1, 1]) 2 1 = ([0, 0], 0) by decide] at h; unfold ReP at h; exact h)
  have RL12 := Lib.hid (fun W V hW => real_any [1, 1, -1, -1, 1] V W hW (by decide))
  have VL13 := Lib.hid (fun W vl (h1 : RdS W vl (reL [1, 1, -1, -1, 1])) (h2 : Capd vl) => by have h := Values_any (reL [1, 1, -1, -1, 1]) vl 2 0 W h1 h2 (by decide); rw [show valR (reL [1, 1, -1, -1, 1]) 2 0 = ([(2, 0), (-2, 0)], 0) by decide] at h; unfold VaP at h; exact h)
  have RL14 := Lib.hid (fun W V hW => real_any [1] V W hW (by decide))
  have RD15 := Lib.hid (fun W vl (h1 : RdS W vl (reL [1])) (h2 : Capd vl) => by have h := Read_any (reL [1]) vl 2 0 W h1 h2 (by decide); rw [show readR (reL [1]) 2 0 = ([], 16) by decide] at h; unfold ReP at h; exact h)
  have RL18 := Lib.hid (fun W V hW => real_any [2, -2] V W hW (by decide))
  have HFD := Lib.hid (fun W V vl (h1 : RdI W V [0, 0]) (h2 : RdS W vl (reL [1, 1, -1, -1, 1])) => by
    have h := Feed_any [0, 0] V 0 0 0 (reL [1, 1, -1, -1, 1]) vl W h1 h2
    rw [show feedR [0, 0] 0 (0, 0) (reL [1, 1, -1, -1, 1]) = (([2, 0], 5, (1, 0)), 0) by decide] at h
    unfold SyP at h
    exact h)
  go_enter Try.func4, Try.ntmps4
  go_upto_region 3 with (first | (go_at_call 16; (with_reducible refine Calls.mono (NW1.out _) ?_); rintro e1 u1 ⟨rfl, hb1⟩; have hbt : Bw w u1 := (by repeat (first | exact Bw.refl _ | assumption | refine Bw.alloc ?_ _ | refine Bw.drew ?_ | refine Bw.trans ?_ (by assumption) | refine Bw.setCell ?_ (by simp; try omega) _)); replace HBW := Lib.hid (HBW.out.trans hbt); (try clear hz); clear hb1 hbt NW1) | (go_at_call 16; (with_reducible refine Calls.mono (NW2.out _) ?_); rintro e1 u2 ⟨⟨v2, rfl, hr2, _⟩, hb2⟩; obtain ⟨a1, c1, rfl⟩ := hr2.form; have R1 := Lib.hid (show RdI u2 (.slice a1 2 c1) [0, 0] from hr2); have hbt : Bw u1 u2 := (by repeat (first | exact Bw.refl _ | assumption | refine Bw.alloc ?_ _ | refine Bw.drew ?_ | refine Bw.trans ?_ (by assumption) | refine Bw.setCell ?_ (by simp; try omega) _)); replace HBW := Lib.hid (HBW.out.trans hbt); clear hr2 hb2 hbt NW2))
  have BX := Lib.hid (Blk.new u2 36 #[.slice a1 2 c1, .int .i64 0, .int .i64 0, .int .i64 0])
  have hba := Bw.alloc (Bw.refl u2) (.cells #[.slice a1 2 c1, .int .i64 0, .int .i64 0, .int .i64 0] 36)
  replace R1 := Lib.hid (R1.out.mono hba)
  replace HBW := Lib.hid (HBW.out.trans hba)
  obtain ⟨g1, hg1⟩ : ∃ g1, u2.heap.size = g1 := ⟨_, rfl⟩
  rw [hg1] at BX ⊢
  clear hg1 hba
  generalize u2.alloc _ = u2 at BX HBW R1 ⊢
  have k0 : u2.cell? ⟨g1, 0, none⟩ = some (.slice a1 2 c1) := BX.out.cell rfl
  have k1 : u2.cell? ⟨g1, 1, none⟩ = some (.int .i64 0) := BX.out.cell rfl
  have k2 : u2.cell? ⟨g1, 2, none⟩ = some (.int .i64 0) := BX.out.cell rfl
  have k3 : u2.cell? ⟨g1, 3, none⟩ = some (.int .i64 0) := BX.out.cell rfl
  have hz := lt_of_cell k3
  have HB0 := Lib.hid (Bw.refl u2)
  go_upto_region 6 with (first | (go_at_call 17; (with_reducible refine Calls.mono (ED3.out _ _ ?_) ?_); (focus exact R1.out.mono (Bw.refl _)); rintro e1 u3 ⟨rfl, hb3⟩; have hbt : Bw u2 u3 := (by repeat (first | exact Bw.refl _ | assumption | refine Bw.alloc ?_ _ | refine Bw.drew ?_ | refine Bw.trans ?_ (by assumption) | refine Bw.setCell ?_ (by simp; try omega) _)); replace HBW := Lib.hid (HBW.out.trans hbt); replace BX := Lib.hid (BX.out.bw hbt); replace k0 := hbt.cell' k0; replace k1 := hbt.cell' k1; replace k2 := hbt.cell' k2; replace k3 := hbt.cell' k3; replace R1 := Lib.hid (R1.out.mono hbt); (try clear hz); have hz := lt_of_cell k3; clear hb3 hbt ED3) | (go_at_call 17; (with_reducible refine Calls.mono (ED4.out _ _ ?_) ?_); (focus exact R1.out.mono (by repeat (first | exact Bw.refl _ | assumption | refine Bw.alloc ?_ _ | refine Bw.drew ?_ | refine Bw.trans ?_ (by assumption) | refine Bw.setCell ?_ (by simp; try omega) _))); rintro e1 u4 ⟨rfl, hb4⟩; have hbt : Bw u3 u4 := (by repeat (first | exact Bw.refl _ | assumption | refine Bw.alloc ?_ _ | refine Bw.drew ?_ | refine Bw.trans ?_ (by assumption) | refine Bw.setCell ?_ (by simp; try omega) _)); replace HBW := Lib.hid (HBW.out.trans hbt); replace BX := Lib.hid (BX.out.bw hbt); replace k0 := hbt.cell' k0; replace k1 := hbt.cell' k1; replace k2 := hbt.cell' k2; replace k3 := hbt.cell' k3; replace R1 := Lib.hid (R1.out.mono hbt); (try clear hz); have hz := lt_of_cell k3; clear hb4 hbt ED4))
  clear k0 k1 k2 k3 hz HB0
  go_cut [10, 4] from 49 (fun s3 s4 wc => ∃ g3 a5 c5, s3 = .pointer (some ⟨g3, 0, none⟩) ∧ s4 = .int .i64 0 ∧ Hid (Bw u4 wc) ∧ Hid (Blk wc g3 36 #[.slice a5 2 c5, .int .i64 5, .int .i64 1, .int .i64 0]) ∧ Hid (RdI wc (.slice a5 2 c5) [2, 0]))
  case first =>
    refine wp_region_held_drew (S := Bw u4) (by kernel_rfl) (Bw.drew (Bw.refl _)) (fun hS => ?_)
    generalize World.drew _ = wd at hS ⊢
    refine take1 (i := 0) (some 50) rfl rfl (by kernel_rfl) (by kernel_rfl) (by kernel_rfl) (fun _ _ _ _ h => h) rfl hS ?_
    apply Exists.intro
    apply And.intro
    · intro W9 hW9; skip; exact run_load_row 36 _ rfl g1 rfl 36 _ _ (BX.out.bw hW9) Try.underlying36 rfl (by kernel_rfl)
    simp only [Act.put, List.setIfInBounds_toArray, List.set_cons_zero, List.set_cons_succ]
    refine wpAnyH_ready (rs := [1, 7]) (by kernel_rfl) (by simp) ?_
    refine AllReadyH.cons rfl (fun K hK => ?_) ?_
    go_simp
    have hba := Bw.alloc (Bw.refl wd) (.cells #[.int .i64 1, .int .i64 1, .int .i64 (-1), .int .i64 (-1), .int .i64 1] 3)
    have HL := Lib.hid (RdI.lit wd #[.int .i64 1, .int .i64 1, .int .i64 (-1), .int .i64 (-1), .int .i64 1] 3 [1, 1, -1, -1, 1] (by rfl) (by decide))
    refine hK.out _ _ (hS.trans hba) (fun hS => ?_)
    clear hK K
    clear hba
    generalize World.alloc wd _ = w13 at hS HL ⊢
    refine wpAnyH_ready (rs := [2, 7]) (by kernel_rfl) (by simp) ?_
    refine AllReadyH.cons rfl (fun K hK => ?_) ?_
    go_simp
    go_wp2_with (go_at_call 19; (with_reducible refine Calls.mono (real_any [1, 1, -1, -1, 1] _ _ ?_ (by decide)) ?_); (focus exact HL.out); rintro e1 w14 ⟨⟨v14, rfl, hr14, _⟩, hb14⟩)
    have HR := Lib.hid hr14
    clear hr14
    refine hK.out _ _ (hS.trans hb14) (fun hS => ?_)
    clear hK K
    refine wpAnyH_ready (rs := [3, 7]) (by kernel_rfl) (by simp) ?_
    refine AllReadyH.cons rfl (fun K hK => ?_) ?_
    go_simp
    go_wp2_with (go_at_call 18; (with_reducible refine Calls.mono (HFD.out _ _ _ (R1.out.mono hS) HR.out) ?_); rintro e1 w15 ⟨⟨v15, rfl, hr15, hf15⟩, hb15⟩)
    obtain ⟨a5, c5, rfl⟩ := hr15.form
    have HD5 := Lib.hid hr15
    clear hr15 hf15
    refine hK.out _ _ (hS.trans hb15) (fun hS => ?_)
    clear hK K
    refine take1 (i := 4) (some 49) rfl rfl (by kernel_rfl) (by kernel_rfl) (by kernel_rfl) (fun _ _ _ _ h => h) rfl hS ?_
    apply Exists.intro
    apply And.intro
    · intro W9 hW9; skip; go_simp; try with_reducible rfl
    simp only [Act.put, List.setIfInBounds_toArray, List.set_cons_zero, List.set_cons_succ]
    refine take1 (i := 5) (some 54) rfl rfl (by kernel_rfl) (by kernel_rfl) (by kernel_rfl) (fun _ _ _ _ h => h) rfl hS ?_
    apply Exists.intro
    apply And.intro
    · intro W9 hW9; skip; go_simp; try with_reducible rfl
    simp only [Act.put, List.setIfInBounds_toArray, List.set_cons_zero, List.set_cons_succ]
    refine take1 (i := 6) (some 55) rfl rfl (by kernel_rfl) (by kernel_rfl) (by kernel_rfl) (fun _ _ _ _ h => h) rfl hS ?_
    apply Exists.intro
    apply And.intro
    · intro W9 hW9; skip; go_simp; try with_reducible rfl
    simp only [Act.put, List.setIfInBounds_toArray, List.set_cons_zero, List.set_cons_succ]
    refine wpAnyH_ready (rs := [7]) (by kernel_rfl) (by simp) ?_
    refine AllReadyH.cons rfl (fun K hK => ?_) ?_
    rw [if_pos (by rfl)]
    refine wp_alloc_new 36 rfl (some 10) rfl _ (zeroSy _) ?_
    intro g3 w7 hg3 hN hbw
    simp only [Act.put, List.setIfInBounds_toArray, List.set_cons_zero, List.set_cons_succ]
    have NB3 := Lib.hid hN
    have HG3 := Lib.hid (Nat.le_trans hS.size hg3)
    have NE3 := Lib.hid (HD5.out.off hg3)
    replace HD5 := Lib.hid (HD5.out.mono hbw)
    clear hN
    refine hK.out _ _ (hS.trans hbw) (fun hS => ?_)
    clear hK K
    refine wpAnyH_ready (rs := [8]) (by kernel_rfl) (by simp) ?_
    refine AllReadyH.cons rfl (fun K hK => ?_) ?_
    rw [if_pos (by rfl)]
    refine wp_store_row0 36 _ _ rfl rfl g3 #[.slice a5 [(2 : Int), 0].length c5, .int .i64 5, .int .i64 1, .int .i64 0] rfl rfl 36 #[.slice none 0 0, .int .i64 0, .int .i64 0, .int .i64 0] NB3.out (by kernel_rfl) rfl (by simp [Value.oneCell']) ?_
    replace NB3 := Lib.hid (NB3.out.row #[.slice a5 [(2 : Int), 0].length c5, .int .i64 5, .int .i64 1, .int .i64 0])
    replace HD5 := Lib.hid (HD5.out.rowOff NE3.out #[.slice a5 [(2 : Int), 0].length c5, .int .i64 5, .int .i64 1, .int .i64 0])
    refine hK.out _ _ (Bw.setRow hS HG3.out #[.slice a5 [(2 : Int), 0].length c5, .int .i64 5, .int .i64 1, .int .i64 0]) (fun hS => ?_)
    clear hK K
    refine take1 (i := 9) (some 4) rfl rfl (by kernel_rfl) (by kernel_rfl) (by kernel_rfl) (fun _ _ _ _ h => h) rfl hS ?_
    apply Exists.intro
    apply And.intro
    · intro W9 hW9; skip; go_simp; try with_reducible rfl
    simp only [Act.put, List.setIfInBounds_toArray, List.set_cons_zero, List.set_cons_succ]
    refine wpAnyH_done (by kernel_rfl) ?_ _
    rotate_left
    exact AllReadyH.nil
    exact AllReadyH.nil
    refine AllReadyH.cons rfl (fun K hK => ?_) ?_
    rw [if_pos (by rfl)]
    refine wp_alloc_new 36 rfl (some 10) rfl _ (zeroSy _) ?_
    intro g3 w7 hg3 hN hbw
    simp only [Act.put, List.setIfInBounds_toArray, List.set_cons_zero, List.set_cons_succ]
    have NB3 := Lib.hid hN
    have HG3 := Lib.hid (Nat.le_trans hS.size hg3)
    replace HR := Lib.hid (HR.out.mono hbw)
    clear hN
    refine hK.out _ _ (hS.trans hbw) (fun hS => ?_)
    clear hK K
    refine wpAnyH_ready (rs := [3]) (by kernel_rfl) (by simp) ?_
    refine AllReadyH.cons rfl (fun K hK => ?_) ?_
    go_simp
    go_wp2_with (go_at_call 18; (with_reducible refine Calls.mono (HFD.out _ _ _ (R1.out.mono hS) HR.out) ?_); rintro e1 w15 ⟨⟨v15, rfl, hr15, hf15⟩, hb15⟩)
    obtain ⟨a5, c5, rfl⟩ := hr15.form
    have NE3 := Lib.hid (hf15.off NB3.out.lt [2, 0])
    replace NB3 := Lib.hid (NB3.out.bw hb15)
    have HD5 := Lib.hid hr15
    clear hr15 hf15
    refine hK.out _ _ (hS.trans hb15) (fun hS => ?_)
    clear hK K
    refine take1 (i := 4) (some 49) rfl rfl (by kernel_rfl) (by kernel_rfl) (by kernel_rfl) (fun _ _ _ _ h => h) rfl hS ?_
    apply Exists.intro
    apply And.intro
    · intro W9 hW9; skip; go_simp; try with_reducible rfl
    simp only [Act.put, List.setIfInBounds_toArray, List.set_cons_zero, List.set_cons_succ]
    refine take1 (i := 5) (some 54) rfl rfl (by kernel_rfl) (by kernel_rfl) (by kernel_rfl) (fun _ _ _ _ h => h) rfl hS ?_
    apply Exists.intro
    apply And.intro
    · intro W9 hW9; skip; go_simp; try with_reducible rfl
    simp only [Act.put, List.setIfInBounds_toArray, List.set_cons_zero, List.set_cons_succ]
    refine take1 (i := 6) (some 55) rfl rfl (by kernel_rfl) (by kernel_rfl) (by kernel_rfl) (fun _ _ _ _ h => h) rfl hS ?_
    apply Exists.intro
    apply And.intro
    · intro W9 hW9; skip; go_simp; try with_reducible rfl
    simp only [Act.put, List.setIfInBounds_toArray, List.set_cons_zero, List.set_cons_succ]
    refine wpAnyH_ready (rs := [8]) (by kernel_rfl) (by simp) ?_
    refine AllReadyH.cons rfl (fun K hK => ?_) ?_
    rw [if_pos (by rfl)]
    refine wp_store_row0 36 _ _ rfl rfl g3 #[.slice a5 [(2 : Int), 0].length c5, .int .i64 5, .int .i64 1, .int .i64 0] rfl rfl 36 #[.slice none 0 0, .int .i64 0, .int .i64 0, .int .i64 0] NB3.out (by kernel_rfl) rfl (by simp [Value.oneCell']) ?_
    replace NB3 := Lib.hid (NB3.out.row #[.slice a5 [(2 : Int), 0].length c5, .int .i64 5, .int .i64 1, .int .i64 0])
    replace HD5 := Lib.hid (HD5.out.rowOff NE3.out #[.slice a5 [(2 : Int), 0].length c5, .int .i64 5, .int .i64 1, .int .i64 0])
    refine hK.out _ _ (Bw.setRow hS HG3.out #[.slice a5 [(2 : Int), 0].length c5, .int .i64 5, .int .i64 1, .int .i64 0]) (fun hS => ?_)
    clear hK K
    refine take1 (i := 9) (some 4) rfl rfl (by kernel_rfl) (by kernel_rfl) (by kernel_rfl) (fun _ _ _ _ h => h) rfl hS ?_
    apply Exists.intro
    apply And.intro
    · intro W9 hW9; skip; go_simp; try with_reducible rfl
    simp only [Act.put, List.setIfInBounds_toArray, List.set_cons_zero, List.set_cons_succ]
    refine wpAnyH_done (by kernel_rfl) ?_ _
    rotate_left
    exact AllReadyH.nil
    exact AllReadyH.nil
    exact AllReadyH.nil
    refine AllReadyH.cons rfl (fun K hK => ?_) ?_
    rw [if_pos (by rfl)]
    refine wp_alloc_new 36 rfl (some 10) rfl _ (zeroSy _) ?_
    intro g3 w7 hg3 hN hbw
    simp only [Act.put, List.setIfInBounds_toArray, List.set_cons_zero, List.set_cons_succ]
    have NB3 := Lib.hid hN
    have HG3 := Lib.hid (Nat.le_trans hS.size hg3)
    replace HL := Lib.hid (HL.out.mono hbw)
    clear hN
    refine hK.out _ _ (hS.trans hbw) (fun hS => ?_)
    clear hK K
    refine wpAnyH_ready (rs := [2]) (by kernel_rfl) (by simp) ?_
    refine AllReadyH.cons rfl (fun K hK => ?_) ?_
    go_simp
    go_wp2_with (go_at_call 19; (with_reducible refine Calls.mono (real_any [1, 1, -1, -1, 1] _ _ ?_ (by decide)) ?_); (focus exact HL.out); rintro e1 w14 ⟨⟨v14, rfl, hr14, _⟩, hb14⟩)
    have HR := Lib.hid hr14
    clear hr14
    replace NB3 := Lib.hid (NB3.out.bw hb14)
    refine hK.out _ _ (hS.trans hb14) (fun hS => ?_)
    clear hK K
    refine wpAnyH_ready (rs := [3]) (by kernel_rfl) (by simp) ?_
    refine AllReadyH.cons rfl (fun K hK => ?_) ?_
    go_simp
    go_wp2_with (go_at_call 18; (with_reducible refine Calls.mono (HFD.out _ _ _ (R1.out.mono hS) HR.out) ?_); rintro e1 w15 ⟨⟨v15, rfl, hr15, hf15⟩, hb15⟩)
    obtain ⟨a5, c5, rfl⟩ := hr15.form
    have NE3 := Lib.hid (hf15.off NB3.out.lt [2, 0])
    replace NB3 := Lib.hid (NB3.out.bw hb15)
    have HD5 := Lib.hid hr15
    clear hr15 hf15
    refine hK.out _ _ (hS.trans hb15) (fun hS => ?_)
    clear hK K
    refine take1 (i := 4) (some 49) rfl rfl (by kernel_rfl) (by kernel_rfl) (by kernel_rfl) (fun _ _ _ _ h => h) rfl hS ?_
    apply Exists.intro
    apply And.intro
    · intro W9 hW9; skip; go_simp; try with_reducible rfl
    simp only [Act.put, List.setIfInBounds_toArray, List.set_cons_zero, List.set_cons_succ]
    refine take1 (i := 5) (some 54) rfl rfl (by kernel_rfl) (by kernel_rfl) (by kernel_rfl) (fun _ _ _ _ h => h) rfl hS ?_
    apply Exists.intro
    apply And.intro
    · intro W9 hW9; skip; go_simp; try with_reducible rfl
    simp only [Act.put, List.setIfInBounds_toArray, List.set_cons_zero, List.set_cons_succ]
    refine take1 (i := 6) (some 55) rfl rfl (by kernel_rfl) (by kernel_rfl) (by kernel_rfl) (fun _ _ _ _ h => h) rfl hS ?_
    apply Exists.intro
    apply And.intro
    · intro W9 hW9; skip; go_simp; try with_reducible rfl
    simp only [Act.put, List.setIfInBounds_toArray, List.set_cons_zero, List.set_cons_succ]
    refine wpAnyH_ready (rs := [8]) (by kernel_rfl) (by simp) ?_
    refine AllReadyH.cons rfl (fun K hK => ?_) ?_
    rw [if_pos (by rfl)]
    refine wp_store_row0 36 _ _ rfl rfl g3 #[.slice a5 [(2 : Int), 0].length c5, .int .i64 5, .int .i64 1, .int .i64 0] rfl rfl 36 #[.slice none 0 0, .int .i64 0, .int .i64 0, .int .i64 0] NB3.out (by kernel_rfl) rfl (by simp [Value.oneCell']) ?_
    replace NB3 := Lib.hid (NB3.out.row #[.slice a5 [(2 : Int), 0].length c5, .int .i64 5, .int .i64 1, .int .i64 0])
    replace HD5 := Lib.hid (HD5.out.rowOff NE3.out #[.slice a5 [(2 : Int), 0].length c5, .int .i64 5, .int .i64 1, .int .i64 0])
    refine hK.out _ _ (Bw.setRow hS HG3.out #[.slice a5 [(2 : Int), 0].length c5, .int .i64 5, .int .i64 1, .int .i64 0]) (fun hS => ?_)
    clear hK K
    refine take1 (i := 9) (some 4) rfl rfl (by kernel_rfl) (by kernel_rfl) (by kernel_rfl) (fun _ _ _ _ h => h) rfl hS ?_
    apply Exists.intro
    apply And.intro
    · intro W9 hW9; skip; go_simp; try with_reducible rfl
    simp only [Act.put, List.setIfInBounds_toArray, List.set_cons_zero, List.set_cons_succ]
    refine wpAnyH_done (by kernel_rfl) ?_ _
    rotate_left
    exact AllReadyH.nil
    exact AllReadyH.nil
    exact AllReadyH.nil
    exact AllReadyH.nil
    refine AllReadyH.cons rfl (fun K hK => ?_) ?_
    rw [if_pos (by rfl)]
    refine wp_alloc_new 36 rfl (some 10) rfl _ (zeroSy _) ?_
    intro g3 w7 hg3 hN hbw
    simp only [Act.put, List.setIfInBounds_toArray, List.set_cons_zero, List.set_cons_succ]
    have NB3 := Lib.hid hN
    have HG3 := Lib.hid (Nat.le_trans hS.size hg3)
    clear hN
    refine hK.out _ _ (hS.trans hbw) (fun hS => ?_)
    clear hK K
    refine wpAnyH_ready (rs := [1]) (by kernel_rfl) (by simp) ?_
    refine AllReadyH.cons rfl (fun K hK => ?_) ?_
    go_simp
    have hba := Bw.alloc (Bw.refl w7) (.cells #[.int .i64 1, .int .i64 1, .int .i64 (-1), .int .i64 (-1), .int .i64 1] 3)
    have HL := Lib.hid (RdI.lit w7 #[.int .i64 1, .int .i64 1, .int .i64 (-1), .int .i64 (-1), .int .i64 1] 3 [1, 1, -1, -1, 1] (by rfl) (by decide))
    replace NB3 := Lib.hid (NB3.out.bw hba)
    refine hK.out _ _ (hS.trans hba) (fun hS => ?_)
    clear hK K
    clear hba
    generalize World.alloc w7 _ = w13 at hS HL NB3 ⊢
    refine wpAnyH_ready (rs := [2]) (by kernel_rfl) (by simp) ?_
    refine AllReadyH.cons rfl (fun K hK => ?_) ?_
    go_simp
    go_wp2_with (go_at_call 19; (with_reducible refine Calls.mono (real_any [1, 1, -1, -1, 1] _ _ ?_ (by decide)) ?_); (focus exact HL.out); rintro e1 w14 ⟨⟨v14, rfl, hr14, _⟩, hb14⟩)
    have HR := Lib.hid hr14
    clear hr14
    replace NB3 := Lib.hid (NB3.out.bw hb14)
    refine hK.out _ _ (hS.trans hb14) (fun hS => ?_)
    clear hK K
    refine wpAnyH_ready (rs := [3]) (by kernel_rfl) (by simp) ?_
    refine AllReadyH.cons rfl (fun K hK => ?_) ?_
    go_simp
    go_wp2_with (go_at_call 18; (with_reducible refine Calls.mono (HFD.out _ _ _ (R1.out.mono hS) HR.out) ?_); rintro e1 w15 ⟨⟨v15, rfl, hr15, hf15⟩, hb15⟩)
    obtain ⟨a5, c5, rfl⟩ := hr15.form
    have NE3 := Lib.hid (hf15.off NB3.out.lt [2, 0])
    replace NB3 := Lib.hid (NB3.out.bw hb15)
    have HD5 := Lib.hid hr15
    clear hr15 hf15
    refine hK.out _ _ (hS.trans hb15) (fun hS => ?_)
    clear hK K
    refine take1 (i := 4) (some 49) rfl rfl (by kernel_rfl) (by kernel_rfl) (by kernel_rfl) (fun _ _ _ _ h => h) rfl hS ?_
    apply Exists.intro
    apply And.intro
    · intro W9 hW9; skip; go_simp; try with_reducible rfl
    simp only [Act.put, List.setIfInBounds_toArray, List.set_cons_zero, List.set_cons_succ]
    refine take1 (i := 5) (some 54) rfl rfl (by kernel_rfl) (by kernel_rfl) (by kernel_rfl) (fun _ _ _ _ h => h) rfl hS ?_
    apply Exists.intro
    apply And.intro
    · intro W9 hW9; skip; go_simp; try with_reducible rfl
    simp only [Act.put, List.setIfInBounds_toArray, List.set_cons_zero, List.set_cons_succ]
    refine take1 (i := 6) (some 55) rfl rfl (by kernel_rfl) (by kernel_rfl) (by kernel_rfl) (fun _ _ _ _ h => h) rfl hS ?_
    apply Exists.intro
    apply And.intro
    · intro W9 hW9; skip; go_simp; try with_reducible rfl
    simp only [Act.put, List.setIfInBounds_toArray, List.set_cons_zero, List.set_cons_succ]
    refine wpAnyH_ready (rs := [8]) (by kernel_rfl) (by simp) ?_
    refine AllReadyH.cons rfl (fun K hK => ?_) ?_
    rw [if_pos (by rfl)]
    refine wp_store_row0 36 _ _ rfl rfl g3 #[.slice a5 [(2 : Int), 0].length c5, .int .i64 5, .int .i64 1, .int .i64 0] rfl rfl 36 #[.slice none 0 0, .int .i64 0, .int .i64 0, .int .i64 0] NB3.out (by kernel_rfl) rfl (by simp [Value.oneCell']) ?_
    replace NB3 := Lib.hid (NB3.out.row #[.slice a5 [(2 : Int), 0].length c5, .int .i64 5, .int .i64 1, .int .i64 0])
    replace HD5 := Lib.hid (HD5.out.rowOff NE3.out #[.slice a5 [(2 : Int), 0].length c5, .int .i64 5, .int .i64 1, .int .i64 0])
    refine hK.out _ _ (Bw.setRow hS HG3.out #[.slice a5 [(2 : Int), 0].length c5, .int .i64 5, .int .i64 1, .int .i64 0]) (fun hS => ?_)
    clear hK K
    refine take1 (i := 9) (some 4) rfl rfl (by kernel_rfl) (by kernel_rfl) (by kernel_rfl) (fun _ _ _ _ h => h) rfl hS ?_
    apply Exists.intro
    apply And.intro
    · intro W9 hW9; skip; go_simp; try with_reducible rfl
    simp only [Act.put, List.setIfInBounds_toArray, List.set_cons_zero, List.set_cons_succ]
    refine wpAnyH_done (by kernel_rfl) ?_ _
    rotate_left
    exact AllReadyH.nil
    exact AllReadyH.nil
    exact AllReadyH.nil
    exact AllReadyH.nil
    exact AllReadyH.nil
    all_goals
      go_wp2
      go_meet
      exact ⟨g3, _, _, rfl, rfl, Lib.hid hS, NB3, HD5⟩
  case rest =>
    obtain ⟨g3, a5, c5, rfl, rfl, hb2, B3, R3⟩ := hcut
    replace HBW := Lib.hid (HBW.out.trans hb2.out)
    clear BX R1 hb2 HFD
    obtain ⟨u5, hu5⟩ : ∃ u5, u5 = wc := ⟨_, rfl⟩
    rw [← hu5] at HBW B3 R3 ⊢
    clear hu5
    have m0 : u5.cell? ⟨g3, 0, none⟩ = some (.slice a5 2 c5) := B3.out.cell rfl
    have m1 : u5.cell? ⟨g3, 1, none⟩ = some (.int .i64 5) := B3.out.cell rfl
    have m2 : u5.cell? ⟨g3, 2, none⟩ = some (.int .i64 1) := B3.out.cell rfl
    have m3 : u5.cell? ⟨g3, 3, none⟩ = some (.int .i64 0) := B3.out.cell rfl
    have hz := lt_of_cell m3
    clear B3
    go_wp2_with (first | (go_at_call 17; (with_reducible refine Calls.mono (ED6.out _ _ ?_) ?_); (focus exact R3.out.mono (by repeat (first | exact Bw.refl _ | assumption | refine Bw.alloc ?_ _ | refine Bw.drew ?_ | refine Bw.trans ?_ (by assumption) | refine Bw.setCell ?_ (by simp; try omega) _))); rintro e1 u6 ⟨rfl, hb6⟩; have hbt : Bw u5 u6 := (by repeat (first | exact Bw.refl _ | assumption | refine Bw.alloc ?_ _ | refine Bw.drew ?_ | refine Bw.trans ?_ (by assumption) | refine Bw.setCell ?_ (by simp; try omega) _)); replace HBW := Lib.hid (HBW.out.trans hbt); replace m0 := hbt.cell' m0; replace m1 := hbt.cell' m1; replace m2 := hbt.cell' m2; replace m3 := hbt.cell' m3; replace R3 := Lib.hid (R3.out.mono hbt); (try clear hz); have hz := lt_of_cell m3; clear hb6 hbt ED6) | (go_at_call 17; (with_reducible refine Calls.mono (ED7.out _ _ ?_) ?_); (focus exact R3.out.mono (by repeat (first | exact Bw.refl _ | assumption | refine Bw.alloc ?_ _ | refine Bw.drew ?_ | refine Bw.trans ?_ (by assumption) | refine Bw.setCell ?_ (by simp; try omega) _))); rintro e1 u7 ⟨rfl, hb7⟩; have hbt : Bw u6 u7 := (by repeat (first | exact Bw.refl _ | assumption | refine Bw.alloc ?_ _ | refine Bw.drew ?_ | refine Bw.trans ?_ (by assumption) | refine Bw.setCell ?_ (by simp; try omega) _)); replace HBW := Lib.hid (HBW.out.trans hbt); replace m0 := hbt.cell' m0; replace m1 := hbt.cell' m1; replace m2 := hbt.cell' m2; replace m3 := hbt.cell' m3; replace R3 := Lib.hid (R3.out.mono hbt); (try clear hz); have hz := lt_of_cell m3; clear hb7 hbt ED7) | (go_at_call 17; (with_reducible refine Calls.mono (ED8.out _ _ ?_) ?_); (focus exact R3.out.mono (by repeat (first | exact Bw.refl _ | assumption | refine Bw.alloc ?_ _ | refine Bw.drew ?_ | refine Bw.trans ?_ (by assumption) | refine Bw.setCell ?_ (by simp; try omega) _))); rintro e1 u8 ⟨rfl, hb8⟩; have hbt : Bw u7 u8 := (by repeat (first | exact Bw.refl _ | assumption | refine Bw.alloc ?_ _ | refine Bw.drew ?_ | refine Bw.trans ?_ (by assumption) | refine Bw.setCell ?_ (by simp; try omega) _)); replace HBW := Lib.hid (HBW.out.trans hbt); replace m0 := hbt.cell' m0; replace m1 := hbt.cell' m1; replace m2 := hbt.cell' m2; replace m3 := hbt.cell' m3; replace R3 := Lib.hid (R3.out.mono hbt); (try clear hz); have hz := lt_of_cell m3; clear hb8 hbt ED8) | (go_at_call 17; (with_reducible refine Calls.mono (ED9.out _ _ ?_) ?_); (focus exact RdI.litN _ _ _ [2, 1] _ (by simp) (by rfl) (by decide)); rintro e1 u9 ⟨rfl, hb9⟩; have hbt : Bw u8 u9 := (by repeat (first | exact Bw.refl _ | assumption | refine Bw.alloc ?_ _ | refine Bw.drew ?_ | refine Bw.trans ?_ (by assumption) | refine Bw.setCell ?_ (by simp; try omega) _)); replace HBW := Lib.hid (HBW.out.trans hbt); (try clear hz); clear hb9 hbt ED9) | (go_at_call 19; (with_reducible refine Calls.mono (RL10.out _ _ ?_) ?_); (focus exact RdI.litN _ _ _ [1, 1, -1, -1, 1] _ (by simp) (by rfl) (by decide)); rintro e1 u10 ⟨⟨v10, rfl, hr, _, hc⟩, hb10⟩; have R10 := Lib.hid hr; have C10 := Lib.hid hc; clear hr hc; have hbt : Bw u9 u10 := (by repeat (first | exact Bw.refl _ | assumption | refine Bw.alloc ?_ _ | refine Bw.drew ?_ | refine Bw.trans ?_ (by assumption) | refine Bw.setCell ?_ (by simp; try omega) _)); replace HBW := Lib.hid (HBW.out.trans hbt); (try clear hz); clear hb10 hbt RL10) | (go_at_call 12; (with_reducible refine Calls.mono (RD11.out _ _ R10.out C10.out) ?_); rintro e1 u11 ⟨⟨v11, rfl, hr, _⟩, hb11⟩; obtain ⟨a11, c11, rfl⟩ := hr.form; have S11 := Lib.hid hr; clear hr; have hbt : Bw u10 u11 := (by repeat (first | exact Bw.refl _ | assumption | refine Bw.alloc ?_ _ | refine Bw.drew ?_ | refine Bw.trans ?_ (by assumption) | refine Bw.setCell ?_ (by simp; try omega) _)); replace HBW := Lib.hid (HBW.out.trans hbt); replace R10 := Lib.hid (R10.out.mono hbt); (try clear hz); clear hb11 hbt RD11 R10 C10) | (go_at_call 19; (with_reducible refine Calls.mono (RL12.out _ _ ?_) ?_); (focus exact RdI.litN _ _ _ [1, 1, -1, -1, 1] _ (by simp) (by rfl) (by decide)); rintro e1 u12 ⟨⟨v12, rfl, hr, _, hc⟩, hb12⟩; have R12 := Lib.hid hr; have C12 := Lib.hid hc; clear hr hc; have hbt : Bw u11 u12 := (by repeat (first | exact Bw.refl _ | assumption | refine Bw.alloc ?_ _ | refine Bw.drew ?_ | refine Bw.trans ?_ (by assumption) | refine Bw.setCell ?_ (by simp; try omega) _)); replace HBW := Lib.hid (HBW.out.trans hbt); replace S11 := Lib.hid (S11.out.mono hbt); (try clear hz); clear hb12 hbt RL12) | (go_at_call 10; (with_reducible refine Calls.mono (VL13.out _ _ R12.out C12.out) ?_); rintro e1 u13 ⟨⟨v13, rfl, hr, _⟩, hb13⟩; obtain ⟨a13, c13, rfl⟩ := hr.form; have S13 := Lib.hid hr; clear hr; have hbt : Bw u12 u13 := (by repeat (first | exact Bw.refl _ | assumption | refine Bw.alloc ?_ _ | refine Bw.drew ?_ | refine Bw.trans ?_ (by assumption) | refine Bw.setCell ?_ (by simp; try omega) _)); replace HBW := Lib.hid (HBW.out.trans hbt); replace S11 := Lib.hid (S11.out.mono hbt); replace R12 := Lib.hid (R12.out.mono hbt); (try clear hz); clear hb13 hbt VL13 R12 C12) | (go_at_call 19; (with_reducible refine Calls.mono (RL14.out _ _ ?_) ?_); (focus exact RdI.litN _ _ _ [1] _ (by simp) (by rfl) (by decide)); rintro e1 u14 ⟨⟨v14, rfl, hr, _, hc⟩, hb14⟩; have R14 := Lib.hid hr; have C14 := Lib.hid hc; clear hr hc; have hbt : Bw u13 u14 := (by repeat (first | exact Bw.refl _ | assumption | refine Bw.alloc ?_ _ | refine Bw.drew ?_ | refine Bw.trans ?_ (by assumption) | refine Bw.setCell ?_ (by simp; try omega) _)); replace HBW := Lib.hid (HBW.out.trans hbt); replace S11 := Lib.hid (S11.out.mono hbt); replace S13 := Lib.hid (S13.out.mono hbt); (try clear hz); clear hb14 hbt RL14) | (go_at_call 12; (with_reducible refine Calls.mono (RD15.out _ _ R14.out C14.out) ?_); rintro e1 u15 ⟨⟨v15, rfl, hr, _⟩, hb15⟩; clear hr; have hbt : Bw u14 u15 := (by repeat (first | exact Bw.refl _ | assumption | refine Bw.alloc ?_ _ | refine Bw.drew ?_ | refine Bw.trans ?_ (by assumption) | refine Bw.setCell ?_ (by simp; try omega) _)); replace HBW := Lib.hid (HBW.out.trans hbt); replace S11 := Lib.hid (S11.out.mono hbt); replace S13 := Lib.hid (S13.out.mono hbt); replace R14 := Lib.hid (R14.out.mono hbt); (try clear hz); clear hb15 hbt RD15 R14 C14) | (go_at_call 9; (with_reducible refine Calls.mono (awake_any _) ?_); rintro e1 u16 ⟨rfl, hb16⟩; have hbt : Bw u15 u16 := (by repeat (first | exact Bw.refl _ | assumption | refine Bw.alloc ?_ _ | refine Bw.drew ?_ | refine Bw.trans ?_ (by assumption) | refine Bw.setCell ?_ (by simp; try omega) _)); replace HBW := Lib.hid (HBW.out.trans hbt); replace S11 := Lib.hid (S11.out.mono hbt); replace S13 := Lib.hid (S13.out.mono hbt); (try clear hz); clear hb16 hbt ) | (go_at_call 15; (with_reducible refine Calls.mono (equal_same [0, 0] _ _ _ ?_ ?_) ?_); (focus exact S11.out.mono (by repeat (first | exact Bw.refl _ | assumption | refine Bw.alloc ?_ _ | refine Bw.drew ?_ | refine Bw.trans ?_ (by assumption) | refine Bw.setCell ?_ (by simp; try omega) _))); (focus exact RdI.litN _ _ _ [0, 0] _ (by simp) (by rfl) (by decide)); rintro e1 u17 ⟨rfl, hb17⟩; have hbt : Bw u16 u17 := (by repeat (first | exact Bw.refl _ | assumption | refine Bw.alloc ?_ _ | refine Bw.drew ?_ | refine Bw.trans ?_ (by assumption) | refine Bw.setCell ?_ (by simp; try omega) _)); replace HBW := Lib.hid (HBW.out.trans hbt); replace S13 := Lib.hid (S13.out.mono hbt); (try clear hz); clear hb17 hbt S11) | (go_at_call 19; (with_reducible refine Calls.mono (RL18.out _ _ ?_) ?_); (focus exact RdI.litN _ _ _ [2, -2] _ (by simp) (by rfl) (by decide)); rintro e1 u18 ⟨⟨v18, rfl, hr, _, hc⟩, hb18⟩; have R18 := Lib.hid hr; have C18 := Lib.hid hc; clear hr hc; have hbt : Bw u17 u18 := (by repeat (first | exact Bw.refl _ | assumption | refine Bw.alloc ?_ _ | refine Bw.drew ?_ | refine Bw.trans ?_ (by assumption) | refine Bw.setCell ?_ (by simp; try omega) _)); replace HBW := Lib.hid (HBW.out.trans hbt); replace S13 := Lib.hid (S13.out.mono hbt); (try clear hz); clear hb18 hbt RL18) | (go_at_call 14; (with_reducible refine Calls.mono (samples_same [(2, 0), (-2, 0)] _ _ _ ?_ ?_) ?_); (focus exact S13.out.mono (by repeat (first | exact Bw.refl _ | assumption | refine Bw.alloc ?_ _ | refine Bw.drew ?_ | refine Bw.trans ?_ (by assumption) | refine Bw.setCell ?_ (by simp; try omega) _))); (focus exact R18.out); rintro e1 u19 ⟨rfl, hb19⟩; have hbt : Bw u18 u19 := (by repeat (first | exact Bw.refl _ | assumption | refine Bw.alloc ?_ _ | refine Bw.drew ?_ | refine Bw.trans ?_ (by assumption) | refine Bw.setCell ?_ (by simp; try omega) _)); replace HBW := Lib.hid (HBW.out.trans hbt); replace R18 := Lib.hid (R18.out.mono hbt); (try clear hz); clear hb19 hbt S13 R18 C18))
    go_ret
    exact ⟨rfl, HBW.out⟩
end Go.Proofs.Sky
