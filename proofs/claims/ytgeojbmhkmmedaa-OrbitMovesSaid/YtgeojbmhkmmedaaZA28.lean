/-
  lemmas for the theorems of this claim. No conditions beyond those written in the statements.
-/
import Derived.Test.YtgeojbmhkmmedaaXA28
set_option linter.unusedVariables false
set_option linter.unusedSimpArgs false
set_option linter.unnecessarySimpa false
namespace Go.Proofs.Sky
open Go Go.RowKit Go.Shelf
set_option maxHeartbeats 4000000
set_option maxRecDepth 8000
/-! chapter 28: OrbitMoves -/
theorem sp_ok {X : Nat → Int} (h : errE X = 0) (j : Nat) (hj : j < 3) : 0 ≤ spE X j ∧ spE X j ≤ 1000000000 ∧ ((X (7 + 4 * j + 1)).natAbs : Int) * 67108864 + 2 * ((X (7 + 4 * j + 2)).natAbs : Int) * 7200 * 65536 + 3 * ((X (7 + 4 * j + 3)).natAbs : Int) * 7200 * 7200 ≤ spE X j * 67108864 := by
  obtain ⟨_, h1, h2, h3⟩ := ax_bd h j hj
  unfold spE
  rw [if_pos h]
  unfold spQ
  omega
theorem move_ok {X : Nat → Int} {a b : Int} (h : errE X = 0) (ha : -7200000000000 ≤ a ∧ a ≤ 7200000000000) (hb : -7200000000000 ≤ b ∧ b ≤ 7200000000000) (j : Nat) (hj : j < 3) : 1000000000 * (((posQ X a j - posQ X b j).natAbs : Int) - 1) ≤ spE X j * ((a - b).natAbs : Int) :=
  pos_move (c0 := X (7 + 4 * j)) (by omega) (by omega) (sp_ok h j hj).2.2
theorem vel_ok {X : Nat → Int} {a : Int} (h : errE X = 0) (ha : -7200000000000 ≤ a ∧ a ≤ 7200000000000) (j : Nat) (hj : j < 3) : vlQ X a j ≤ spE X j + 1 ∧ -spE X j - 1 ≤ vlQ X a j :=
  vel_bound (by omega) (sp_ok h j hj).2.2
theorem law_moves (zs : List Int) (v : Value) (a0 b0 : Int) (w : World) (hv : RdI w v zs) : Calls Try.prog 5 #[v, .int .i64 a0, .int .i64 b0] w fun e w' => e = .returned (.bool true) ∧ Bw w w' := by
  have HV := Lib.hid hv
  obtain ⟨ad, cap, rfl⟩ := hv.form
  have OF := Lib.hid (of28X_any false zs _ w hv)
  clear hv
  have BE := Lib.hid (fun n k W h1 h2 => Below_any n k W h1 h2)
  have hok := ofX28_ok false zs
  have AW := Lib.hid (fun W => awake28_any W)
  have abd := bel_bd a0 14400000000001 (by decide)
  have bbd := bel_bd b0 14400000000001 (by decide)
  obtain ⟨a, ha⟩ : ∃ a, bel a0 14400000000001 - 7200000000000 = a := ⟨_, rfl⟩
  obtain ⟨b, hb⟩ : ∃ b, bel b0 14400000000001 - 7200000000000 = b := ⟨_, rfl⟩
  have hab : -7200000000000 ≤ a ∧ a ≤ 7200000000000 := by omega
  have hbb : -7200000000000 ≤ b ∧ b ≤ 7200000000000 := by omega
  generalize ofX28 false zs = X at *
  have ATa := Lib.hid (fun W => at28L_any X a hok hab W)
  have ATb := Lib.hid (fun W => at28L_any X b hok hbb W)
  have PSa := Lib.hid (fun W => pos_at hok hab W)
  have PSb := Lib.hid (fun W => pos_at hok hbb W)
  have VSa := Lib.hid (fun W => vel_at hok hab W)
  have SP := Lib.hid (fun W => Speed28_any X W)
  unfold l3V at SP
  rw [hok] at SP
  obtain ⟨e, he⟩ : ∃ e, a - b = e := ⟨_, rfl⟩
  obtain ⟨ns, hns⟩ : ∃ ns, ns = (e.natAbs : Int) := ⟨_, rfl⟩
  have hnb : 0 ≤ ns ∧ ns ≤ 20000000000000 := by omega
  have m0 := move_ok hok hab hbb 0 (by omega)
  have vb0 := vel_ok hok hab 0 (by omega)
  have sb0 := (sp_ok hok 0 (by omega))
  have sb0 := And.intro sb0.1 sb0.2.1
  have la0 := pos_lim hok hab 0 (by omega)
  have lb0 := pos_lim hok hbb 0 (by omega)
  rw [he, ← hns] at m0
  generalize posQ X a 0 = p0 at *
  generalize posQ X b 0 = q0 at *
  generalize vlQ X a 0 = v0 at *
  generalize spE X 0 = s0 at *
  have WI0 := Lib.hid (fun W => within28_any p0 q0 s0 ns la0 lb0 sb0 hnb m0 W)
  clear m0 la0 lb0
  have m1 := move_ok hok hab hbb 1 (by omega)
  have vb1 := vel_ok hok hab 1 (by omega)
  have sb1 := (sp_ok hok 1 (by omega))
  have sb1 := And.intro sb1.1 sb1.2.1
  have la1 := pos_lim hok hab 1 (by omega)
  have lb1 := pos_lim hok hbb 1 (by omega)
  rw [he, ← hns] at m1
  generalize posQ X a 1 = p1 at *
  generalize posQ X b 1 = q1 at *
  generalize vlQ X a 1 = v1 at *
  generalize spE X 1 = s1 at *
  have WI1 := Lib.hid (fun W => within28_any p1 q1 s1 ns la1 lb1 sb1 hnb m1 W)
  clear m1 la1 lb1
  have m2 := move_ok hok hab hbb 2 (by omega)
  have vb2 := vel_ok hok hab 2 (by omega)
  have sb2 := (sp_ok hok 2 (by omega))
  have sb2 := And.intro sb2.1 sb2.2.1
  have la2 := pos_lim hok hab 2 (by omega)
  have lb2 := pos_lim hok hbb 2 (by omega)
  rw [he, ← hns] at m2
  generalize posQ X a 2 = p2 at *
  generalize posQ X b 2 = q2 at *
  generalize vlQ X a 2 = v2 at *
  generalize spE X 2 = s2 at *
  have WI2 := Lib.hid (fun W => within28_any p2 q2 s2 ns la2 lb2 sb2 hnb m2 W)
  clear m2 la2 lb2
  have HVB := Lib.hid (And.intro vb0 (And.intro vb1 (And.intro vb2 (And.intro sb0 (And.intro sb1 sb2)))))
  have HEN := Lib.hid (show (e < 0 → -e = ns) ∧ (¬ e < 0 → e = ns) ∧ (-14400000000000 ≤ e ∧ e ≤ 14400000000000) by omega)
  clear vb0 vb1 vb2 sb0 sb1 sb2 hns hnb
  have HSZA0 : Hid ((Try.prog.info? 25).map (·.size) = some (eV X).size) := Lib.hid (by kernel_rfl)
  have HON : Hid ((eV X).all (·.oneCell') = true) := Lib.hid (by simp [Value.oneCell', eV])
  have HA0 : Hid ((eV X).size = 19) := Lib.hid rfl
  generalize lawT X a = lta at *
  generalize lawT X b = ltb at *
  clear hok
  generalize eV X = A0 at *
  have HW := Lib.hid (Bw.refl w)
  go_enter Try.func5, Try.ntmps5
  go_upto_region 2 with (first | (go_at_call 14; (with_reducible refine Calls.mono OF.out ?_); rintro e1 w1 ⟨rfl, hb9⟩; replace HW := Lib.hid hb9; clear hb9) | ((with_reducible refine at_store 25 (.tmp 7) (.tmp 18) ?_); refine wpList_store_row rfl 25 (.tmp 7) (.tmp 18) rfl w1.heap.size A0 rfl rfl 25 #[.int .i64 0, .int .i64 0, .int .i64 0, .int .i64 0, .int .i64 0, .int .i64 0, .int .i64 0, .int .i64 0, .int .i64 0, .int .i64 0, .int .i64 0, .int .i64 0, .int .i64 0, .int .i64 0, .int .i64 0, .int .i64 0, .int .i64 0, .int .i64 0, .int .i64 0] (Blk.new w1 25 #[.int .i64 0, .int .i64 0, .int .i64 0, .int .i64 0, .int .i64 0, .int .i64 0, .int .i64 0, .int .i64 0, .int .i64 0, .int .i64 0, .int .i64 0, .int .i64 0, .int .i64 0, .int .i64 0, .int .i64 0, .int .i64 0, .int .i64 0, .int .i64 0, .int .i64 0]) HSZA0.out (by rw [HA0.out]; rfl) HON.out ?_))
  obtain ⟨g7, hg7⟩ : ∃ g7, w1.heap.size = g7 := ⟨_, rfl⟩
  have hb9 := Bw.setRow (Bw.alloc (Bw.refl w1) (.cells #[.int .i64 0, .int .i64 0, .int .i64 0, .int .i64 0, .int .i64 0, .int .i64 0, .int .i64 0, .int .i64 0, .int .i64 0, .int .i64 0, .int .i64 0, .int .i64 0, .int .i64 0, .int .i64 0, .int .i64 0, .int .i64 0, .int .i64 0, .int .i64 0, .int .i64 0] 25)) (Nat.le_of_eq hg7) A0
  have K7 := Lib.hid ((Blk.new w1 25 #[.int .i64 0, .int .i64 0, .int .i64 0, .int .i64 0, .int .i64 0, .int .i64 0, .int .i64 0, .int .i64 0, .int .i64 0, .int .i64 0, .int .i64 0, .int .i64 0, .int .i64 0, .int .i64 0, .int .i64 0, .int .i64 0, .int .i64 0, .int .i64 0, .int .i64 0]).row A0)
  rw [hg7] at K7 ⊢
  replace HW := Lib.hid (HW.out.trans hb9)
  clear hb9
  generalize World.setRow (World.alloc w1 _) _ _ = wz at *
  clear hg7
  (try simp only [Act.put])
  go_upto_region 3 with (go_at_call 15; (with_reducible refine Calls.mono (BE.out _ _ _ ?_ ?_) ?_); (focus decide); (focus decide); rintro e1 wx ⟨rfl, hb9⟩; replace HW := Lib.hid (HW.out.trans hb9); replace K7 := Lib.hid (K7.out.bw hb9); clear hb9)
  clear abd bbd ha hb
  go_upto_region 3 with fail
  obtain ⟨wv, hwq⟩ : ∃ wq, wq = wx := ⟨_, rfl⟩
  subst hwq
  go_cut [8, 9] from 170 (fun s1 s2 wx => ∃ g9, wv.heap.size ≤ g9 ∧ s1 = .pointer (some ⟨g9, 0, none⟩) ∧ s2 = .int .i64 0 ∧ Hid (Bw wv wx) ∧ Hid (Blk wx g9 27 #[.int .i64 p0, .int .i64 p1, .int .i64 p2]))
  case first =>
    refine wp_region_held_drew (S := Bw wv) (by kernel_rfl) (Bw.drew (Bw.refl _)) (fun hS => ?_)
    generalize World.drew _ = wd at hS ⊢
    refine take1 (i := 0) (some 26) rfl rfl (by kernel_rfl) (by kernel_rfl) (by kernel_rfl) (fun _ _ _ _ h => h) rfl hS ?_
    refine Exists.intro (.agg A0) ?_
    apply And.intro
    · intro W9 hW9; skip; exact run_load_row 25 _ rfl g7 rfl 25 A0 _ (K7.out.bw hW9) Try.underlying25 rfl HSZA0.out
    simp only [Act.put, List.setIfInBounds_toArray, List.set_cons_zero, List.set_cons_succ]
    refine take1 (i := 1) (some 27) rfl rfl (by kernel_rfl) (by kernel_rfl) (by kernel_rfl) (fun _ _ _ _ h => h) rfl hS ?_
    refine Exists.intro (.agg A0) ?_
    apply And.intro
    · intro W9 hW9; skip; exact run_load_row 25 _ rfl g7 rfl 25 A0 _ (K7.out.bw hW9) Try.underlying25 rfl HSZA0.out
    simp only [Act.put, List.setIfInBounds_toArray, List.set_cons_zero, List.set_cons_succ]
    refine take1 (i := 2) (some 28) rfl rfl (by kernel_rfl) (by kernel_rfl) (by kernel_rfl) (fun _ _ _ _ h => h) rfl hS ?_
    apply Exists.intro
    apply And.intro
    · intro W9 hW9; skip; go_simp; try with_reducible rfl
    simp only [Act.put, List.setIfInBounds_toArray, List.set_cons_zero, List.set_cons_succ]
    refine wpAnyH_ready (rs := [3, 8]) (by kernel_rfl) (by simp) ?_
    refine AllReadyH.cons rfl (fun K hK => ?_) ?_
    go_simp
    go_wp2_with (go_at_call 16; (with_reducible refine Calls.mono (ATa.out _) ?_); rintro e1 w13 ⟨rfl, hb13⟩)
    refine hK.out _ _ (hS.trans hb13) (fun hS => ?_)
    clear hK K
    clear hb13
    refine wpAnyH_ready (rs := [4, 8]) (by kernel_rfl) (by simp) ?_
    refine AllReadyH.cons rfl (fun K hK => ?_) ?_
    go_simp
    go_wp2_with (go_at_call 7; (with_reducible refine Calls.mono (PSa.out _) ?_); rintro e1 w13 ⟨rfl, hb13⟩)
    refine hK.out _ _ (hS.trans hb13) (fun hS => ?_)
    clear hK K
    clear hb13
    refine take1 (i := 5) (some 25) rfl rfl (by kernel_rfl) (by kernel_rfl) (by kernel_rfl) (fun _ _ _ _ h => h) rfl hS ?_
    apply Exists.intro
    apply And.intro
    · intro W9 hW9; skip; go_simp; try with_reducible rfl
    simp only [Act.put, List.setIfInBounds_toArray, List.set_cons_zero, List.set_cons_succ]
    refine take1 (i := 6) (some 31) rfl rfl (by kernel_rfl) (by kernel_rfl) (by kernel_rfl) (fun _ _ _ _ h => h) rfl hS ?_
    apply Exists.intro
    apply And.intro
    · intro W9 hW9; skip; go_simp; try with_reducible rfl
    simp only [Act.put, List.setIfInBounds_toArray, List.set_cons_zero, List.set_cons_succ]
    refine take1 (i := 7) (some 32) rfl rfl (by kernel_rfl) (by kernel_rfl) (by kernel_rfl) (fun _ _ _ _ h => h) rfl hS ?_
    apply Exists.intro
    apply And.intro
    · intro W9 hW9; skip; go_simp; try with_reducible rfl
    simp only [Act.put, List.setIfInBounds_toArray, List.set_cons_zero, List.set_cons_succ]
    refine wpAnyH_ready (rs := [8]) (by kernel_rfl) (by simp) ?_
    refine AllReadyH.cons rfl (fun K hK => ?_) ?_
    rw [if_pos (by rfl)]
    refine wp_alloc_new28 27 rfl (some 8) rfl _ (zeroPO _) ?_
    intro g9 w5 hg5 hN hbw
    simp only [Act.put, List.setIfInBounds_toArray, List.set_cons_zero, List.set_cons_succ]
    have KT := Lib.hid hN
    have HT5 := Lib.hid (Nat.le_trans hS.size hg5)
    clear hN
    refine hK.out _ _ (hS.trans hbw) (fun hS => ?_)
    clear hK K
    clear hbw hg5
    refine wpAnyH_ready (rs := [9]) (by kernel_rfl) (by simp) ?_
    refine AllReadyH.cons rfl (fun K hK => ?_) ?_
    rw [if_pos (by rfl)]
    refine wp_store_row0 27 _ _ rfl rfl g9 #[.int .i64 p0, .int .i64 p1, .int .i64 p2] rfl rfl 27 #[.int .i64 0, .int .i64 0, .int .i64 0] KT.out (by kernel_rfl) rfl (by simp [Value.oneCell']) ?_
    replace KT := Lib.hid (KT.out.row #[.int .i64 p0, .int .i64 p1, .int .i64 p2])
    refine hK.out _ _ (Bw.setRow hS HT5.out #[.int .i64 p0, .int .i64 p1, .int .i64 p2]) (fun hS => ?_)
    clear hK K
    refine take1 (i := 10) (some 9) rfl rfl (by kernel_rfl) (by kernel_rfl) (by kernel_rfl) (fun _ _ _ _ h => h) rfl hS ?_
    apply Exists.intro
    apply And.intro
    · intro W9 hW9; skip; go_simp; try with_reducible rfl
    simp only [Act.put, List.setIfInBounds_toArray, List.set_cons_zero, List.set_cons_succ]
    refine wpAnyH_done (by kernel_rfl) ?_ _
    rotate_left
    exact AllReadyH.nil
    exact AllReadyH.nil
    refine AllReadyH.cons rfl (fun K hK => ?_) ?_
    rw [if_pos (by rfl)]
    refine wp_alloc_new28 27 rfl (some 8) rfl _ (zeroPO _) ?_
    intro g9 w5 hg5 hN hbw
    simp only [Act.put, List.setIfInBounds_toArray, List.set_cons_zero, List.set_cons_succ]
    have KT := Lib.hid hN
    have HT5 := Lib.hid (Nat.le_trans hS.size hg5)
    clear hN
    refine hK.out _ _ (hS.trans hbw) (fun hS => ?_)
    clear hK K
    clear hbw hg5
    refine wpAnyH_ready (rs := [4]) (by kernel_rfl) (by simp) ?_
    refine AllReadyH.cons rfl (fun K hK => ?_) ?_
    go_simp
    go_wp2_with (go_at_call 7; (with_reducible refine Calls.mono (PSa.out _) ?_); rintro e1 w13 ⟨rfl, hb13⟩)
    replace KT := Lib.hid (KT.out.bw hb13)
    refine hK.out _ _ (hS.trans hb13) (fun hS => ?_)
    clear hK K
    clear hb13
    refine take1 (i := 5) (some 25) rfl rfl (by kernel_rfl) (by kernel_rfl) (by kernel_rfl) (fun _ _ _ _ h => h) rfl hS ?_
    apply Exists.intro
    apply And.intro
    · intro W9 hW9; skip; go_simp; try with_reducible rfl
    simp only [Act.put, List.setIfInBounds_toArray, List.set_cons_zero, List.set_cons_succ]
    refine take1 (i := 6) (some 31) rfl rfl (by kernel_rfl) (by kernel_rfl) (by kernel_rfl) (fun _ _ _ _ h => h) rfl hS ?_
    apply Exists.intro
    apply And.intro
    · intro W9 hW9; skip; go_simp; try with_reducible rfl
    simp only [Act.put, List.setIfInBounds_toArray, List.set_cons_zero, List.set_cons_succ]
    refine take1 (i := 7) (some 32) rfl rfl (by kernel_rfl) (by kernel_rfl) (by kernel_rfl) (fun _ _ _ _ h => h) rfl hS ?_
    apply Exists.intro
    apply And.intro
    · intro W9 hW9; skip; go_simp; try with_reducible rfl
    simp only [Act.put, List.setIfInBounds_toArray, List.set_cons_zero, List.set_cons_succ]
    refine wpAnyH_ready (rs := [9]) (by kernel_rfl) (by simp) ?_
    refine AllReadyH.cons rfl (fun K hK => ?_) ?_
    rw [if_pos (by rfl)]
    refine wp_store_row0 27 _ _ rfl rfl g9 #[.int .i64 p0, .int .i64 p1, .int .i64 p2] rfl rfl 27 #[.int .i64 0, .int .i64 0, .int .i64 0] KT.out (by kernel_rfl) rfl (by simp [Value.oneCell']) ?_
    replace KT := Lib.hid (KT.out.row #[.int .i64 p0, .int .i64 p1, .int .i64 p2])
    refine hK.out _ _ (Bw.setRow hS HT5.out #[.int .i64 p0, .int .i64 p1, .int .i64 p2]) (fun hS => ?_)
    clear hK K
    refine take1 (i := 10) (some 9) rfl rfl (by kernel_rfl) (by kernel_rfl) (by kernel_rfl) (fun _ _ _ _ h => h) rfl hS ?_
    apply Exists.intro
    apply And.intro
    · intro W9 hW9; skip; go_simp; try with_reducible rfl
    simp only [Act.put, List.setIfInBounds_toArray, List.set_cons_zero, List.set_cons_succ]
    refine wpAnyH_done (by kernel_rfl) ?_ _
    rotate_left
    exact AllReadyH.nil
    exact AllReadyH.nil
    exact AllReadyH.nil
    refine AllReadyH.cons rfl (fun K hK => ?_) ?_
    rw [if_pos (by rfl)]
    refine wp_alloc_new28 27 rfl (some 8) rfl _ (zeroPO _) ?_
    intro g9 w5 hg5 hN hbw
    simp only [Act.put, List.setIfInBounds_toArray, List.set_cons_zero, List.set_cons_succ]
    have KT := Lib.hid hN
    have HT5 := Lib.hid (Nat.le_trans hS.size hg5)
    clear hN
    refine hK.out _ _ (hS.trans hbw) (fun hS => ?_)
    clear hK K
    clear hbw hg5
    refine wpAnyH_ready (rs := [3]) (by kernel_rfl) (by simp) ?_
    refine AllReadyH.cons rfl (fun K hK => ?_) ?_
    go_simp
    go_wp2_with (go_at_call 16; (with_reducible refine Calls.mono (ATa.out _) ?_); rintro e1 w13 ⟨rfl, hb13⟩)
    replace KT := Lib.hid (KT.out.bw hb13)
    refine hK.out _ _ (hS.trans hb13) (fun hS => ?_)
    clear hK K
    clear hb13
    refine wpAnyH_ready (rs := [4]) (by kernel_rfl) (by simp) ?_
    refine AllReadyH.cons rfl (fun K hK => ?_) ?_
    go_simp
    go_wp2_with (go_at_call 7; (with_reducible refine Calls.mono (PSa.out _) ?_); rintro e1 w13 ⟨rfl, hb13⟩)
    replace KT := Lib.hid (KT.out.bw hb13)
    refine hK.out _ _ (hS.trans hb13) (fun hS => ?_)
    clear hK K
    clear hb13
    refine take1 (i := 5) (some 25) rfl rfl (by kernel_rfl) (by kernel_rfl) (by kernel_rfl) (fun _ _ _ _ h => h) rfl hS ?_
    apply Exists.intro
    apply And.intro
    · intro W9 hW9; skip; go_simp; try with_reducible rfl
    simp only [Act.put, List.setIfInBounds_toArray, List.set_cons_zero, List.set_cons_succ]
    refine take1 (i := 6) (some 31) rfl rfl (by kernel_rfl) (by kernel_rfl) (by kernel_rfl) (fun _ _ _ _ h => h) rfl hS ?_
    apply Exists.intro
    apply And.intro
    · intro W9 hW9; skip; go_simp; try with_reducible rfl
    simp only [Act.put, List.setIfInBounds_toArray, List.set_cons_zero, List.set_cons_succ]
    refine take1 (i := 7) (some 32) rfl rfl (by kernel_rfl) (by kernel_rfl) (by kernel_rfl) (fun _ _ _ _ h => h) rfl hS ?_
    apply Exists.intro
    apply And.intro
    · intro W9 hW9; skip; go_simp; try with_reducible rfl
    simp only [Act.put, List.setIfInBounds_toArray, List.set_cons_zero, List.set_cons_succ]
    refine wpAnyH_ready (rs := [9]) (by kernel_rfl) (by simp) ?_
    refine AllReadyH.cons rfl (fun K hK => ?_) ?_
    rw [if_pos (by rfl)]
    refine wp_store_row0 27 _ _ rfl rfl g9 #[.int .i64 p0, .int .i64 p1, .int .i64 p2] rfl rfl 27 #[.int .i64 0, .int .i64 0, .int .i64 0] KT.out (by kernel_rfl) rfl (by simp [Value.oneCell']) ?_
    replace KT := Lib.hid (KT.out.row #[.int .i64 p0, .int .i64 p1, .int .i64 p2])
    refine hK.out _ _ (Bw.setRow hS HT5.out #[.int .i64 p0, .int .i64 p1, .int .i64 p2]) (fun hS => ?_)
    clear hK K
    refine take1 (i := 10) (some 9) rfl rfl (by kernel_rfl) (by kernel_rfl) (by kernel_rfl) (fun _ _ _ _ h => h) rfl hS ?_
    apply Exists.intro
    apply And.intro
    · intro W9 hW9; skip; go_simp; try with_reducible rfl
    simp only [Act.put, List.setIfInBounds_toArray, List.set_cons_zero, List.set_cons_succ]
    refine wpAnyH_done (by kernel_rfl) ?_ _
    rotate_left
    exact AllReadyH.nil
    exact AllReadyH.nil
    exact AllReadyH.nil
    exact AllReadyH.nil
    all_goals
      go_wp2
      go_meet
      exact ⟨g9, HT5.out, rfl, rfl, Lib.hid hS, KT⟩
  case rest =>
    obtain ⟨g8, h9, rfl, rfl, hb9, K8⟩ := hcut
    have hb9 := hb9.out
    replace HW := Lib.hid (HW.out.trans hb9)
    replace K7 := Lib.hid (K7.out.bw hb9)
    clear hb9 h9
    obtain ⟨wx, hwx⟩ : ∃ wx, wx = wc := ⟨_, rfl⟩
    subst hwx
    go_upto_region 4 with fail
    obtain ⟨wv, hwq⟩ : ∃ wq, wq = wx := ⟨_, rfl⟩
    subst hwq
    go_cut [10, 11] from 170 (fun s1 s2 wx => ∃ g9, wv.heap.size ≤ g9 ∧ s1 = .pointer (some ⟨g9, 0, none⟩) ∧ s2 = .int .i64 0 ∧ Hid (Bw wv wx) ∧ Hid (Blk wx g9 27 #[.int .i64 q0, .int .i64 q1, .int .i64 q2]))
    case first =>
      refine wp_region_held_drew (S := Bw wv) (by kernel_rfl) (Bw.drew (Bw.refl _)) (fun hS => ?_)
      generalize World.drew _ = wd at hS ⊢
      refine take1 (i := 0) (some 34) rfl rfl (by kernel_rfl) (by kernel_rfl) (by kernel_rfl) (fun _ _ _ _ h => h) rfl hS ?_
      refine Exists.intro (.agg A0) ?_
      apply And.intro
      · intro W9 hW9; skip; exact run_load_row 25 _ rfl g7 rfl 25 A0 _ (K7.out.bw hW9) Try.underlying25 rfl HSZA0.out
      simp only [Act.put, List.setIfInBounds_toArray, List.set_cons_zero, List.set_cons_succ]
      refine take1 (i := 1) (some 35) rfl rfl (by kernel_rfl) (by kernel_rfl) (by kernel_rfl) (fun _ _ _ _ h => h) rfl hS ?_
      refine Exists.intro (.agg A0) ?_
      apply And.intro
      · intro W9 hW9; skip; exact run_load_row 25 _ rfl g7 rfl 25 A0 _ (K7.out.bw hW9) Try.underlying25 rfl HSZA0.out
      simp only [Act.put, List.setIfInBounds_toArray, List.set_cons_zero, List.set_cons_succ]
      refine take1 (i := 2) (some 36) rfl rfl (by kernel_rfl) (by kernel_rfl) (by kernel_rfl) (fun _ _ _ _ h => h) rfl hS ?_
      apply Exists.intro
      apply And.intro
      · intro W9 hW9; skip; go_simp; try with_reducible rfl
      simp only [Act.put, List.setIfInBounds_toArray, List.set_cons_zero, List.set_cons_succ]
      refine wpAnyH_ready (rs := [3, 8]) (by kernel_rfl) (by simp) ?_
      refine AllReadyH.cons rfl (fun K hK => ?_) ?_
      go_simp
      go_wp2_with (go_at_call 16; (with_reducible refine Calls.mono (ATb.out _) ?_); rintro e1 w13 ⟨rfl, hb13⟩)
      refine hK.out _ _ (hS.trans hb13) (fun hS => ?_)
      clear hK K
      clear hb13
      refine wpAnyH_ready (rs := [4, 8]) (by kernel_rfl) (by simp) ?_
      refine AllReadyH.cons rfl (fun K hK => ?_) ?_
      go_simp
      go_wp2_with (go_at_call 7; (with_reducible refine Calls.mono (PSb.out _) ?_); rintro e1 w13 ⟨rfl, hb13⟩)
      refine hK.out _ _ (hS.trans hb13) (fun hS => ?_)
      clear hK K
      clear hb13
      refine take1 (i := 5) (some 33) rfl rfl (by kernel_rfl) (by kernel_rfl) (by kernel_rfl) (fun _ _ _ _ h => h) rfl hS ?_
      apply Exists.intro
      apply And.intro
      · intro W9 hW9; skip; go_simp; try with_reducible rfl
      simp only [Act.put, List.setIfInBounds_toArray, List.set_cons_zero, List.set_cons_succ]
      refine take1 (i := 6) (some 39) rfl rfl (by kernel_rfl) (by kernel_rfl) (by kernel_rfl) (fun _ _ _ _ h => h) rfl hS ?_
      apply Exists.intro
      apply And.intro
      · intro W9 hW9; skip; go_simp; try with_reducible rfl
      simp only [Act.put, List.setIfInBounds_toArray, List.set_cons_zero, List.set_cons_succ]
      refine take1 (i := 7) (some 40) rfl rfl (by kernel_rfl) (by kernel_rfl) (by kernel_rfl) (fun _ _ _ _ h => h) rfl hS ?_
      apply Exists.intro
      apply And.intro
      · intro W9 hW9; skip; go_simp; try with_reducible rfl
      simp only [Act.put, List.setIfInBounds_toArray, List.set_cons_zero, List.set_cons_succ]
      refine wpAnyH_ready (rs := [8]) (by kernel_rfl) (by simp) ?_
      refine AllReadyH.cons rfl (fun K hK => ?_) ?_
      rw [if_pos (by rfl)]
      refine wp_alloc_new28 27 rfl (some 10) rfl _ (zeroPO _) ?_
      intro g9 w5 hg5 hN hbw
      simp only [Act.put, List.setIfInBounds_toArray, List.set_cons_zero, List.set_cons_succ]
      have KT := Lib.hid hN
      have HT5 := Lib.hid (Nat.le_trans hS.size hg5)
      clear hN
      refine hK.out _ _ (hS.trans hbw) (fun hS => ?_)
      clear hK K
      clear hbw hg5
      refine wpAnyH_ready (rs := [9]) (by kernel_rfl) (by simp) ?_
      refine AllReadyH.cons rfl (fun K hK => ?_) ?_
      rw [if_pos (by rfl)]
      refine wp_store_row0 27 _ _ rfl rfl g9 #[.int .i64 q0, .int .i64 q1, .int .i64 q2] rfl rfl 27 #[.int .i64 0, .int .i64 0, .int .i64 0] KT.out (by kernel_rfl) rfl (by simp [Value.oneCell']) ?_
      replace KT := Lib.hid (KT.out.row #[.int .i64 q0, .int .i64 q1, .int .i64 q2])
      refine hK.out _ _ (Bw.setRow hS HT5.out #[.int .i64 q0, .int .i64 q1, .int .i64 q2]) (fun hS => ?_)
      clear hK K
      refine take1 (i := 10) (some 11) rfl rfl (by kernel_rfl) (by kernel_rfl) (by kernel_rfl) (fun _ _ _ _ h => h) rfl hS ?_
      apply Exists.intro
      apply And.intro
      · intro W9 hW9; skip; go_simp; try with_reducible rfl
      simp only [Act.put, List.setIfInBounds_toArray, List.set_cons_zero, List.set_cons_succ]
      refine wpAnyH_done (by kernel_rfl) ?_ _
      rotate_left
      exact AllReadyH.nil
      exact AllReadyH.nil
      refine AllReadyH.cons rfl (fun K hK => ?_) ?_
      rw [if_pos (by rfl)]
      refine wp_alloc_new28 27 rfl (some 10) rfl _ (zeroPO _) ?_
      intro g9 w5 hg5 hN hbw
      simp only [Act.put, List.setIfInBounds_toArray, List.set_cons_zero, List.set_cons_succ]
      have KT := Lib.hid hN
      have HT5 := Lib.hid (Nat.le_trans hS.size hg5)
      clear hN
      refine hK.out _ _ (hS.trans hbw) (fun hS => ?_)
      clear hK K
      clear hbw hg5
      refine wpAnyH_ready (rs := [4]) (by kernel_rfl) (by simp) ?_
      refine AllReadyH.cons rfl (fun K hK => ?_) ?_
      go_simp
      go_wp2_with (go_at_call 7; (with_reducible refine Calls.mono (PSb.out _) ?_); rintro e1 w13 ⟨rfl, hb13⟩)
      replace KT := Lib.hid (KT.out.bw hb13)
      refine hK.out _ _ (hS.trans hb13) (fun hS => ?_)
      clear hK K
      clear hb13
      refine take1 (i := 5) (some 33) rfl rfl (by kernel_rfl) (by kernel_rfl) (by kernel_rfl) (fun _ _ _ _ h => h) rfl hS ?_
      apply Exists.intro
      apply And.intro
      · intro W9 hW9; skip; go_simp; try with_reducible rfl
      simp only [Act.put, List.setIfInBounds_toArray, List.set_cons_zero, List.set_cons_succ]
      refine take1 (i := 6) (some 39) rfl rfl (by kernel_rfl) (by kernel_rfl) (by kernel_rfl) (fun _ _ _ _ h => h) rfl hS ?_
      apply Exists.intro
      apply And.intro
      · intro W9 hW9; skip; go_simp; try with_reducible rfl
      simp only [Act.put, List.setIfInBounds_toArray, List.set_cons_zero, List.set_cons_succ]
      refine take1 (i := 7) (some 40) rfl rfl (by kernel_rfl) (by kernel_rfl) (by kernel_rfl) (fun _ _ _ _ h => h) rfl hS ?_
      apply Exists.intro
      apply And.intro
      · intro W9 hW9; skip; go_simp; try with_reducible rfl
      simp only [Act.put, List.setIfInBounds_toArray, List.set_cons_zero, List.set_cons_succ]
      refine wpAnyH_ready (rs := [9]) (by kernel_rfl) (by simp) ?_
      refine AllReadyH.cons rfl (fun K hK => ?_) ?_
      rw [if_pos (by rfl)]
      refine wp_store_row0 27 _ _ rfl rfl g9 #[.int .i64 q0, .int .i64 q1, .int .i64 q2] rfl rfl 27 #[.int .i64 0, .int .i64 0, .int .i64 0] KT.out (by kernel_rfl) rfl (by simp [Value.oneCell']) ?_
      replace KT := Lib.hid (KT.out.row #[.int .i64 q0, .int .i64 q1, .int .i64 q2])
      refine hK.out _ _ (Bw.setRow hS HT5.out #[.int .i64 q0, .int .i64 q1, .int .i64 q2]) (fun hS => ?_)
      clear hK K
      refine take1 (i := 10) (some 11) rfl rfl (by kernel_rfl) (by kernel_rfl) (by kernel_rfl) (fun _ _ _ _ h => h) rfl hS ?_
      apply Exists.intro
      apply And.intro
      · intro W9 hW9; skip; go_simp; try with_reducible rfl
      simp only [Act.put, List.setIfInBounds_toArray, List.set_cons_zero, List.set_cons_succ]
      refine wpAnyH_done (by kernel_rfl) ?_ _
      rotate_left
      exact AllReadyH.nil
      exact AllReadyH.nil
      exact AllReadyH.nil
      refine AllReadyH.cons rfl (fun K hK => ?_) ?_
      rw [if_pos (by rfl)]
      refine wp_alloc_new28 27 rfl (some 10) rfl _ (zeroPO _) ?_
      intro g9 w5 hg5 hN hbw
      simp only [Act.put, List.setIfInBounds_toArray, List.set_cons_zero, List.set_cons_succ]
      have KT := Lib.hid hN
      have HT5 := Lib.hid (Nat.le_trans hS.size hg5)
      clear hN
      refine hK.out _ _ (hS.trans hbw) (fun hS => ?_)
      clear hK K
      clear hbw hg5
      refine wpAnyH_ready (rs := [3]) (by kernel_rfl) (by simp) ?_
      refine AllReadyH.cons rfl (fun K hK => ?_) ?_
      go_simp
      go_wp2_with (go_at_call 16; (with_reducible refine Calls.mono (ATb.out _) ?_); rintro e1 w13 ⟨rfl, hb13⟩)
      replace KT := Lib.hid (KT.out.bw hb13)
      refine hK.out _ _ (hS.trans hb13) (fun hS => ?_)
      clear hK K
      clear hb13
      refine wpAnyH_ready (rs := [4]) (by kernel_rfl) (by simp) ?_
      refine AllReadyH.cons rfl (fun K hK => ?_) ?_
      go_simp
      go_wp2_with (go_at_call 7; (with_reducible refine Calls.mono (PSb.out _) ?_); rintro e1 w13 ⟨rfl, hb13⟩)
      replace KT := Lib.hid (KT.out.bw hb13)
      refine hK.out _ _ (hS.trans hb13) (fun hS => ?_)
      clear hK K
      clear hb13
      refine take1 (i := 5) (some 33) rfl rfl (by kernel_rfl) (by kernel_rfl) (by kernel_rfl) (fun _ _ _ _ h => h) rfl hS ?_
      apply Exists.intro
      apply And.intro
      · intro W9 hW9; skip; go_simp; try with_reducible rfl
      simp only [Act.put, List.setIfInBounds_toArray, List.set_cons_zero, List.set_cons_succ]
      refine take1 (i := 6) (some 39) rfl rfl (by kernel_rfl) (by kernel_rfl) (by kernel_rfl) (fun _ _ _ _ h => h) rfl hS ?_
      apply Exists.intro
      apply And.intro
      · intro W9 hW9; skip; go_simp; try with_reducible rfl
      simp only [Act.put, List.setIfInBounds_toArray, List.set_cons_zero, List.set_cons_succ]
      refine take1 (i := 7) (some 40) rfl rfl (by kernel_rfl) (by kernel_rfl) (by kernel_rfl) (fun _ _ _ _ h => h) rfl hS ?_
      apply Exists.intro
      apply And.intro
      · intro W9 hW9; skip; go_simp; try with_reducible rfl
      simp only [Act.put, List.setIfInBounds_toArray, List.set_cons_zero, List.set_cons_succ]
      refine wpAnyH_ready (rs := [9]) (by kernel_rfl) (by simp) ?_
      refine AllReadyH.cons rfl (fun K hK => ?_) ?_
      rw [if_pos (by rfl)]
      refine wp_store_row0 27 _ _ rfl rfl g9 #[.int .i64 q0, .int .i64 q1, .int .i64 q2] rfl rfl 27 #[.int .i64 0, .int .i64 0, .int .i64 0] KT.out (by kernel_rfl) rfl (by simp [Value.oneCell']) ?_
      replace KT := Lib.hid (KT.out.row #[.int .i64 q0, .int .i64 q1, .int .i64 q2])
      refine hK.out _ _ (Bw.setRow hS HT5.out #[.int .i64 q0, .int .i64 q1, .int .i64 q2]) (fun hS => ?_)
      clear hK K
      refine take1 (i := 10) (some 11) rfl rfl (by kernel_rfl) (by kernel_rfl) (by kernel_rfl) (fun _ _ _ _ h => h) rfl hS ?_
      apply Exists.intro
      apply And.intro
      · intro W9 hW9; skip; go_simp; try with_reducible rfl
      simp only [Act.put, List.setIfInBounds_toArray, List.set_cons_zero, List.set_cons_succ]
      refine wpAnyH_done (by kernel_rfl) ?_ _
      rotate_left
      exact AllReadyH.nil
      exact AllReadyH.nil
      exact AllReadyH.nil
      exact AllReadyH.nil
      all_goals
        go_wp2
        go_meet
        exact ⟨g9, HT5.out, rfl, rfl, Lib.hid hS, KT⟩
    case rest =>
      obtain ⟨g10, h9, rfl, rfl, hb9, K10⟩ := hcut
      have hb9 := hb9.out
      replace HW := Lib.hid (HW.out.trans hb9)
      replace K7 := Lib.hid (K7.out.bw hb9)
      replace K8 := Lib.hid (K8.out.bw hb9)
      clear hb9 h9
      obtain ⟨wx, hwx⟩ : ∃ wx, wx = wc := ⟨_, rfl⟩
      subst hwx
      go_upto_region 5 with fail
      obtain ⟨wv, hwq⟩ : ∃ wq, wq = wx := ⟨_, rfl⟩
      subst hwq
      go_cut [12, 13] from 170 (fun s1 s2 wx => ∃ g9, wv.heap.size ≤ g9 ∧ s1 = .pointer (some ⟨g9, 0, none⟩) ∧ s2 = .int .i64 0 ∧ Hid (Bw wv wx) ∧ Hid (Blk wx g9 27 #[.int .i64 v0, .int .i64 v1, .int .i64 v2]))
      case first =>
        refine wp_region_held_drew (S := Bw wv) (by kernel_rfl) (Bw.drew (Bw.refl _)) (fun hS => ?_)
        generalize World.drew _ = wd at hS ⊢
        refine take1 (i := 0) (some 42) rfl rfl (by kernel_rfl) (by kernel_rfl) (by kernel_rfl) (fun _ _ _ _ h => h) rfl hS ?_
        refine Exists.intro (.agg A0) ?_
        apply And.intro
        · intro W9 hW9; skip; exact run_load_row 25 _ rfl g7 rfl 25 A0 _ (K7.out.bw hW9) Try.underlying25 rfl HSZA0.out
        simp only [Act.put, List.setIfInBounds_toArray, List.set_cons_zero, List.set_cons_succ]
        refine take1 (i := 1) (some 43) rfl rfl (by kernel_rfl) (by kernel_rfl) (by kernel_rfl) (fun _ _ _ _ h => h) rfl hS ?_
        refine Exists.intro (.agg A0) ?_
        apply And.intro
        · intro W9 hW9; skip; exact run_load_row 25 _ rfl g7 rfl 25 A0 _ (K7.out.bw hW9) Try.underlying25 rfl HSZA0.out
        simp only [Act.put, List.setIfInBounds_toArray, List.set_cons_zero, List.set_cons_succ]
        refine take1 (i := 2) (some 44) rfl rfl (by kernel_rfl) (by kernel_rfl) (by kernel_rfl) (fun _ _ _ _ h => h) rfl hS ?_
        apply Exists.intro
        apply And.intro
        · intro W9 hW9; skip; go_simp; try with_reducible rfl
        simp only [Act.put, List.setIfInBounds_toArray, List.set_cons_zero, List.set_cons_succ]
        refine wpAnyH_ready (rs := [3, 8]) (by kernel_rfl) (by simp) ?_
        refine AllReadyH.cons rfl (fun K hK => ?_) ?_
        go_simp
        go_wp2_with (go_at_call 16; (with_reducible refine Calls.mono (ATa.out _) ?_); rintro e1 w13 ⟨rfl, hb13⟩)
        refine hK.out _ _ (hS.trans hb13) (fun hS => ?_)
        clear hK K
        clear hb13
        refine wpAnyH_ready (rs := [4, 8]) (by kernel_rfl) (by simp) ?_
        refine AllReadyH.cons rfl (fun K hK => ?_) ?_
        go_simp
        go_wp2_with (go_at_call 9; (with_reducible refine Calls.mono (VSa.out _) ?_); rintro e1 w13 ⟨rfl, hb13⟩)
        refine hK.out _ _ (hS.trans hb13) (fun hS => ?_)
        clear hK K
        clear hb13
        refine take1 (i := 5) (some 41) rfl rfl (by kernel_rfl) (by kernel_rfl) (by kernel_rfl) (fun _ _ _ _ h => h) rfl hS ?_
        apply Exists.intro
        apply And.intro
        · intro W9 hW9; skip; go_simp; try with_reducible rfl
        simp only [Act.put, List.setIfInBounds_toArray, List.set_cons_zero, List.set_cons_succ]
        refine take1 (i := 6) (some 47) rfl rfl (by kernel_rfl) (by kernel_rfl) (by kernel_rfl) (fun _ _ _ _ h => h) rfl hS ?_
        apply Exists.intro
        apply And.intro
        · intro W9 hW9; skip; go_simp; try with_reducible rfl
        simp only [Act.put, List.setIfInBounds_toArray, List.set_cons_zero, List.set_cons_succ]
        refine take1 (i := 7) (some 48) rfl rfl (by kernel_rfl) (by kernel_rfl) (by kernel_rfl) (fun _ _ _ _ h => h) rfl hS ?_
        apply Exists.intro
        apply And.intro
        · intro W9 hW9; skip; go_simp; try with_reducible rfl
        simp only [Act.put, List.setIfInBounds_toArray, List.set_cons_zero, List.set_cons_succ]
        refine wpAnyH_ready (rs := [8]) (by kernel_rfl) (by simp) ?_
        refine AllReadyH.cons rfl (fun K hK => ?_) ?_
        rw [if_pos (by rfl)]
        refine wp_alloc_new28 27 rfl (some 12) rfl _ (zeroPO _) ?_
        intro g9 w5 hg5 hN hbw
        simp only [Act.put, List.setIfInBounds_toArray, List.set_cons_zero, List.set_cons_succ]
        have KT := Lib.hid hN
        have HT5 := Lib.hid (Nat.le_trans hS.size hg5)
        clear hN
        refine hK.out _ _ (hS.trans hbw) (fun hS => ?_)
        clear hK K
        clear hbw hg5
        refine wpAnyH_ready (rs := [9]) (by kernel_rfl) (by simp) ?_
        refine AllReadyH.cons rfl (fun K hK => ?_) ?_
        rw [if_pos (by rfl)]
        refine wp_store_row0 27 _ _ rfl rfl g9 #[.int .i64 v0, .int .i64 v1, .int .i64 v2] rfl rfl 27 #[.int .i64 0, .int .i64 0, .int .i64 0] KT.out (by kernel_rfl) rfl (by simp [Value.oneCell']) ?_
        replace KT := Lib.hid (KT.out.row #[.int .i64 v0, .int .i64 v1, .int .i64 v2])
        refine hK.out _ _ (Bw.setRow hS HT5.out #[.int .i64 v0, .int .i64 v1, .int .i64 v2]) (fun hS => ?_)
        clear hK K
        refine take1 (i := 10) (some 13) rfl rfl (by kernel_rfl) (by kernel_rfl) (by kernel_rfl) (fun _ _ _ _ h => h) rfl hS ?_
        apply Exists.intro
        apply And.intro
        · intro W9 hW9; skip; go_simp; try with_reducible rfl
        simp only [Act.put, List.setIfInBounds_toArray, List.set_cons_zero, List.set_cons_succ]
        refine wpAnyH_done (by kernel_rfl) ?_ _
        rotate_left
        exact AllReadyH.nil
        exact AllReadyH.nil
        refine AllReadyH.cons rfl (fun K hK => ?_) ?_
        rw [if_pos (by rfl)]
        refine wp_alloc_new28 27 rfl (some 12) rfl _ (zeroPO _) ?_
        intro g9 w5 hg5 hN hbw
        simp only [Act.put, List.setIfInBounds_toArray, List.set_cons_zero, List.set_cons_succ]
        have KT := Lib.hid hN
        have HT5 := Lib.hid (Nat.le_trans hS.size hg5)
        clear hN
        refine hK.out _ _ (hS.trans hbw) (fun hS => ?_)
        clear hK K
        clear hbw hg5
        refine wpAnyH_ready (rs := [4]) (by kernel_rfl) (by simp) ?_
        refine AllReadyH.cons rfl (fun K hK => ?_) ?_
        go_simp
        go_wp2_with (go_at_call 9; (with_reducible refine Calls.mono (VSa.out _) ?_); rintro e1 w13 ⟨rfl, hb13⟩)
        replace KT := Lib.hid (KT.out.bw hb13)
        refine hK.out _ _ (hS.trans hb13) (fun hS => ?_)
        clear hK K
        clear hb13
        refine take1 (i := 5) (some 41) rfl rfl (by kernel_rfl) (by kernel_rfl) (by kernel_rfl) (fun _ _ _ _ h => h) rfl hS ?_
        apply Exists.intro
        apply And.intro
        · intro W9 hW9; skip; go_simp; try with_reducible rfl
        simp only [Act.put, List.setIfInBounds_toArray, List.set_cons_zero, List.set_cons_succ]
        refine take1 (i := 6) (some 47) rfl rfl (by kernel_rfl) (by kernel_rfl) (by kernel_rfl) (fun _ _ _ _ h => h) rfl hS ?_
        apply Exists.intro
        apply And.intro
        · intro W9 hW9; skip; go_simp; try with_reducible rfl
        simp only [Act.put, List.setIfInBounds_toArray, List.set_cons_zero, List.set_cons_succ]
        refine take1 (i := 7) (some 48) rfl rfl (by kernel_rfl) (by kernel_rfl) (by kernel_rfl) (fun _ _ _ _ h => h) rfl hS ?_
        apply Exists.intro
        apply And.intro
        · intro W9 hW9; skip; go_simp; try with_reducible rfl
        simp only [Act.put, List.setIfInBounds_toArray, List.set_cons_zero, List.set_cons_succ]
        refine wpAnyH_ready (rs := [9]) (by kernel_rfl) (by simp) ?_
        refine AllReadyH.cons rfl (fun K hK => ?_) ?_
        rw [if_pos (by rfl)]
        refine wp_store_row0 27 _ _ rfl rfl g9 #[.int .i64 v0, .int .i64 v1, .int .i64 v2] rfl rfl 27 #[.int .i64 0, .int .i64 0, .int .i64 0] KT.out (by kernel_rfl) rfl (by simp [Value.oneCell']) ?_
        replace KT := Lib.hid (KT.out.row #[.int .i64 v0, .int .i64 v1, .int .i64 v2])
        refine hK.out _ _ (Bw.setRow hS HT5.out #[.int .i64 v0, .int .i64 v1, .int .i64 v2]) (fun hS => ?_)
        clear hK K
        refine take1 (i := 10) (some 13) rfl rfl (by kernel_rfl) (by kernel_rfl) (by kernel_rfl) (fun _ _ _ _ h => h) rfl hS ?_
        apply Exists.intro
        apply And.intro
        · intro W9 hW9; skip; go_simp; try with_reducible rfl
        simp only [Act.put, List.setIfInBounds_toArray, List.set_cons_zero, List.set_cons_succ]
        refine wpAnyH_done (by kernel_rfl) ?_ _
        rotate_left
        exact AllReadyH.nil
        exact AllReadyH.nil
        exact AllReadyH.nil
        refine AllReadyH.cons rfl (fun K hK => ?_) ?_
        rw [if_pos (by rfl)]
        refine wp_alloc_new28 27 rfl (some 12) rfl _ (zeroPO _) ?_
        intro g9 w5 hg5 hN hbw
        simp only [Act.put, List.setIfInBounds_toArray, List.set_cons_zero, List.set_cons_succ]
        have KT := Lib.hid hN
        have HT5 := Lib.hid (Nat.le_trans hS.size hg5)
        clear hN
        refine hK.out _ _ (hS.trans hbw) (fun hS => ?_)
        clear hK K
        clear hbw hg5
        refine wpAnyH_ready (rs := [3]) (by kernel_rfl) (by simp) ?_
        refine AllReadyH.cons rfl (fun K hK => ?_) ?_
        go_simp
        go_wp2_with (go_at_call 16; (with_reducible refine Calls.mono (ATa.out _) ?_); rintro e1 w13 ⟨rfl, hb13⟩)
        replace KT := Lib.hid (KT.out.bw hb13)
        refine hK.out _ _ (hS.trans hb13) (fun hS => ?_)
        clear hK K
        clear hb13
        refine wpAnyH_ready (rs := [4]) (by kernel_rfl) (by simp) ?_
        refine AllReadyH.cons rfl (fun K hK => ?_) ?_
        go_simp
        go_wp2_with (go_at_call 9; (with_reducible refine Calls.mono (VSa.out _) ?_); rintro e1 w13 ⟨rfl, hb13⟩)
        replace KT := Lib.hid (KT.out.bw hb13)
        refine hK.out _ _ (hS.trans hb13) (fun hS => ?_)
        clear hK K
        clear hb13
        refine take1 (i := 5) (some 41) rfl rfl (by kernel_rfl) (by kernel_rfl) (by kernel_rfl) (fun _ _ _ _ h => h) rfl hS ?_
        apply Exists.intro
        apply And.intro
        · intro W9 hW9; skip; go_simp; try with_reducible rfl
        simp only [Act.put, List.setIfInBounds_toArray, List.set_cons_zero, List.set_cons_succ]
        refine take1 (i := 6) (some 47) rfl rfl (by kernel_rfl) (by kernel_rfl) (by kernel_rfl) (fun _ _ _ _ h => h) rfl hS ?_
        apply Exists.intro
        apply And.intro
        · intro W9 hW9; skip; go_simp; try with_reducible rfl
        simp only [Act.put, List.setIfInBounds_toArray, List.set_cons_zero, List.set_cons_succ]
        refine take1 (i := 7) (some 48) rfl rfl (by kernel_rfl) (by kernel_rfl) (by kernel_rfl) (fun _ _ _ _ h => h) rfl hS ?_
        apply Exists.intro
        apply And.intro
        · intro W9 hW9; skip; go_simp; try with_reducible rfl
        simp only [Act.put, List.setIfInBounds_toArray, List.set_cons_zero, List.set_cons_succ]
        refine wpAnyH_ready (rs := [9]) (by kernel_rfl) (by simp) ?_
        refine AllReadyH.cons rfl (fun K hK => ?_) ?_
        rw [if_pos (by rfl)]
        refine wp_store_row0 27 _ _ rfl rfl g9 #[.int .i64 v0, .int .i64 v1, .int .i64 v2] rfl rfl 27 #[.int .i64 0, .int .i64 0, .int .i64 0] KT.out (by kernel_rfl) rfl (by simp [Value.oneCell']) ?_
        replace KT := Lib.hid (KT.out.row #[.int .i64 v0, .int .i64 v1, .int .i64 v2])
        refine hK.out _ _ (Bw.setRow hS HT5.out #[.int .i64 v0, .int .i64 v1, .int .i64 v2]) (fun hS => ?_)
        clear hK K
        refine take1 (i := 10) (some 13) rfl rfl (by kernel_rfl) (by kernel_rfl) (by kernel_rfl) (fun _ _ _ _ h => h) rfl hS ?_
        apply Exists.intro
        apply And.intro
        · intro W9 hW9; skip; go_simp; try with_reducible rfl
        simp only [Act.put, List.setIfInBounds_toArray, List.set_cons_zero, List.set_cons_succ]
        refine wpAnyH_done (by kernel_rfl) ?_ _
        rotate_left
        exact AllReadyH.nil
        exact AllReadyH.nil
        exact AllReadyH.nil
        exact AllReadyH.nil
        all_goals
          go_wp2
          go_meet
          exact ⟨g9, HT5.out, rfl, rfl, Lib.hid hS, KT⟩
      case rest =>
        obtain ⟨g12, h9, rfl, rfl, hb9, K12⟩ := hcut
        have hb9 := hb9.out
        replace HW := Lib.hid (HW.out.trans hb9)
        replace K7 := Lib.hid (K7.out.bw hb9)
        replace K8 := Lib.hid (K8.out.bw hb9)
        replace K10 := Lib.hid (K10.out.bw hb9)
        clear hb9 h9
        obtain ⟨wx, hwx⟩ : ∃ wx, wx = wc := ⟨_, rfl⟩
        subst hwx
        go_upto_region 7 with (first | ((with_reducible refine at_load 25 (.tmp 7) ?_); refine wpList_load_row rfl 25 _ rfl g7 rfl 25 A0 (0, 0) _ K7.out Try.underlying25 rfl HSZA0.out ?_) | (go_at_call 17; (with_reducible refine Calls.mono (SP.out _) ?_); rintro e1 wy ⟨rfl, hb9⟩; replace HW := Lib.hid (HW.out.trans hb9); replace K8 := Lib.hid (K8.out.bw hb9); replace K10 := Lib.hid (K10.out.bw hb9); replace K12 := Lib.hid (K12.out.bw hb9); clear hb9))
        obtain ⟨g14, hg14⟩ : ∃ g14, wy.heap.size = g14 := ⟨_, rfl⟩
        have hb9 := Bw.alloc (Bw.refl wy) (.cells #[.int .i64 s0, .int .i64 s1, .int .i64 s2] 27)
        have K14 := Lib.hid (Blk.new wy 27 #[.int .i64 s0, .int .i64 s1, .int .i64 s2])
        rw [hg14] at K14 ⊢
        replace HW := Lib.hid (HW.out.trans hb9); replace K8 := Lib.hid (K8.out.bw hb9); replace K10 := Lib.hid (K10.out.bw hb9); replace K12 := Lib.hid (K12.out.bw hb9)
        clear hb9
        generalize World.alloc wy _ = wt at *
        clear hg14 K7
        (try simp only [Act.put])
        obtain ⟨vb0, vb1, vb2, sb0, sb1, sb2⟩ := HVB.out
        have z140 := K14.out.cell (j := 0) (v := .int .i64 s0) rfl
        have z141 := K14.out.cell (j := 1) (v := .int .i64 s1) rfl
        have z142 := K14.out.cell (j := 2) (v := .int .i64 s2) rfl
        go_upto_region 9 with fail
        have z120 := K12.out.cell (j := 0) (v := .int .i64 v0) rfl
        have z121 := K12.out.cell (j := 1) (v := .int .i64 v1) rfl
        have z122 := K12.out.cell (j := 2) (v := .int .i64 v2) rfl
        go_upto_region 11 with fail
        clear z120 z121 z122 K12 vb0 vb1 vb2 sb0 sb1 sb2
        obtain ⟨he1, he2, heb⟩ := HEN.out
        have z80 := K8.out.cell (j := 0) (v := .int .i64 p0) rfl
        have z81 := K8.out.cell (j := 1) (v := .int .i64 p1) rfl
        have z82 := K8.out.cell (j := 2) (v := .int .i64 p2) rfl
        have z100 := K10.out.cell (j := 0) (v := .int .i64 q0) rfl
        have z101 := K10.out.cell (j := 1) (v := .int .i64 q1) rfl
        have z102 := K10.out.cell (j := 2) (v := .int .i64 q2) rfl
        by_cases c0 : e < 0
        · have hen := he1 c0
          clear he1 he2
          go_wp2_with (first | (go_at_call 18; (first | (with_reducible refine Calls.mono (WI0.out _) ?_) | (with_reducible refine Calls.mono (WI1.out _) ?_) | (with_reducible refine Calls.mono (WI2.out _) ?_)); rintro e1 wy ⟨rfl, hb9⟩; replace HW := Lib.hid (HW.out.trans hb9); replace K8 := Lib.hid (K8.out.bw hb9); replace K10 := Lib.hid (K10.out.bw hb9); replace K14 := Lib.hid (K14.out.bw hb9); clear hb9; clear z80 z81 z82 z100 z101 z102 z140 z141 z142; have z80 := K8.out.cell (j := 0) (v := .int .i64 p0) rfl; have z81 := K8.out.cell (j := 1) (v := .int .i64 p1) rfl; have z82 := K8.out.cell (j := 2) (v := .int .i64 p2) rfl; have z100 := K10.out.cell (j := 0) (v := .int .i64 q0) rfl; have z101 := K10.out.cell (j := 1) (v := .int .i64 q1) rfl; have z102 := K10.out.cell (j := 2) (v := .int .i64 q2) rfl; have z140 := K14.out.cell (j := 0) (v := .int .i64 s0) rfl; have z141 := K14.out.cell (j := 1) (v := .int .i64 s1) rfl; have z142 := K14.out.cell (j := 2) (v := .int .i64 s2) rfl) | (go_at_call 11; (with_reducible refine Calls.mono (AW.out _) ?_); rintro e1 wy ⟨rfl, hb9⟩; replace HW := Lib.hid (HW.out.trans hb9); clear hb9))
          go_ret
          exact ⟨rfl, HW.out⟩
        · obtain rfl : e = ns := he2 (by omega)
          clear he1 he2
          go_wp2_with (first | (go_at_call 18; (first | (with_reducible refine Calls.mono (WI0.out _) ?_) | (with_reducible refine Calls.mono (WI1.out _) ?_) | (with_reducible refine Calls.mono (WI2.out _) ?_)); rintro e1 wy ⟨rfl, hb9⟩; replace HW := Lib.hid (HW.out.trans hb9); replace K8 := Lib.hid (K8.out.bw hb9); replace K10 := Lib.hid (K10.out.bw hb9); replace K14 := Lib.hid (K14.out.bw hb9); clear hb9; clear z80 z81 z82 z100 z101 z102 z140 z141 z142; have z80 := K8.out.cell (j := 0) (v := .int .i64 p0) rfl; have z81 := K8.out.cell (j := 1) (v := .int .i64 p1) rfl; have z82 := K8.out.cell (j := 2) (v := .int .i64 p2) rfl; have z100 := K10.out.cell (j := 0) (v := .int .i64 q0) rfl; have z101 := K10.out.cell (j := 1) (v := .int .i64 q1) rfl; have z102 := K10.out.cell (j := 2) (v := .int .i64 q2) rfl; have z140 := K14.out.cell (j := 0) (v := .int .i64 s0) rfl; have z141 := K14.out.cell (j := 1) (v := .int .i64 s1) rfl; have z142 := K14.out.cell (j := 2) (v := .int .i64 s2) rfl) | (go_at_call 11; (with_reducible refine Calls.mono (AW.out _) ?_); rintro e1 wy ⟨rfl, hb9⟩; replace HW := Lib.hid (HW.out.trans hb9); clear hb9))
          go_ret
          exact ⟨rfl, HW.out⟩
end Go.Proofs.Sky
