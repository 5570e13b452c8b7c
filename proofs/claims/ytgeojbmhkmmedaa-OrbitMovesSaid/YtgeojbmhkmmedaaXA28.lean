/-
  lemmas for the theorems of this claim. No conditions beyond those written in the statements.
-/
import Derived.Test.YtgeojbmhkmmedaaWA28
set_option linter.unusedVariables false
set_option linter.unusedSimpArgs false
set_option linter.unnecessarySimpa false
namespace Go.Proofs.Sky
open Go Go.RowKit Go.Shelf
set_option maxHeartbeats 4000000
set_option maxRecDepth 8000
/-! chapter 28: OrbitSigns, the walk -/
theorem law_signs (zs : List Int) (v : Value) (a0 : Int) (w : World) (hv : RdI w v zs) : Calls Try.prog 6 #[v, .int .i64 a0] w fun e w' => e = .returned (.bool true) ∧ Bw w w' := by
  have HV := Lib.hid hv
  obtain ⟨ad, cap, rfl⟩ := hv.form
  have OF := Lib.hid (of28X_any true zs _ w hv)
  clear hv
  have BE := Lib.hid (fun n k W h1 h2 => Below_any n k W h1 h2)
  have hok := ofX28_ok true zs
  have hnk := nX_ok (zs := zs)
  have AW := Lib.hid (fun W => awake28_any W)
  have abd := bel_bd a0 14400000000001 (by decide)
  obtain ⟨a, ha⟩ : ∃ a, a = bel a0 14400000000001 - 7200000000000 := ⟨_, rfl⟩
  have hab : -7200000000000 ≤ a ∧ a ≤ 7200000000000 := by omega
  have hbx := fun j hj => ax_bd hok j hj
  have hx7 := (hbx 0 (by omega)).1
  have hx11 := (hbx 1 (by omega)).1
  have hx15 := (hbx 2 (by omega)).1
  generalize ofX28 true zs = X at *
  have AT0 := Lib.hid (fun W => at28L_any X 0 hok (by decide) W)
  have ATa := Lib.hid (fun W => at28L_any X a hok hab W)
  have ATn := Lib.hid (fun W => at28L_any (nX 3 X) a hnk hab W)
  have PS0 := Lib.hid (fun W => pos_at hok (a := 0) (by decide) W)
  have VS0 := Lib.hid (fun W => vel_at hok (a := 0) (by decide) W)
  have PSa := Lib.hid (fun W => pos_at hok hab W)
  have PSn := Lib.hid (fun W => pos_at hnk hab W)
  rw [pos_zero, pos_zero, pos_zero] at PS0
  rw [vel_zero, vel_zero, vel_zero] at VS0
  rw [pos_neg X a 0 (by omega), pos_neg X a 1 (by omega), pos_neg X a 2 (by omega)] at PSn
  simp only [Nat.mul_zero, Nat.add_zero, show 7 + 4 * 1 = 11 from rfl, show 7 + 4 * 2 = 15 from rfl, show 7 + 1 = 8 from rfl, show 11 + 1 = 12 from rfl, show 15 + 1 = 16 from rfl] at PS0 VS0 hx7 hx11 hx15
  have hl0 := pos_lim hok hab 0 (by omega)
  have hl1 := pos_lim hok hab 1 (by omega)
  have hl2 := pos_lim hok hab 2 (by omega)
  generalize posQ X a 0 = p0 at *
  generalize posQ X a 1 = p1 at *
  generalize posQ X a 2 = p2 at *
  obtain ⟨n0, hn0⟩ : ∃ n, n = -p0 := ⟨_, rfl⟩
  rw [← hn0] at PSn
  obtain ⟨n1, hn1⟩ : ∃ n, n = -p1 := ⟨_, rfl⟩
  rw [← hn1] at PSn
  obtain ⟨n2, hn2⟩ : ∃ n, n = -p2 := ⟨_, rfl⟩
  rw [← hn2] at PSn
  have HLM := Lib.hid (show (-n0 = p0 ∧ -n1 = p1 ∧ -n2 = p2) ∧ (-1000000000000 ≤ n0 ∧ n0 ≤ 1000000000000) ∧ (-1000000000000 ≤ n1 ∧ n1 ≤ 1000000000000) ∧ (-1000000000000 ≤ n2 ∧ n2 ≤ 1000000000000) by omega)
  clear hl0 hl1 hl2 hn0 hn1 hn2
  have c7 : (eV X)[7]? = some (.int .i64 (X 7)) := rfl
  have c8 : (eV X)[8]? = some (.int .i64 (X 8)) := rfl
  have c11 : (eV X)[11]? = some (.int .i64 (X 11)) := rfl
  have c12 : (eV X)[12]? = some (.int .i64 (X 12)) := rfl
  have c15 : (eV X)[15]? = some (.int .i64 (X 15)) := rfl
  have c16 : (eV X)[16]? = some (.int .i64 (X 16)) := rfl
  have R0 := Lib.hid (fun W g (hB : Blk W g 25 (eV X)) => ax_r7 hB)
  have NG0 := Lib.hid (fun W => neg28_any (X 7) (X 8) (X 9) (X 10) (by have : (X 7).natAbs ≤ 2147483648 := (hbx 0 (by omega)).1; omega) (by have : (X 8).natAbs ≤ 8388608 := (hbx 0 (by omega)).2.1; omega) (by have : (X 9).natAbs ≤ 2097152 := (hbx 0 (by omega)).2.2.1; omega) (by have : (X 10).natAbs ≤ 8388608 := (hbx 0 (by omega)).2.2.2; omega) W)
  have HB0 := Lib.hid (nX_0 X)
  have R1 := Lib.hid (fun W g (hB : Blk W g 25 (eV X)) => ax_r11 hB)
  have NG1 := Lib.hid (fun W => neg28_any (X 11) (X 12) (X 13) (X 14) (by have : (X 11).natAbs ≤ 2147483648 := (hbx 1 (by omega)).1; omega) (by have : (X 12).natAbs ≤ 8388608 := (hbx 1 (by omega)).2.1; omega) (by have : (X 13).natAbs ≤ 2097152 := (hbx 1 (by omega)).2.2.1; omega) (by have : (X 14).natAbs ≤ 8388608 := (hbx 1 (by omega)).2.2.2; omega) W)
  have HB1 := Lib.hid (nX_1 X)
  have R2 := Lib.hid (fun W g (hB : Blk W g 25 (eV X)) => ax_r15 hB)
  have NG2 := Lib.hid (fun W => neg28_any (X 15) (X 16) (X 17) (X 18) (by have : (X 15).natAbs ≤ 2147483648 := (hbx 2 (by omega)).1; omega) (by have : (X 16).natAbs ≤ 8388608 := (hbx 2 (by omega)).2.1; omega) (by have : (X 17).natAbs ≤ 2097152 := (hbx 2 (by omega)).2.2.1; omega) (by have : (X 18).natAbs ≤ 8388608 := (hbx 2 (by omega)).2.2.2; omega) W)
  have HB2 := Lib.hid (nX_2 X)
  clear hbx hok hnk abd
  rw [nX_zero] at HB0
  generalize X 7 = y00 at *
  generalize X 8 = y01 at *
  generalize X 9 = y02 at *
  generalize X 10 = y03 at *
  generalize X 11 = y10 at *
  generalize X 12 = y11 at *
  generalize X 13 = y12 at *
  generalize X 14 = y13 at *
  generalize X 15 = y20 at *
  generalize X 16 = y21 at *
  generalize X 17 = y22 at *
  generalize X 18 = y23 at *
  obtain ⟨q0, hq0⟩ : ∃ q, 16 * y00 = q := ⟨_, rfl⟩
  obtain ⟨q1, hq1⟩ : ∃ q, 16 * y10 = q := ⟨_, rfl⟩
  obtain ⟨q2, hq2⟩ : ∃ q, 16 * y20 = q := ⟨_, rfl⟩
  rw [hq0, hq1, hq2] at PS0
  have HQQ := Lib.hid (And.intro hq0 (And.intro hq1 (And.intro hq2 (And.intro hx7 (And.intro hx11 hx15)))))
  clear hq0 hq1 hq2 hx7 hx11 hx15
  have HSZA0 : Hid ((Try.prog.info? 25).map (·.size) = some (eV X).size) := Lib.hid (by kernel_rfl)
  have HSZA3 : Hid ((Try.prog.info? 25).map (·.size) = some (eV (nX 3 X)).size) := Lib.hid (by kernel_rfl)
  have HON : Hid ((eV X).all (·.oneCell') = true) := Lib.hid (by simp [Value.oneCell', eV])
  have HA0 : Hid ((eV X).size = 19) := Lib.hid rfl
  have HA1 : Hid ((eV (nX 1 X)).size = 19) := Lib.hid rfl
  have HA2 : Hid ((eV (nX 2 X)).size = 19) := Lib.hid rfl
  generalize lawT X 0 = lt0 at *
  generalize lawT X a = lta at *
  generalize lawT (nX 3 X) a = ltn at *
  generalize eV (nX 3 X) = A3 at *
  generalize eV (nX 2 X) = A2 at *
  generalize eV (nX 1 X) = A1 at *
  generalize eV X = A0 at *
  have ha2 : bel a0 14400000000001 - 7200000000000 = a := ha.symm
  clear ha
  have HW := Lib.hid (Bw.refl w)
  go_enter Try.func6, Try.ntmps6
  go_upto_region 2 with (first | (go_at_call 14; (with_reducible refine Calls.mono OF.out ?_); rintro e1 w1 ⟨rfl, hb9⟩; replace HW := Lib.hid hb9; clear hb9) | ((with_reducible refine at_store 25 (.tmp 5) (.tmp 16) ?_); refine wpList_store_row rfl 25 (.tmp 5) (.tmp 16) rfl w1.heap.size A0 rfl rfl 25 #[.int .i64 0, .int .i64 0, .int .i64 0, .int .i64 0, .int .i64 0, .int .i64 0, .int .i64 0, .int .i64 0, .int .i64 0, .int .i64 0, .int .i64 0, .int .i64 0, .int .i64 0, .int .i64 0, .int .i64 0, .int .i64 0, .int .i64 0, .int .i64 0, .int .i64 0] (Blk.new w1 25 #[.int .i64 0, .int .i64 0, .int .i64 0, .int .i64 0, .int .i64 0, .int .i64 0, .int .i64 0, .int .i64 0, .int .i64 0, .int .i64 0, .int .i64 0, .int .i64 0, .int .i64 0, .int .i64 0, .int .i64 0, .int .i64 0, .int .i64 0, .int .i64 0, .int .i64 0]) HSZA0.out (by rw [HA0.out]; rfl) HON.out ?_))
  obtain ⟨g5, hg5⟩ : ∃ g5, w1.heap.size = g5 := ⟨_, rfl⟩
  have hb9 := Bw.setRow (Bw.alloc (Bw.refl w1) (.cells #[.int .i64 0, .int .i64 0, .int .i64 0, .int .i64 0, .int .i64 0, .int .i64 0, .int .i64 0, .int .i64 0, .int .i64 0, .int .i64 0, .int .i64 0, .int .i64 0, .int .i64 0, .int .i64 0, .int .i64 0, .int .i64 0, .int .i64 0, .int .i64 0, .int .i64 0] 25)) (Nat.le_of_eq hg5) A0
  have K5 := Lib.hid ((Blk.new w1 25 #[.int .i64 0, .int .i64 0, .int .i64 0, .int .i64 0, .int .i64 0, .int .i64 0, .int .i64 0, .int .i64 0, .int .i64 0, .int .i64 0, .int .i64 0, .int .i64 0, .int .i64 0, .int .i64 0, .int .i64 0, .int .i64 0, .int .i64 0, .int .i64 0, .int .i64 0]).row A0)
  rw [hg5] at K5 ⊢
  replace HW := Lib.hid (HW.out.trans hb9)
  clear hb9
  generalize World.setRow (World.alloc w1 _) _ _ = wz at *
  clear hg5
  (try simp only [Act.put])
  have abd := bel_bd a0 14400000000001 (by decide)
  go_upto_region 3 with (go_at_call 15; (with_reducible refine Calls.mono (BE.out _ _ _ ?_ ?_) ?_); (focus decide); (focus decide); rintro e1 wx ⟨rfl, hb9⟩; replace HW := Lib.hid (HW.out.trans hb9); replace K5 := Lib.hid (K5.out.bw hb9); clear hb9)
  clear abd ha2
  go_upto_region 3 with fail
  obtain ⟨wv, hwq⟩ : ∃ wq, wq = wx := ⟨_, rfl⟩
  subst hwq
  go_cut [6, 7] from 123 (fun s1 s2 wx => ∃ g9, wv.heap.size ≤ g9 ∧ s1 = .pointer (some ⟨g9, 0, none⟩) ∧ s2 = .int .i64 0 ∧ Hid (Bw wv wx) ∧ Hid (Blk wx g9 27 #[.int .i64 q0, .int .i64 q1, .int .i64 q2]))
  case first =>
    refine wp_region_held_drew (S := Bw wv) (by kernel_rfl) (Bw.drew (Bw.refl _)) (fun hS => ?_)
    generalize World.drew _ = wd at hS ⊢
    refine take1 (i := 0) (some 21) rfl rfl (by kernel_rfl) (by kernel_rfl) (by kernel_rfl) (fun _ _ _ _ h => h) rfl hS ?_
    refine Exists.intro (.agg A0) ?_
    apply And.intro
    · intro W9 hW9; skip; exact run_load_row 25 _ rfl g5 rfl 25 A0 _ (K5.out.bw hW9) Try.underlying25 rfl HSZA0.out
    simp only [Act.put, List.setIfInBounds_toArray, List.set_cons_zero, List.set_cons_succ]
    refine take1 (i := 1) (some 22) rfl rfl (by kernel_rfl) (by kernel_rfl) (by kernel_rfl) (fun _ _ _ _ h => h) rfl hS ?_
    refine Exists.intro (.agg A0) ?_
    apply And.intro
    · intro W9 hW9; skip; exact run_load_row 25 _ rfl g5 rfl 25 A0 _ (K5.out.bw hW9) Try.underlying25 rfl HSZA0.out
    simp only [Act.put, List.setIfInBounds_toArray, List.set_cons_zero, List.set_cons_succ]
    refine wpAnyH_ready (rs := [2, 7]) (by kernel_rfl) (by simp) ?_
    refine AllReadyH.cons rfl (fun K hK => ?_) ?_
    go_simp
    go_wp2_with (go_at_call 16; (with_reducible refine Calls.mono (AT0.out _) ?_); rintro e1 w13 ⟨rfl, hb13⟩)
    refine hK.out _ _ (hS.trans hb13) (fun hS => ?_)
    clear hK K
    clear hb13
    refine wpAnyH_ready (rs := [3, 7]) (by kernel_rfl) (by simp) ?_
    refine AllReadyH.cons rfl (fun K hK => ?_) ?_
    go_simp
    go_wp2_with (go_at_call 7; (with_reducible refine Calls.mono (PS0.out _) ?_); rintro e1 w13 ⟨rfl, hb13⟩)
    refine hK.out _ _ (hS.trans hb13) (fun hS => ?_)
    clear hK K
    clear hb13
    refine take1 (i := 4) (some 20) rfl rfl (by kernel_rfl) (by kernel_rfl) (by kernel_rfl) (fun _ _ _ _ h => h) rfl hS ?_
    apply Exists.intro
    apply And.intro
    · intro W9 hW9; skip; go_simp; try with_reducible rfl
    simp only [Act.put, List.setIfInBounds_toArray, List.set_cons_zero, List.set_cons_succ]
    refine take1 (i := 5) (some 25) rfl rfl (by kernel_rfl) (by kernel_rfl) (by kernel_rfl) (fun _ _ _ _ h => h) rfl hS ?_
    apply Exists.intro
    apply And.intro
    · intro W9 hW9; skip; go_simp; try with_reducible rfl
    simp only [Act.put, List.setIfInBounds_toArray, List.set_cons_zero, List.set_cons_succ]
    refine take1 (i := 6) (some 26) rfl rfl (by kernel_rfl) (by kernel_rfl) (by kernel_rfl) (fun _ _ _ _ h => h) rfl hS ?_
    apply Exists.intro
    apply And.intro
    · intro W9 hW9; skip; go_simp; try with_reducible rfl
    simp only [Act.put, List.setIfInBounds_toArray, List.set_cons_zero, List.set_cons_succ]
    refine wpAnyH_ready (rs := [7]) (by kernel_rfl) (by simp) ?_
    refine AllReadyH.cons rfl (fun K hK => ?_) ?_
    rw [if_pos (by rfl)]
    refine wp_alloc_new28 27 rfl (some 6) rfl _ (zeroPO _) ?_
    intro g9 w5 hg5 hN hbw
    simp only [Act.put, List.setIfInBounds_toArray, List.set_cons_zero, List.set_cons_succ]
    have KT := Lib.hid hN
    have HT5 := Lib.hid (Nat.le_trans hS.size hg5)
    clear hN
    refine hK.out _ _ (hS.trans hbw) (fun hS => ?_)
    clear hK K
    clear hbw hg5
    refine wpAnyH_ready (rs := [8]) (by kernel_rfl) (by simp) ?_
    refine AllReadyH.cons rfl (fun K hK => ?_) ?_
    rw [if_pos (by rfl)]
    refine wp_store_row0 27 _ _ rfl rfl g9 #[.int .i64 q0, .int .i64 q1, .int .i64 q2] rfl rfl 27 #[.int .i64 0, .int .i64 0, .int .i64 0] KT.out (by kernel_rfl) rfl (by simp [Value.oneCell']) ?_
    replace KT := Lib.hid (KT.out.row #[.int .i64 q0, .int .i64 q1, .int .i64 q2])
    refine hK.out _ _ (Bw.setRow hS HT5.out #[.int .i64 q0, .int .i64 q1, .int .i64 q2]) (fun hS => ?_)
    clear hK K
    refine take1 (i := 9) (some 7) rfl rfl (by kernel_rfl) (by kernel_rfl) (by kernel_rfl) (fun _ _ _ _ h => h) rfl hS ?_
    apply Exists.intro
    apply And.intro
    · intro W9 hW9; skip; go_simp; try with_reducible rfl
    simp only [Act.put, List.setIfInBounds_toArray, List.set_cons_zero, List.set_cons_succ]
    refine wpAnyH_done (by kernel_rfl) ?_ _
    rotate_left
    exact AllReadyH.nil
    exact AllReadyH.nil
    refine AllReadyH.cons rfl (fun K hK => ?_) ?_
    rw [if_pos (by rfl)]
    refine wp_alloc_new28 27 rfl (some 6) rfl _ (zeroPO _) ?_
    intro g9 w5 hg5 hN hbw
    simp only [Act.put, List.setIfInBounds_toArray, List.set_cons_zero, List.set_cons_succ]
    have KT := Lib.hid hN
    have HT5 := Lib.hid (Nat.le_trans hS.size hg5)
    clear hN
    refine hK.out _ _ (hS.trans hbw) (fun hS => ?_)
    clear hK K
    clear hbw hg5
    refine wpAnyH_ready (rs := [3]) (by kernel_rfl) (by simp) ?_
    refine AllReadyH.cons rfl (fun K hK => ?_) ?_
    go_simp
    go_wp2_with (go_at_call 7; (with_reducible refine Calls.mono (PS0.out _) ?_); rintro e1 w13 ⟨rfl, hb13⟩)
    replace KT := Lib.hid (KT.out.bw hb13)
    refine hK.out _ _ (hS.trans hb13) (fun hS => ?_)
    clear hK K
    clear hb13
    refine take1 (i := 4) (some 20) rfl rfl (by kernel_rfl) (by kernel_rfl) (by kernel_rfl) (fun _ _ _ _ h => h) rfl hS ?_
    apply Exists.intro
    apply And.intro
    · intro W9 hW9; skip; go_simp; try with_reducible rfl
    simp only [Act.put, List.setIfInBounds_toArray, List.set_cons_zero, List.set_cons_succ]
    refine take1 (i := 5) (some 25) rfl rfl (by kernel_rfl) (by kernel_rfl) (by kernel_rfl) (fun _ _ _ _ h => h) rfl hS ?_
    apply Exists.intro
    apply And.intro
    · intro W9 hW9; skip; go_simp; try with_reducible rfl
    simp only [Act.put, List.setIfInBounds_toArray, List.set_cons_zero, List.set_cons_succ]
    refine take1 (i := 6) (some 26) rfl rfl (by kernel_rfl) (by kernel_rfl) (by kernel_rfl) (fun _ _ _ _ h => h) rfl hS ?_
    apply Exists.intro
    apply And.intro
    · intro W9 hW9; skip; go_simp; try with_reducible rfl
    simp only [Act.put, List.setIfInBounds_toArray, List.set_cons_zero, List.set_cons_succ]
    refine wpAnyH_ready (rs := [8]) (by kernel_rfl) (by simp) ?_
    refine AllReadyH.cons rfl (fun K hK => ?_) ?_
    rw [if_pos (by rfl)]
    refine wp_store_row0 27 _ _ rfl rfl g9 #[.int .i64 q0, .int .i64 q1, .int .i64 q2] rfl rfl 27 #[.int .i64 0, .int .i64 0, .int .i64 0] KT.out (by kernel_rfl) rfl (by simp [Value.oneCell']) ?_
    replace KT := Lib.hid (KT.out.row #[.int .i64 q0, .int .i64 q1, .int .i64 q2])
    refine hK.out _ _ (Bw.setRow hS HT5.out #[.int .i64 q0, .int .i64 q1, .int .i64 q2]) (fun hS => ?_)
    clear hK K
    refine take1 (i := 9) (some 7) rfl rfl (by kernel_rfl) (by kernel_rfl) (by kernel_rfl) (fun _ _ _ _ h => h) rfl hS ?_
    apply Exists.intro
    apply And.intro
    · intro W9 hW9; skip; go_simp; try with_reducible rfl
    simp only [Act.put, List.setIfInBounds_toArray, List.set_cons_zero, List.set_cons_succ]
    refine wpAnyH_done (by kernel_rfl) ?_ _
    rotate_left
    exact AllReadyH.nil
    exact AllReadyH.nil
    exact AllReadyH.nil
    refine AllReadyH.cons rfl (fun K hK => ?_) ?_
    rw [if_pos (by rfl)]
    refine wp_alloc_new28 27 rfl (some 6) rfl _ (zeroPO _) ?_
    intro g9 w5 hg5 hN hbw
    simp only [Act.put, List.setIfInBounds_toArray, List.set_cons_zero, List.set_cons_succ]
    have KT := Lib.hid hN
    have HT5 := Lib.hid (Nat.le_trans hS.size hg5)
    clear hN
    refine hK.out _ _ (hS.trans hbw) (fun hS => ?_)
    clear hK K
    clear hbw hg5
    refine wpAnyH_ready (rs := [2]) (by kernel_rfl) (by simp) ?_
    refine AllReadyH.cons rfl (fun K hK => ?_) ?_
    go_simp
    go_wp2_with (go_at_call 16; (with_reducible refine Calls.mono (AT0.out _) ?_); rintro e1 w13 ⟨rfl, hb13⟩)
    replace KT := Lib.hid (KT.out.bw hb13)
    refine hK.out _ _ (hS.trans hb13) (fun hS => ?_)
    clear hK K
    clear hb13
    refine wpAnyH_ready (rs := [3]) (by kernel_rfl) (by simp) ?_
    refine AllReadyH.cons rfl (fun K hK => ?_) ?_
    go_simp
    go_wp2_with (go_at_call 7; (with_reducible refine Calls.mono (PS0.out _) ?_); rintro e1 w13 ⟨rfl, hb13⟩)
    replace KT := Lib.hid (KT.out.bw hb13)
    refine hK.out _ _ (hS.trans hb13) (fun hS => ?_)
    clear hK K
    clear hb13
    refine take1 (i := 4) (some 20) rfl rfl (by kernel_rfl) (by kernel_rfl) (by kernel_rfl) (fun _ _ _ _ h => h) rfl hS ?_
    apply Exists.intro
    apply And.intro
    · intro W9 hW9; skip; go_simp; try with_reducible rfl
    simp only [Act.put, List.setIfInBounds_toArray, List.set_cons_zero, List.set_cons_succ]
    refine take1 (i := 5) (some 25) rfl rfl (by kernel_rfl) (by kernel_rfl) (by kernel_rfl) (fun _ _ _ _ h => h) rfl hS ?_
    apply Exists.intro
    apply And.intro
    · intro W9 hW9; skip; go_simp; try with_reducible rfl
    simp only [Act.put, List.setIfInBounds_toArray, List.set_cons_zero, List.set_cons_succ]
    refine take1 (i := 6) (some 26) rfl rfl (by kernel_rfl) (by kernel_rfl) (by kernel_rfl) (fun _ _ _ _ h => h) rfl hS ?_
    apply Exists.intro
    apply And.intro
    · intro W9 hW9; skip; go_simp; try with_reducible rfl
    simp only [Act.put, List.setIfInBounds_toArray, List.set_cons_zero, List.set_cons_succ]
    refine wpAnyH_ready (rs := [8]) (by kernel_rfl) (by simp) ?_
    refine AllReadyH.cons rfl (fun K hK => ?_) ?_
    rw [if_pos (by rfl)]
    refine wp_store_row0 27 _ _ rfl rfl g9 #[.int .i64 q0, .int .i64 q1, .int .i64 q2] rfl rfl 27 #[.int .i64 0, .int .i64 0, .int .i64 0] KT.out (by kernel_rfl) rfl (by simp [Value.oneCell']) ?_
    replace KT := Lib.hid (KT.out.row #[.int .i64 q0, .int .i64 q1, .int .i64 q2])
    refine hK.out _ _ (Bw.setRow hS HT5.out #[.int .i64 q0, .int .i64 q1, .int .i64 q2]) (fun hS => ?_)
    clear hK K
    refine take1 (i := 9) (some 7) rfl rfl (by kernel_rfl) (by kernel_rfl) (by kernel_rfl) (fun _ _ _ _ h => h) rfl hS ?_
    apply Exists.intro
    apply And.intro
    · intro W9 hW9; skip; go_simp; try with_reducible rfl
    simp only [Act.put, List.setIfInBounds_toArray, List.set_cons_zero, List.set_cons_succ]
    refine wpAnyH_done (by kernel_rfl) ?_ _
    rotate_left
    exact AllReadyH.nil
    exact AllReadyH.nil
    exact AllReadyH.nil
    exact AllReadyH.nil
    all_goals
      go_wp2
      go_meet
      exact ⟨g9, HT5.out, rfl, rfl, Lib.hid hS, KT⟩
  case rest =>
    obtain ⟨g6, h9, rfl, rfl, hb9, K6⟩ := hcut
    have hb9 := hb9.out
    replace HW := Lib.hid (HW.out.trans hb9)
    replace K5 := Lib.hid (K5.out.bw hb9)
    clear hb9 h9
    obtain ⟨wx, hwx⟩ : ∃ wx, wx = wc := ⟨_, rfl⟩
    subst hwx
    go_upto_region 4 with fail
    obtain ⟨wv, hwq⟩ : ∃ wq, wq = wx := ⟨_, rfl⟩
    subst hwq
    go_cut [8, 9] from 123 (fun s1 s2 wx => ∃ g9, wv.heap.size ≤ g9 ∧ s1 = .pointer (some ⟨g9, 0, none⟩) ∧ s2 = .int .i64 0 ∧ Hid (Bw wv wx) ∧ Hid (Blk wx g9 27 #[.int .i64 y01, .int .i64 y11, .int .i64 y21]))
    case first =>
      refine wp_region_held_drew (S := Bw wv) (by kernel_rfl) (Bw.drew (Bw.refl _)) (fun hS => ?_)
      generalize World.drew _ = wd at hS ⊢
      refine take1 (i := 0) (some 28) rfl rfl (by kernel_rfl) (by kernel_rfl) (by kernel_rfl) (fun _ _ _ _ h => h) rfl hS ?_
      refine Exists.intro (.agg A0) ?_
      apply And.intro
      · intro W9 hW9; skip; exact run_load_row 25 _ rfl g5 rfl 25 A0 _ (K5.out.bw hW9) Try.underlying25 rfl HSZA0.out
      simp only [Act.put, List.setIfInBounds_toArray, List.set_cons_zero, List.set_cons_succ]
      refine take1 (i := 1) (some 29) rfl rfl (by kernel_rfl) (by kernel_rfl) (by kernel_rfl) (fun _ _ _ _ h => h) rfl hS ?_
      refine Exists.intro (.agg A0) ?_
      apply And.intro
      · intro W9 hW9; skip; exact run_load_row 25 _ rfl g5 rfl 25 A0 _ (K5.out.bw hW9) Try.underlying25 rfl HSZA0.out
      simp only [Act.put, List.setIfInBounds_toArray, List.set_cons_zero, List.set_cons_succ]
      refine wpAnyH_ready (rs := [2, 7]) (by kernel_rfl) (by simp) ?_
      refine AllReadyH.cons rfl (fun K hK => ?_) ?_
      go_simp
      go_wp2_with (go_at_call 16; (with_reducible refine Calls.mono (AT0.out _) ?_); rintro e1 w13 ⟨rfl, hb13⟩)
      refine hK.out _ _ (hS.trans hb13) (fun hS => ?_)
      clear hK K
      clear hb13
      refine wpAnyH_ready (rs := [3, 7]) (by kernel_rfl) (by simp) ?_
      refine AllReadyH.cons rfl (fun K hK => ?_) ?_
      go_simp
      go_wp2_with (go_at_call 9; (with_reducible refine Calls.mono (VS0.out _) ?_); rintro e1 w13 ⟨rfl, hb13⟩)
      refine hK.out _ _ (hS.trans hb13) (fun hS => ?_)
      clear hK K
      clear hb13
      refine take1 (i := 4) (some 27) rfl rfl (by kernel_rfl) (by kernel_rfl) (by kernel_rfl) (fun _ _ _ _ h => h) rfl hS ?_
      apply Exists.intro
      apply And.intro
      · intro W9 hW9; skip; go_simp; try with_reducible rfl
      simp only [Act.put, List.setIfInBounds_toArray, List.set_cons_zero, List.set_cons_succ]
      refine take1 (i := 5) (some 32) rfl rfl (by kernel_rfl) (by kernel_rfl) (by kernel_rfl) (fun _ _ _ _ h => h) rfl hS ?_
      apply Exists.intro
      apply And.intro
      · intro W9 hW9; skip; go_simp; try with_reducible rfl
      simp only [Act.put, List.setIfInBounds_toArray, List.set_cons_zero, List.set_cons_succ]
      refine take1 (i := 6) (some 33) rfl rfl (by kernel_rfl) (by kernel_rfl) (by kernel_rfl) (fun _ _ _ _ h => h) rfl hS ?_
      apply Exists.intro
      apply And.intro
      · intro W9 hW9; skip; go_simp; try with_reducible rfl
      simp only [Act.put, List.setIfInBounds_toArray, List.set_cons_zero, List.set_cons_succ]
      refine wpAnyH_ready (rs := [7]) (by kernel_rfl) (by simp) ?_
      refine AllReadyH.cons rfl (fun K hK => ?_) ?_
      rw [if_pos (by rfl)]
      refine wp_alloc_new28 27 rfl (some 8) rfl _ (zeroPO _) ?_
      intro g9 w5 hg5 hN hbw
      simp only [Act.put, List.setIfInBounds_toArray, List.set_cons_zero, List.set_cons_succ]
      have KT := Lib.hid hN
      have HT5 := Lib.hid (Nat.le_trans hS.size hg5)
      clear hN
      refine hK.out _ _ (hS.trans hbw) (fun hS => ?_)
      clear hK K
      clear hbw hg5
      refine wpAnyH_ready (rs := [8]) (by kernel_rfl) (by simp) ?_
      refine AllReadyH.cons rfl (fun K hK => ?_) ?_
      rw [if_pos (by rfl)]
      refine wp_store_row0 27 _ _ rfl rfl g9 #[.int .i64 y01, .int .i64 y11, .int .i64 y21] rfl rfl 27 #[.int .i64 0, .int .i64 0, .int .i64 0] KT.out (by kernel_rfl) rfl (by simp [Value.oneCell']) ?_
      replace KT := Lib.hid (KT.out.row #[.int .i64 y01, .int .i64 y11, .int .i64 y21])
      refine hK.out _ _ (Bw.setRow hS HT5.out #[.int .i64 y01, .int .i64 y11, .int .i64 y21]) (fun hS => ?_)
      clear hK K
      refine take1 (i := 9) (some 9) rfl rfl (by kernel_rfl) (by kernel_rfl) (by kernel_rfl) (fun _ _ _ _ h => h) rfl hS ?_
      apply Exists.intro
      apply And.intro
      · intro W9 hW9; skip; go_simp; try with_reducible rfl
      simp only [Act.put, List.setIfInBounds_toArray, List.set_cons_zero, List.set_cons_succ]
      refine wpAnyH_done (by kernel_rfl) ?_ _
      rotate_left
      exact AllReadyH.nil
      exact AllReadyH.nil
      refine AllReadyH.cons rfl (fun K hK => ?_) ?_
      rw [if_pos (by rfl)]
      refine wp_alloc_new28 27 rfl (some 8) rfl _ (zeroPO _) ?_
      intro g9 w5 hg5 hN hbw
      simp only [Act.put, List.setIfInBounds_toArray, List.set_cons_zero, List.set_cons_succ]
      have KT := Lib.hid hN
      have HT5 := Lib.hid (Nat.le_trans hS.size hg5)
      clear hN
      refine hK.out _ _ (hS.trans hbw) (fun hS => ?_)
      clear hK K
      clear hbw hg5
      refine wpAnyH_ready (rs := [3]) (by kernel_rfl) (by simp) ?_
      refine AllReadyH.cons rfl (fun K hK => ?_) ?_
      go_simp
      go_wp2_with (go_at_call 9; (with_reducible refine Calls.mono (VS0.out _) ?_); rintro e1 w13 ⟨rfl, hb13⟩)
      replace KT := Lib.hid (KT.out.bw hb13)
      refine hK.out _ _ (hS.trans hb13) (fun hS => ?_)
      clear hK K
      clear hb13
      refine take1 (i := 4) (some 27) rfl rfl (by kernel_rfl) (by kernel_rfl) (by kernel_rfl) (fun _ _ _ _ h => h) rfl hS ?_
      apply Exists.intro
      apply And.intro
      · intro W9 hW9; skip; go_simp; try with_reducible rfl
      simp only [Act.put, List.setIfInBounds_toArray, List.set_cons_zero, List.set_cons_succ]
      refine take1 (i := 5) (some 32) rfl rfl (by kernel_rfl) (by kernel_rfl) (by kernel_rfl) (fun _ _ _ _ h => h) rfl hS ?_
      apply Exists.intro
      apply And.intro
      · intro W9 hW9; skip; go_simp; try with_reducible rfl
      simp only [Act.put, List.setIfInBounds_toArray, List.set_cons_zero, List.set_cons_succ]
      refine take1 (i := 6) (some 33) rfl rfl (by kernel_rfl) (by kernel_rfl) (by kernel_rfl) (fun _ _ _ _ h => h) rfl hS ?_
      apply Exists.intro
      apply And.intro
      · intro W9 hW9; skip; go_simp; try with_reducible rfl
      simp only [Act.put, List.setIfInBounds_toArray, List.set_cons_zero, List.set_cons_succ]
      refine wpAnyH_ready (rs := [8]) (by kernel_rfl) (by simp) ?_
      refine AllReadyH.cons rfl (fun K hK => ?_) ?_
      rw [if_pos (by rfl)]
      refine wp_store_row0 27 _ _ rfl rfl g9 #[.int .i64 y01, .int .i64 y11, .int .i64 y21] rfl rfl 27 #[.int .i64 0, .int .i64 0, .int .i64 0] KT.out (by kernel_rfl) rfl (by simp [Value.oneCell']) ?_
      replace KT := Lib.hid (KT.out.row #[.int .i64 y01, .int .i64 y11, .int .i64 y21])
      refine hK.out _ _ (Bw.setRow hS HT5.out #[.int .i64 y01, .int .i64 y11, .int .i64 y21]) (fun hS => ?_)
      clear hK K
      refine take1 (i := 9) (some 9) rfl rfl (by kernel_rfl) (by kernel_rfl) (by kernel_rfl) (fun _ _ _ _ h => h) rfl hS ?_
      apply Exists.intro
      apply And.intro
      · intro W9 hW9; skip; go_simp; try with_reducible rfl
      simp only [Act.put, List.setIfInBounds_toArray, List.set_cons_zero, List.set_cons_succ]
      refine wpAnyH_done (by kernel_rfl) ?_ _
      rotate_left
      exact AllReadyH.nil
      exact AllReadyH.nil
      exact AllReadyH.nil
      refine AllReadyH.cons rfl (fun K hK => ?_) ?_
      rw [if_pos (by rfl)]
      refine wp_alloc_new28 27 rfl (some 8) rfl _ (zeroPO _) ?_
      intro g9 w5 hg5 hN hbw
      simp only [Act.put, List.setIfInBounds_toArray, List.set_cons_zero, List.set_cons_succ]
      have KT := Lib.hid hN
      have HT5 := Lib.hid (Nat.le_trans hS.size hg5)
      clear hN
      refine hK.out _ _ (hS.trans hbw) (fun hS => ?_)
      clear hK K
      clear hbw hg5
      refine wpAnyH_ready (rs := [2]) (by kernel_rfl) (by simp) ?_
      refine AllReadyH.cons rfl (fun K hK => ?_) ?_
      go_simp
      go_wp2_with (go_at_call 16; (with_reducible refine Calls.mono (AT0.out _) ?_); rintro e1 w13 ⟨rfl, hb13⟩)
      replace KT := Lib.hid (KT.out.bw hb13)
      refine hK.out _ _ (hS.trans hb13) (fun hS => ?_)
      clear hK K
      clear hb13
      refine wpAnyH_ready (rs := [3]) (by kernel_rfl) (by simp) ?_
      refine AllReadyH.cons rfl (fun K hK => ?_) ?_
      go_simp
      go_wp2_with (go_at_call 9; (with_reducible refine Calls.mono (VS0.out _) ?_); rintro e1 w13 ⟨rfl, hb13⟩)
      replace KT := Lib.hid (KT.out.bw hb13)
      refine hK.out _ _ (hS.trans hb13) (fun hS => ?_)
      clear hK K
      clear hb13
      refine take1 (i := 4) (some 27) rfl rfl (by kernel_rfl) (by kernel_rfl) (by kernel_rfl) (fun _ _ _ _ h => h) rfl hS ?_
      apply Exists.intro
      apply And.intro
      · intro W9 hW9; skip; go_simp; try with_reducible rfl
      simp only [Act.put, List.setIfInBounds_toArray, List.set_cons_zero, List.set_cons_succ]
      refine take1 (i := 5) (some 32) rfl rfl (by kernel_rfl) (by kernel_rfl) (by kernel_rfl) (fun _ _ _ _ h => h) rfl hS ?_
      apply Exists.intro
      apply And.intro
      · intro W9 hW9; skip; go_simp; try with_reducible rfl
      simp only [Act.put, List.setIfInBounds_toArray, List.set_cons_zero, List.set_cons_succ]
      refine take1 (i := 6) (some 33) rfl rfl (by kernel_rfl) (by kernel_rfl) (by kernel_rfl) (fun _ _ _ _ h => h) rfl hS ?_
      apply Exists.intro
      apply And.intro
      · intro W9 hW9; skip; go_simp; try with_reducible rfl
      simp only [Act.put, List.setIfInBounds_toArray, List.set_cons_zero, List.set_cons_succ]
      refine wpAnyH_ready (rs := [8]) (by kernel_rfl) (by simp) ?_
      refine AllReadyH.cons rfl (fun K hK => ?_) ?_
      rw [if_pos (by rfl)]
      refine wp_store_row0 27 _ _ rfl rfl g9 #[.int .i64 y01, .int .i64 y11, .int .i64 y21] rfl rfl 27 #[.int .i64 0, .int .i64 0, .int .i64 0] KT.out (by kernel_rfl) rfl (by simp [Value.oneCell']) ?_
      replace KT := Lib.hid (KT.out.row #[.int .i64 y01, .int .i64 y11, .int .i64 y21])
      refine hK.out _ _ (Bw.setRow hS HT5.out #[.int .i64 y01, .int .i64 y11, .int .i64 y21]) (fun hS => ?_)
      clear hK K
      refine take1 (i := 9) (some 9) rfl rfl (by kernel_rfl) (by kernel_rfl) (by kernel_rfl) (fun _ _ _ _ h => h) rfl hS ?_
      apply Exists.intro
      apply And.intro
      · intro W9 hW9; skip; go_simp; try with_reducible rfl
      simp only [Act.put, List.setIfInBounds_toArray, List.set_cons_zero, List.set_cons_succ]
      refine wpAnyH_done (by kernel_rfl) ?_ _
      rotate_left
      exact AllReadyH.nil
      exact AllReadyH.nil
      exact AllReadyH.nil
      exact AllReadyH.nil
      all_goals
        go_wp2
        go_meet
        exact ⟨g9, HT5.out, rfl, rfl, Lib.hid hS, KT⟩
    case rest =>
      obtain ⟨g8, h9, rfl, rfl, hb9, K8⟩ := hcut
      have hb9 := hb9.out
      replace HW := Lib.hid (HW.out.trans hb9)
      replace K5 := Lib.hid (K5.out.bw hb9)
      replace K6 := Lib.hid (K6.out.bw hb9)
      clear hb9 h9
      obtain ⟨wx, hwx⟩ : ∃ wx, wx = wc := ⟨_, rfl⟩
      subst hwx
      have x7 := K5.out.cell c7
      have x8 := K5.out.cell c8
      have x11 := K5.out.cell c11
      have x12 := K5.out.cell c12
      have x15 := K5.out.cell c15
      have x16 := K5.out.cell c16
      obtain ⟨hq0, hq1, hq2, hx7, hx11, hx15⟩ := HQQ.out
      have hqq := fun x y z W => eqP_self x y z W
      have hgg := fun W a b op p q => eqP_guard a b op p q W
      go_upto_region 7 with (first | ((with_reducible refine at_load 27 (.tmp 6) ?_); refine wpList_load_roww28 27 _ rfl g6 rfl 27 #[.int .i64 q0, .int .i64 q1, .int .i64 q2] (0, 0) _ K6.out Try.underlying27 rfl (by kernel_rfl) (by rfl) ?_) | ((with_reducible refine at_load 27 (.tmp 8) ?_); refine wpList_load_roww28 27 _ rfl g8 rfl 27 #[.int .i64 y01, .int .i64 y11, .int .i64 y21] (0, 0) _ K8.out Try.underlying27 rfl (by kernel_rfl) (by rfl) ?_))
      clear x7 x8 x11 x12 x15 x16 hq0 hq1 hq2 hx7 hx11 hx15 hqq hgg K6 K8
      obtain ⟨wv, hwq⟩ : ∃ wq, wq = wx := ⟨_, rfl⟩
      subst hwq
      go_upto_region 8 with (first | ((with_reducible refine at_load 25 (.tmp 5) ?_); refine wpList_load_row rfl 25 _ rfl g5 rfl 25 A0 (0, 0) _ K5.out Try.underlying25 rfl HSZA0.out ?_) | ((with_reducible refine at_store 25 (.tmp 10) (.tmp 71) ?_); refine wpList_store_row rfl 25 (.tmp 10) (.tmp 71) rfl wv.heap.size A0 rfl rfl 25 #[.int .i64 0, .int .i64 0, .int .i64 0, .int .i64 0, .int .i64 0, .int .i64 0, .int .i64 0, .int .i64 0, .int .i64 0, .int .i64 0, .int .i64 0, .int .i64 0, .int .i64 0, .int .i64 0, .int .i64 0, .int .i64 0, .int .i64 0, .int .i64 0, .int .i64 0] (Blk.new wv 25 #[.int .i64 0, .int .i64 0, .int .i64 0, .int .i64 0, .int .i64 0, .int .i64 0, .int .i64 0, .int .i64 0, .int .i64 0, .int .i64 0, .int .i64 0, .int .i64 0, .int .i64 0, .int .i64 0, .int .i64 0, .int .i64 0, .int .i64 0, .int .i64 0, .int .i64 0]) HSZA0.out (by rw [HA0.out]; rfl) HON.out ?_))
      obtain ⟨g10, hg10⟩ : ∃ g10, wv.heap.size = g10 := ⟨_, rfl⟩
      have HG10 := Lib.hid (show g5 < g10 by have := K5.out.lt; omega)
      have hb9 := Bw.setRow (Bw.alloc (Bw.refl wv) (.cells #[.int .i64 0, .int .i64 0, .int .i64 0, .int .i64 0, .int .i64 0, .int .i64 0, .int .i64 0, .int .i64 0, .int .i64 0, .int .i64 0, .int .i64 0, .int .i64 0, .int .i64 0, .int .i64 0, .int .i64 0, .int .i64 0, .int .i64 0, .int .i64 0, .int .i64 0] 25)) (Nat.le_of_eq hg10) A0
      have KN := Lib.hid ((Blk.new wv 25 #[.int .i64 0, .int .i64 0, .int .i64 0, .int .i64 0, .int .i64 0, .int .i64 0, .int .i64 0, .int .i64 0, .int .i64 0, .int .i64 0, .int .i64 0, .int .i64 0, .int .i64 0, .int .i64 0, .int .i64 0, .int .i64 0, .int .i64 0, .int .i64 0, .int .i64 0]).row A0)
      have HWG := Lib.hid (show w.heap.size ≤ g10 by have := HW.out.size; omega)
      rw [hg10] at KN ⊢
      replace HW := Lib.hid (HW.out.trans hb9)
      replace K5 := Lib.hid (K5.out.bw hb9)
      clear hb9
      generalize World.setRow (World.alloc wv _) _ _ = wu at *
      clear hg10
      (try simp only [Act.put])
      go_cut [] from 123 (fun wy => Hid (Kx g10 wu wy) ∧ Hid (Blk wy g10 25 A3))
      case first =>
        refine wp_region_held_drew (S := Kx g10 wu) (by kernel_rfl) (Kx.of_bw (Bw.drew (Bw.refl _)) (Nat.le_of_lt KN.out.lt)) (fun hS => ?_)
        replace KN := Lib.hid (KN.out.bw (Bw.drew (Bw.refl _)))
        generalize World.drew _ = wd at hS KN ⊢
        refine take1 (i := 0) (some 72) rfl rfl (by kernel_rfl) (by kernel_rfl) (by kernel_rfl) (fun _ _ _ _ h => h) rfl hS ?_
        apply Exists.intro
        apply And.intro
        · intro W9 hW9; skip; go_simp; try with_reducible rfl
        simp only [Act.put, List.setIfInBounds_toArray, List.set_cons_zero, List.set_cons_succ]
        refine take1 (i := 1) (some 73) rfl rfl (by kernel_rfl) (by kernel_rfl) (by kernel_rfl) (fun _ _ _ _ h => h) rfl hS ?_
        refine Exists.intro (.agg #[.int .i64 y00, .int .i64 y01, .int .i64 y02, .int .i64 y03]) ?_
        apply And.intro
        · intro W9 hW9; skip; exact run_load_ax _ rfl g5 7 rfl (R0.out _ _ (hW9.blk K5.out (by have := HG10.out; omega)))
        simp only [Act.put, List.setIfInBounds_toArray, List.set_cons_zero, List.set_cons_succ]
        refine take1 (i := 3) (some 75) rfl rfl (by kernel_rfl) (by kernel_rfl) (by kernel_rfl) (fun _ _ _ _ h => h) rfl hS ?_
        apply Exists.intro
        apply And.intro
        · intro W9 hW9; skip; go_simp; try with_reducible rfl
        simp only [Act.put, List.setIfInBounds_toArray, List.set_cons_zero, List.set_cons_succ]
        refine take1 (i := 4) (some 76) rfl rfl (by kernel_rfl) (by kernel_rfl) (by kernel_rfl) (fun _ _ _ _ h => h) rfl hS ?_
        refine Exists.intro (.agg #[.int .i64 y10, .int .i64 y11, .int .i64 y12, .int .i64 y13]) ?_
        apply And.intro
        · intro W9 hW9; skip; exact run_load_ax _ rfl g5 11 rfl (R1.out _ _ (hW9.blk K5.out (by have := HG10.out; omega)))
        simp only [Act.put, List.setIfInBounds_toArray, List.set_cons_zero, List.set_cons_succ]
        refine take1 (i := 6) (some 78) rfl rfl (by kernel_rfl) (by kernel_rfl) (by kernel_rfl) (fun _ _ _ _ h => h) rfl hS ?_
        apply Exists.intro
        apply And.intro
        · intro W9 hW9; skip; go_simp; try with_reducible rfl
        simp only [Act.put, List.setIfInBounds_toArray, List.set_cons_zero, List.set_cons_succ]
        refine take1 (i := 7) (some 79) rfl rfl (by kernel_rfl) (by kernel_rfl) (by kernel_rfl) (fun _ _ _ _ h => h) rfl hS ?_
        refine Exists.intro (.agg #[.int .i64 y20, .int .i64 y21, .int .i64 y22, .int .i64 y23]) ?_
        apply And.intro
        · intro W9 hW9; skip; exact run_load_ax _ rfl g5 15 rfl (R2.out _ _ (hW9.blk K5.out (by have := HG10.out; omega)))
        simp only [Act.put, List.setIfInBounds_toArray, List.set_cons_zero, List.set_cons_succ]
        refine wpAnyH_ready (rs := [2]) (by kernel_rfl) (by simp) ?_
        refine AllReadyH.cons rfl (fun K hK => ?_) ?_
        go_simp
        go_wp2_with (go_at_call 19; (with_reducible refine Calls.mono (NG0.out _) ?_); rintro e1 wd ⟨rfl, hb13⟩)
        have hle := Nat.le_of_lt KN.out.lt
        replace KN := Lib.hid (KN.out.bw hb13)
        refine hK.out _ _ (hS.trans (Kx.of_bw hb13 hle)) (fun hS => ?_)
        clear hK K
        clear hb13 hle
        refine take1 (i := 9) (some 81) rfl rfl (by kernel_rfl) (by kernel_rfl) (by kernel_rfl) (fun _ _ _ _ h => h) rfl hS ?_
        apply Exists.intro
        apply And.intro
        · intro W9 hW9; skip; go_simp; try with_reducible rfl
        simp only [Act.put, List.setIfInBounds_toArray, List.set_cons_zero, List.set_cons_succ]
        refine wpAnyH_ready (rs := [5]) (by kernel_rfl) (by simp) ?_
        refine AllReadyH.cons rfl (fun K hK => ?_) ?_
        go_simp
        go_wp2_with (go_at_call 19; (with_reducible refine Calls.mono (NG1.out _) ?_); rintro e1 wd ⟨rfl, hb13⟩)
        have hle := Nat.le_of_lt KN.out.lt
        replace KN := Lib.hid (KN.out.bw hb13)
        refine hK.out _ _ (hS.trans (Kx.of_bw hb13 hle)) (fun hS => ?_)
        clear hK K
        clear hb13 hle
        refine wpAnyH_ready (rs := [8]) (by kernel_rfl) (by simp) ?_
        refine AllReadyH.cons rfl (fun K hK => ?_) ?_
        go_simp
        go_wp2_with (go_at_call 19; (with_reducible refine Calls.mono (NG2.out _) ?_); rintro e1 wd ⟨rfl, hb13⟩)
        have hle := Nat.le_of_lt KN.out.lt
        replace KN := Lib.hid (KN.out.bw hb13)
        refine hK.out _ _ (hS.trans (Kx.of_bw hb13 hle)) (fun hS => ?_)
        clear hK K
        clear hb13 hle
        refine wpAnyH_ready (rs := [10]) (by kernel_rfl) (by simp) ?_
        refine AllReadyH.cons rfl (fun K hK => ?_) ?_
        rw [if_pos (by rfl)]
        have hst := Kx.row KN.out.lt A1
        refine wp_store_at28 23 _ _ rfl g10 7 #[.int .i64 (-y00), .int .i64 (-y01), .int .i64 (-y02), .int .i64 (-y03)] rfl rfl 25 A0 KN.out (by kernel_rfl) (by rw [HA0.out]; exact (by decide : 7 + 4 ≤ 19)) (by simp [Value.oneCell']) ?_
        rw [HB0.out]
        replace KN := Lib.hid (KN.out.row A1)
        refine hK.out _ _ (hS.trans hst) (fun hS => ?_)
        clear hK K
        clear hst
        refine take1 (i := 11) (some 82) rfl rfl (by kernel_rfl) (by kernel_rfl) (by kernel_rfl) (fun _ _ _ _ h => h) rfl hS ?_
        apply Exists.intro
        apply And.intro
        · intro W9 hW9; skip; go_simp; try with_reducible rfl
        simp only [Act.put, List.setIfInBounds_toArray, List.set_cons_zero, List.set_cons_succ]
        refine wpAnyH_ready (rs := [12]) (by kernel_rfl) (by simp) ?_
        refine AllReadyH.cons rfl (fun K hK => ?_) ?_
        rw [if_pos (by rfl)]
        have hst := Kx.row KN.out.lt A2
        refine wp_store_at28 23 _ _ rfl g10 11 #[.int .i64 (-y10), .int .i64 (-y11), .int .i64 (-y12), .int .i64 (-y13)] rfl rfl 25 A1 KN.out (by kernel_rfl) (by rw [HA1.out]; exact (by decide : 11 + 4 ≤ 19)) (by simp [Value.oneCell']) ?_
        rw [HB1.out]
        replace KN := Lib.hid (KN.out.row A2)
        refine hK.out _ _ (hS.trans hst) (fun hS => ?_)
        clear hK K
        clear hst
        refine take1 (i := 13) (some 83) rfl rfl (by kernel_rfl) (by kernel_rfl) (by kernel_rfl) (fun _ _ _ _ h => h) rfl hS ?_
        apply Exists.intro
        apply And.intro
        · intro W9 hW9; skip; go_simp; try with_reducible rfl
        simp only [Act.put, List.setIfInBounds_toArray, List.set_cons_zero, List.set_cons_succ]
        refine wpAnyH_ready (rs := [14]) (by kernel_rfl) (by simp) ?_
        refine AllReadyH.cons rfl (fun K hK => ?_) ?_
        rw [if_pos (by rfl)]
        have hst := Kx.row KN.out.lt A3
        refine wp_store_at28 23 _ _ rfl g10 15 #[.int .i64 (-y20), .int .i64 (-y21), .int .i64 (-y22), .int .i64 (-y23)] rfl rfl 25 A2 KN.out (by kernel_rfl) (by rw [HA2.out]; exact (by decide : 15 + 4 ≤ 19)) (by simp [Value.oneCell']) ?_
        rw [HB2.out]
        replace KN := Lib.hid (KN.out.row A3)
        refine hK.out _ _ (hS.trans hst) (fun hS => ?_)
        clear hK K
        clear hst
        refine wpAnyH_done (by kernel_rfl) ?_ _
        rotate_left
        exact AllReadyH.nil
        exact AllReadyH.nil
        exact AllReadyH.nil
        exact AllReadyH.nil
        exact AllReadyH.nil
        exact AllReadyH.nil
        all_goals
          go_wp2
          go_meet
          exact ⟨Lib.hid hS, KN⟩
      case rest =>
        obtain ⟨hk9, KN2⟩ := hcut
        have hk9 := hk9.out
        clear KN
        replace HW := Lib.hid (hk9.bw HW.out HWG.out)
        replace K5 := Lib.hid (hk9.blk K5.out (by have := HG10.out; omega))
        clear hk9
        obtain ⟨wx, hwx⟩ : ∃ wx, wx = wc := ⟨_, rfl⟩
        subst hwx
        go_upto_region 9 with fail
        obtain ⟨wv, hwq⟩ : ∃ wq, wq = wx := ⟨_, rfl⟩
        subst hwq
        go_cut [11, 12] from 123 (fun s1 s2 wx => ∃ g9, wv.heap.size ≤ g9 ∧ s1 = .pointer (some ⟨g9, 0, none⟩) ∧ s2 = .int .i64 0 ∧ Hid (Bw wv wx) ∧ Hid (Blk wx g9 27 #[.int .i64 p0, .int .i64 p1, .int .i64 p2]))
        case first =>
          refine wp_region_held_drew (S := Bw wv) (by kernel_rfl) (Bw.drew (Bw.refl _)) (fun hS => ?_)
          generalize World.drew _ = wd at hS ⊢
          refine take1 (i := 0) (some 85) rfl rfl (by kernel_rfl) (by kernel_rfl) (by kernel_rfl) (fun _ _ _ _ h => h) rfl hS ?_
          refine Exists.intro (.agg A0) ?_
          apply And.intro
          · intro W9 hW9; skip; exact run_load_row 25 _ rfl g5 rfl 25 A0 _ (K5.out.bw hW9) Try.underlying25 rfl HSZA0.out
          simp only [Act.put, List.setIfInBounds_toArray, List.set_cons_zero, List.set_cons_succ]
          refine take1 (i := 1) (some 86) rfl rfl (by kernel_rfl) (by kernel_rfl) (by kernel_rfl) (fun _ _ _ _ h => h) rfl hS ?_
          refine Exists.intro (.agg A0) ?_
          apply And.intro
          · intro W9 hW9; skip; exact run_load_row 25 _ rfl g5 rfl 25 A0 _ (K5.out.bw hW9) Try.underlying25 rfl HSZA0.out
          simp only [Act.put, List.setIfInBounds_toArray, List.set_cons_zero, List.set_cons_succ]
          refine take1 (i := 2) (some 87) rfl rfl (by kernel_rfl) (by kernel_rfl) (by kernel_rfl) (fun _ _ _ _ h => h) rfl hS ?_
          apply Exists.intro
          apply And.intro
          · intro W9 hW9; skip; go_simp; try with_reducible rfl
          simp only [Act.put, List.setIfInBounds_toArray, List.set_cons_zero, List.set_cons_succ]
          refine wpAnyH_ready (rs := [3, 8]) (by kernel_rfl) (by simp) ?_
          refine AllReadyH.cons rfl (fun K hK => ?_) ?_
          go_simp
          go_wp2_with (go_at_call 16; (with_reducible refine Calls.mono (ATa.out _) ?_); rintro e1 w13 ⟨rfl, hb13⟩)
          refine hK.out _ _ (hS.trans hb13) (fun hS => ?_)
          clear hK K
          clear hb13
          refine wpAnyH_ready (rs := [4, 8]) (by kernel_rfl) (by simp) ?_
          refine AllReadyH.cons rfl (fun K hK => ?_) ?_
          go_simp
          go_wp2_with (go_at_call 7; (with_reducible refine Calls.mono (PSa.out _) ?_); rintro e1 w13 ⟨rfl, hb13⟩)
          refine hK.out _ _ (hS.trans hb13) (fun hS => ?_)
          clear hK K
          clear hb13
          refine take1 (i := 5) (some 84) rfl rfl (by kernel_rfl) (by kernel_rfl) (by kernel_rfl) (fun _ _ _ _ h => h) rfl hS ?_
          apply Exists.intro
          apply And.intro
          · intro W9 hW9; skip; go_simp; try with_reducible rfl
          simp only [Act.put, List.setIfInBounds_toArray, List.set_cons_zero, List.set_cons_succ]
          refine take1 (i := 6) (some 90) rfl rfl (by kernel_rfl) (by kernel_rfl) (by kernel_rfl) (fun _ _ _ _ h => h) rfl hS ?_
          apply Exists.intro
          apply And.intro
          · intro W9 hW9; skip; go_simp; try with_reducible rfl
          simp only [Act.put, List.setIfInBounds_toArray, List.set_cons_zero, List.set_cons_succ]
          refine take1 (i := 7) (some 91) rfl rfl (by kernel_rfl) (by kernel_rfl) (by kernel_rfl) (fun _ _ _ _ h => h) rfl hS ?_
          apply Exists.intro
          apply And.intro
          · intro W9 hW9; skip; go_simp; try with_reducible rfl
          simp only [Act.put, List.setIfInBounds_toArray, List.set_cons_zero, List.set_cons_succ]
          refine wpAnyH_ready (rs := [8]) (by kernel_rfl) (by simp) ?_
          refine AllReadyH.cons rfl (fun K hK => ?_) ?_
          rw [if_pos (by rfl)]
          refine wp_alloc_new28 27 rfl (some 11) rfl _ (zeroPO _) ?_
          intro g9 w5 hg5 hN hbw
          simp only [Act.put, List.setIfInBounds_toArray, List.set_cons_zero, List.set_cons_succ]
          have KT := Lib.hid hN
          have HT5 := Lib.hid (Nat.le_trans hS.size hg5)
          clear hN
          refine hK.out _ _ (hS.trans hbw) (fun hS => ?_)
          clear hK K
          clear hbw hg5
          refine wpAnyH_ready (rs := [9]) (by kernel_rfl) (by simp) ?_
          refine AllReadyH.cons rfl (fun K hK => ?_) ?_
          rw [if_pos (by rfl)]
          refine wp_store_row0 27 _ _ rfl rfl g9 #[.int .i64 p0, .int .i64 p1, .int .i64 p2] rfl rfl 27 #[.int .i64 0, .int .i64 0, .int .i64 0] KT.out (by kernel_rfl) rfl (by simp [Value.oneCell']) ?_
          replace KT := Lib.hid (KT.out.row #[.int .i64 p0, .int .i64 p1, .int .i64 p2])
          refine hK.out _ _ (Bw.setRow hS HT5.out #[.int .i64 p0, .int .i64 p1, .int .i64 p2]) (fun hS => ?_)
          clear hK K
          refine take1 (i := 10) (some 12) rfl rfl (by kernel_rfl) (by kernel_rfl) (by kernel_rfl) (fun _ _ _ _ h => h) rfl hS ?_
          apply Exists.intro
          apply And.intro
          · intro W9 hW9; skip; go_simp; try with_reducible rfl
          simp only [Act.put, List.setIfInBounds_toArray, List.set_cons_zero, List.set_cons_succ]
          refine wpAnyH_done (by kernel_rfl) ?_ _
          rotate_left
          exact AllReadyH.nil
          exact AllReadyH.nil
          refine AllReadyH.cons rfl (fun K hK => ?_) ?_
          rw [if_pos (by rfl)]
          refine wp_alloc_new28 27 rfl (some 11) rfl _ (zeroPO _) ?_
          intro g9 w5 hg5 hN hbw
          simp only [Act.put, List.setIfInBounds_toArray, List.set_cons_zero, List.set_cons_succ]
          have KT := Lib.hid hN
          have HT5 := Lib.hid (Nat.le_trans hS.size hg5)
          clear hN
          refine hK.out _ _ (hS.trans hbw) (fun hS => ?_)
          clear hK K
          clear hbw hg5
          refine wpAnyH_ready (rs := [4]) (by kernel_rfl) (by simp) ?_
          refine AllReadyH.cons rfl (fun K hK => ?_) ?_
          go_simp
          go_wp2_with (go_at_call 7; (with_reducible refine Calls.mono (PSa.out _) ?_); rintro e1 w13 ⟨rfl, hb13⟩)
          replace KT := Lib.hid (KT.out.bw hb13)
          refine hK.out _ _ (hS.trans hb13) (fun hS => ?_)
          clear hK K
          clear hb13
          refine take1 (i := 5) (some 84) rfl rfl (by kernel_rfl) (by kernel_rfl) (by kernel_rfl) (fun _ _ _ _ h => h) rfl hS ?_
          apply Exists.intro
          apply And.intro
          · intro W9 hW9; skip; go_simp; try with_reducible rfl
          simp only [Act.put, List.setIfInBounds_toArray, List.set_cons_zero, List.set_cons_succ]
          refine take1 (i := 6) (some 90) rfl rfl (by kernel_rfl) (by kernel_rfl) (by kernel_rfl) (fun _ _ _ _ h => h) rfl hS ?_
          apply Exists.intro
          apply And.intro
          · intro W9 hW9; skip; go_simp; try with_reducible rfl
          simp only [Act.put, List.setIfInBounds_toArray, List.set_cons_zero, List.set_cons_succ]
          refine take1 (i := 7) (some 91) rfl rfl (by kernel_rfl) (by kernel_rfl) (by kernel_rfl) (fun _ _ _ _ h => h) rfl hS ?_
          apply Exists.intro
          apply And.intro
          · intro W9 hW9; skip; go_simp; try with_reducible rfl
          simp only [Act.put, List.setIfInBounds_toArray, List.set_cons_zero, List.set_cons_succ]
          refine wpAnyH_ready (rs := [9]) (by kernel_rfl) (by simp) ?_
          refine AllReadyH.cons rfl (fun K hK => ?_) ?_
          rw [if_pos (by rfl)]
          refine wp_store_row0 27 _ _ rfl rfl g9 #[.int .i64 p0, .int .i64 p1, .int .i64 p2] rfl rfl 27 #[.int .i64 0, .int .i64 0, .int .i64 0] KT.out (by kernel_rfl) rfl (by simp [Value.oneCell']) ?_
          replace KT := Lib.hid (KT.out.row #[.int .i64 p0, .int .i64 p1, .int .i64 p2])
          refine hK.out _ _ (Bw.setRow hS HT5.out #[.int .i64 p0, .int .i64 p1, .int .i64 p2]) (fun hS => ?_)
          clear hK K
          refine take1 (i := 10) (some 12) rfl rfl (by kernel_rfl) (by kernel_rfl) (by kernel_rfl) (fun _ _ _ _ h => h) rfl hS ?_
          apply Exists.intro
          apply And.intro
          · intro W9 hW9; skip; go_simp; try with_reducible rfl
          simp only [Act.put, List.setIfInBounds_toArray, List.set_cons_zero, List.set_cons_succ]
          refine wpAnyH_done (by kernel_rfl) ?_ _
          rotate_left
          exact AllReadyH.nil
          exact AllReadyH.nil
          exact AllReadyH.nil
          refine AllReadyH.cons rfl (fun K hK => ?_) ?_
          rw [if_pos (by rfl)]
          refine wp_alloc_new28 27 rfl (some 11) rfl _ (zeroPO _) ?_
          intro g9 w5 hg5 hN hbw
          simp only [Act.put, List.setIfInBounds_toArray, List.set_cons_zero, List.set_cons_succ]
          have KT := Lib.hid hN
          have HT5 := Lib.hid (Nat.le_trans hS.size hg5)
          clear hN
          refine hK.out _ _ (hS.trans hbw) (fun hS => ?_)
          clear hK K
          clear hbw hg5
          refine wpAnyH_ready (rs := [3]) (by kernel_rfl) (by simp) ?_
          refine AllReadyH.cons rfl (fun K hK => ?_) ?_
          go_simp
          go_wp2_with (go_at_call 16; (with_reducible refine Calls.mono (ATa.out _) ?_); rintro e1 w13 ⟨rfl, hb13⟩)
          replace KT := Lib.hid (KT.out.bw hb13)
          refine hK.out _ _ (hS.trans hb13) (fun hS => ?_)
          clear hK K
          clear hb13
          refine wpAnyH_ready (rs := [4]) (by kernel_rfl) (by simp) ?_
          refine AllReadyH.cons rfl (fun K hK => ?_) ?_
          go_simp
          go_wp2_with (go_at_call 7; (with_reducible refine Calls.mono (PSa.out _) ?_); rintro e1 w13 ⟨rfl, hb13⟩)
          replace KT := Lib.hid (KT.out.bw hb13)
          refine hK.out _ _ (hS.trans hb13) (fun hS => ?_)
          clear hK K
          clear hb13
          refine take1 (i := 5) (some 84) rfl rfl (by kernel_rfl) (by kernel_rfl) (by kernel_rfl) (fun _ _ _ _ h => h) rfl hS ?_
          apply Exists.intro
          apply And.intro
          · intro W9 hW9; skip; go_simp; try with_reducible rfl
          simp only [Act.put, List.setIfInBounds_toArray, List.set_cons_zero, List.set_cons_succ]
          refine take1 (i := 6) (some 90) rfl rfl (by kernel_rfl) (by kernel_rfl) (by kernel_rfl) (fun _ _ _ _ h => h) rfl hS ?_
          apply Exists.intro
          apply And.intro
          · intro W9 hW9; skip; go_simp; try with_reducible rfl
          simp only [Act.put, List.setIfInBounds_toArray, List.set_cons_zero, List.set_cons_succ]
          refine take1 (i := 7) (some 91) rfl rfl (by kernel_rfl) (by kernel_rfl) (by kernel_rfl) (fun _ _ _ _ h => h) rfl hS ?_
          apply Exists.intro
          apply And.intro
          · intro W9 hW9; skip; go_simp; try with_reducible rfl
          simp only [Act.put, List.setIfInBounds_toArray, List.set_cons_zero, List.set_cons_succ]
          refine wpAnyH_ready (rs := [9]) (by kernel_rfl) (by simp) ?_
          refine AllReadyH.cons rfl (fun K hK => ?_) ?_
          rw [if_pos (by rfl)]
          refine wp_store_row0 27 _ _ rfl rfl g9 #[.int .i64 p0, .int .i64 p1, .int .i64 p2] rfl rfl 27 #[.int .i64 0, .int .i64 0, .int .i64 0] KT.out (by kernel_rfl) rfl (by simp [Value.oneCell']) ?_
          replace KT := Lib.hid (KT.out.row #[.int .i64 p0, .int .i64 p1, .int .i64 p2])
          refine hK.out _ _ (Bw.setRow hS HT5.out #[.int .i64 p0, .int .i64 p1, .int .i64 p2]) (fun hS => ?_)
          clear hK K
          refine take1 (i := 10) (some 12) rfl rfl (by kernel_rfl) (by kernel_rfl) (by kernel_rfl) (fun _ _ _ _ h => h) rfl hS ?_
          apply Exists.intro
          apply And.intro
          · intro W9 hW9; skip; go_simp; try with_reducible rfl
          simp only [Act.put, List.setIfInBounds_toArray, List.set_cons_zero, List.set_cons_succ]
          refine wpAnyH_done (by kernel_rfl) ?_ _
          rotate_left
          exact AllReadyH.nil
          exact AllReadyH.nil
          exact AllReadyH.nil
          exact AllReadyH.nil
          all_goals
            go_wp2
            go_meet
            exact ⟨g9, HT5.out, rfl, rfl, Lib.hid hS, KT⟩
        case rest =>
          obtain ⟨g11, h9, rfl, rfl, hb9, K11⟩ := hcut
          have hb9 := hb9.out
          replace HW := Lib.hid (HW.out.trans hb9)
          replace K5 := Lib.hid (K5.out.bw hb9)
          replace KN2 := Lib.hid (KN2.out.bw hb9)
          clear hb9 h9
          obtain ⟨wx, hwx⟩ : ∃ wx, wx = wc := ⟨_, rfl⟩
          subst hwx
          go_upto_region 10 with fail
          obtain ⟨wv, hwq⟩ : ∃ wq, wq = wx := ⟨_, rfl⟩
          subst hwq
          go_cut [13, 14] from 123 (fun s1 s2 wx => ∃ g9, wv.heap.size ≤ g9 ∧ s1 = .pointer (some ⟨g9, 0, none⟩) ∧ s2 = .int .i64 0 ∧ Hid (Bw wv wx) ∧ Hid (Blk wx g9 27 #[.int .i64 n0, .int .i64 n1, .int .i64 n2]))
          case first =>
            refine wp_region_held_drew (S := Bw wv) (by kernel_rfl) (Bw.drew (Bw.refl _)) (fun hS => ?_)
            generalize World.drew _ = wd at hS ⊢
            refine take1 (i := 0) (some 93) rfl rfl (by kernel_rfl) (by kernel_rfl) (by kernel_rfl) (fun _ _ _ _ h => h) rfl hS ?_
            refine Exists.intro (.agg A3) ?_
            apply And.intro
            · intro W9 hW9; skip; exact run_load_row 25 _ rfl g10 rfl 25 A3 _ (KN2.out.bw hW9) Try.underlying25 rfl HSZA3.out
            simp only [Act.put, List.setIfInBounds_toArray, List.set_cons_zero, List.set_cons_succ]
            refine take1 (i := 1) (some 94) rfl rfl (by kernel_rfl) (by kernel_rfl) (by kernel_rfl) (fun _ _ _ _ h => h) rfl hS ?_
            refine Exists.intro (.agg A3) ?_
            apply And.intro
            · intro W9 hW9; skip; exact run_load_row 25 _ rfl g10 rfl 25 A3 _ (KN2.out.bw hW9) Try.underlying25 rfl HSZA3.out
            simp only [Act.put, List.setIfInBounds_toArray, List.set_cons_zero, List.set_cons_succ]
            refine take1 (i := 2) (some 95) rfl rfl (by kernel_rfl) (by kernel_rfl) (by kernel_rfl) (fun _ _ _ _ h => h) rfl hS ?_
            apply Exists.intro
            apply And.intro
            · intro W9 hW9; skip; go_simp; try with_reducible rfl
            simp only [Act.put, List.setIfInBounds_toArray, List.set_cons_zero, List.set_cons_succ]
            refine wpAnyH_ready (rs := [3, 8]) (by kernel_rfl) (by simp) ?_
            refine AllReadyH.cons rfl (fun K hK => ?_) ?_
            go_simp
            go_wp2_with (go_at_call 16; (with_reducible refine Calls.mono (ATn.out _) ?_); rintro e1 w13 ⟨rfl, hb13⟩)
            refine hK.out _ _ (hS.trans hb13) (fun hS => ?_)
            clear hK K
            clear hb13
            refine wpAnyH_ready (rs := [4, 8]) (by kernel_rfl) (by simp) ?_
            refine AllReadyH.cons rfl (fun K hK => ?_) ?_
            go_simp
            go_wp2_with (go_at_call 7; (with_reducible refine Calls.mono (PSn.out _) ?_); rintro e1 w13 ⟨rfl, hb13⟩)
            refine hK.out _ _ (hS.trans hb13) (fun hS => ?_)
            clear hK K
            clear hb13
            refine take1 (i := 5) (some 92) rfl rfl (by kernel_rfl) (by kernel_rfl) (by kernel_rfl) (fun _ _ _ _ h => h) rfl hS ?_
            apply Exists.intro
            apply And.intro
            · intro W9 hW9; skip; go_simp; try with_reducible rfl
            simp only [Act.put, List.setIfInBounds_toArray, List.set_cons_zero, List.set_cons_succ]
            refine take1 (i := 6) (some 98) rfl rfl (by kernel_rfl) (by kernel_rfl) (by kernel_rfl) (fun _ _ _ _ h => h) rfl hS ?_
            apply Exists.intro
            apply And.intro
            · intro W9 hW9; skip; go_simp; try with_reducible rfl
            simp only [Act.put, List.setIfInBounds_toArray, List.set_cons_zero, List.set_cons_succ]
            refine take1 (i := 7) (some 99) rfl rfl (by kernel_rfl) (by kernel_rfl) (by kernel_rfl) (fun _ _ _ _ h => h) rfl hS ?_
            apply Exists.intro
            apply And.intro
            · intro W9 hW9; skip; go_simp; try with_reducible rfl
            simp only [Act.put, List.setIfInBounds_toArray, List.set_cons_zero, List.set_cons_succ]
            refine wpAnyH_ready (rs := [8]) (by kernel_rfl) (by simp) ?_
            refine AllReadyH.cons rfl (fun K hK => ?_) ?_
            rw [if_pos (by rfl)]
            refine wp_alloc_new28 27 rfl (some 13) rfl _ (zeroPO _) ?_
            intro g9 w5 hg5 hN hbw
            simp only [Act.put, List.setIfInBounds_toArray, List.set_cons_zero, List.set_cons_succ]
            have KT := Lib.hid hN
            have HT5 := Lib.hid (Nat.le_trans hS.size hg5)
            clear hN
            refine hK.out _ _ (hS.trans hbw) (fun hS => ?_)
            clear hK K
            clear hbw hg5
            refine wpAnyH_ready (rs := [9]) (by kernel_rfl) (by simp) ?_
            refine AllReadyH.cons rfl (fun K hK => ?_) ?_
            rw [if_pos (by rfl)]
            refine wp_store_row0 27 _ _ rfl rfl g9 #[.int .i64 n0, .int .i64 n1, .int .i64 n2] rfl rfl 27 #[.int .i64 0, .int .i64 0, .int .i64 0] KT.out (by kernel_rfl) rfl (by simp [Value.oneCell']) ?_
            replace KT := Lib.hid (KT.out.row #[.int .i64 n0, .int .i64 n1, .int .i64 n2])
            refine hK.out _ _ (Bw.setRow hS HT5.out #[.int .i64 n0, .int .i64 n1, .int .i64 n2]) (fun hS => ?_)
            clear hK K
            refine take1 (i := 10) (some 14) rfl rfl (by kernel_rfl) (by kernel_rfl) (by kernel_rfl) (fun _ _ _ _ h => h) rfl hS ?_
            apply Exists.intro
            apply And.intro
            · intro W9 hW9; skip; go_simp; try with_reducible rfl
            simp only [Act.put, List.setIfInBounds_toArray, List.set_cons_zero, List.set_cons_succ]
            refine wpAnyH_done (by kernel_rfl) ?_ _
            rotate_left
            exact AllReadyH.nil
            exact AllReadyH.nil
            refine AllReadyH.cons rfl (fun K hK => ?_) ?_
            rw [if_pos (by rfl)]
            refine wp_alloc_new28 27 rfl (some 13) rfl _ (zeroPO _) ?_
            intro g9 w5 hg5 hN hbw
            simp only [Act.put, List.setIfInBounds_toArray, List.set_cons_zero, List.set_cons_succ]
            have KT := Lib.hid hN
            have HT5 := Lib.hid (Nat.le_trans hS.size hg5)
            clear hN
            refine hK.out _ _ (hS.trans hbw) (fun hS => ?_)
            clear hK K
            clear hbw hg5
            refine wpAnyH_ready (rs := [4]) (by kernel_rfl) (by simp) ?_
            refine AllReadyH.cons rfl (fun K hK => ?_) ?_
            go_simp
            go_wp2_with (go_at_call 7; (with_reducible refine Calls.mono (PSn.out _) ?_); rintro e1 w13 ⟨rfl, hb13⟩)
            replace KT := Lib.hid (KT.out.bw hb13)
            refine hK.out _ _ (hS.trans hb13) (fun hS => ?_)
            clear hK K
            clear hb13
            refine take1 (i := 5) (some 92) rfl rfl (by kernel_rfl) (by kernel_rfl) (by kernel_rfl) (fun _ _ _ _ h => h) rfl hS ?_
            apply Exists.intro
            apply And.intro
            · intro W9 hW9; skip; go_simp; try with_reducible rfl
            simp only [Act.put, List.setIfInBounds_toArray, List.set_cons_zero, List.set_cons_succ]
            refine take1 (i := 6) (some 98) rfl rfl (by kernel_rfl) (by kernel_rfl) (by kernel_rfl) (fun _ _ _ _ h => h) rfl hS ?_
            apply Exists.intro
            apply And.intro
            · intro W9 hW9; skip; go_simp; try with_reducible rfl
            simp only [Act.put, List.setIfInBounds_toArray, List.set_cons_zero, List.set_cons_succ]
            refine take1 (i := 7) (some 99) rfl rfl (by kernel_rfl) (by kernel_rfl) (by kernel_rfl) (fun _ _ _ _ h => h) rfl hS ?_
            apply Exists.intro
            apply And.intro
            · intro W9 hW9; skip; go_simp; try with_reducible rfl
            simp only [Act.put, List.setIfInBounds_toArray, List.set_cons_zero, List.set_cons_succ]
            refine wpAnyH_ready (rs := [9]) (by kernel_rfl) (by simp) ?_
            refine AllReadyH.cons rfl (fun K hK => ?_) ?_
            rw [if_pos (by rfl)]
            refine wp_store_row0 27 _ _ rfl rfl g9 #[.int .i64 n0, .int .i64 n1, .int .i64 n2] rfl rfl 27 #[.int .i64 0, .int .i64 0, .int .i64 0] KT.out (by kernel_rfl) rfl (by simp [Value.oneCell']) ?_
            replace KT := Lib.hid (KT.out.row #[.int .i64 n0, .int .i64 n1, .int .i64 n2])
            refine hK.out _ _ (Bw.setRow hS HT5.out #[.int .i64 n0, .int .i64 n1, .int .i64 n2]) (fun hS => ?_)
            clear hK K
            refine take1 (i := 10) (some 14) rfl rfl (by kernel_rfl) (by kernel_rfl) (by kernel_rfl) (fun _ _ _ _ h => h) rfl hS ?_
            apply Exists.intro
            apply And.intro
            · intro W9 hW9; skip; go_simp; try with_reducible rfl
            simp only [Act.put, List.setIfInBounds_toArray, List.set_cons_zero, List.set_cons_succ]
            refine wpAnyH_done (by kernel_rfl) ?_ _
            rotate_left
            exact AllReadyH.nil
            exact AllReadyH.nil
            exact AllReadyH.nil
            refine AllReadyH.cons rfl (fun K hK => ?_) ?_
            rw [if_pos (by rfl)]
            refine wp_alloc_new28 27 rfl (some 13) rfl _ (zeroPO _) ?_
            intro g9 w5 hg5 hN hbw
            simp only [Act.put, List.setIfInBounds_toArray, List.set_cons_zero, List.set_cons_succ]
            have KT := Lib.hid hN
            have HT5 := Lib.hid (Nat.le_trans hS.size hg5)
            clear hN
            refine hK.out _ _ (hS.trans hbw) (fun hS => ?_)
            clear hK K
            clear hbw hg5
            refine wpAnyH_ready (rs := [3]) (by kernel_rfl) (by simp) ?_
            refine AllReadyH.cons rfl (fun K hK => ?_) ?_
            go_simp
            go_wp2_with (go_at_call 16; (with_reducible refine Calls.mono (ATn.out _) ?_); rintro e1 w13 ⟨rfl, hb13⟩)
            replace KT := Lib.hid (KT.out.bw hb13)
            refine hK.out _ _ (hS.trans hb13) (fun hS => ?_)
            clear hK K
            clear hb13
            refine wpAnyH_ready (rs := [4]) (by kernel_rfl) (by simp) ?_
            refine AllReadyH.cons rfl (fun K hK => ?_) ?_
            go_simp
            go_wp2_with (go_at_call 7; (with_reducible refine Calls.mono (PSn.out _) ?_); rintro e1 w13 ⟨rfl, hb13⟩)
            replace KT := Lib.hid (KT.out.bw hb13)
            refine hK.out _ _ (hS.trans hb13) (fun hS => ?_)
            clear hK K
            clear hb13
            refine take1 (i := 5) (some 92) rfl rfl (by kernel_rfl) (by kernel_rfl) (by kernel_rfl) (fun _ _ _ _ h => h) rfl hS ?_
            apply Exists.intro
            apply And.intro
            · intro W9 hW9; skip; go_simp; try with_reducible rfl
            simp only [Act.put, List.setIfInBounds_toArray, List.set_cons_zero, List.set_cons_succ]
            refine take1 (i := 6) (some 98) rfl rfl (by kernel_rfl) (by kernel_rfl) (by kernel_rfl) (fun _ _ _ _ h => h) rfl hS ?_
            apply Exists.intro
            apply And.intro
            · intro W9 hW9; skip; go_simp; try with_reducible rfl
            simp only [Act.put, List.setIfInBounds_toArray, List.set_cons_zero, List.set_cons_succ]
            refine take1 (i := 7) (some 99) rfl rfl (by kernel_rfl) (by kernel_rfl) (by kernel_rfl) (fun _ _ _ _ h => h) rfl hS ?_
            apply Exists.intro
            apply And.intro
            · intro W9 hW9; skip; go_simp; try with_reducible rfl
            simp only [Act.put, List.setIfInBounds_toArray, List.set_cons_zero, List.set_cons_succ]
            refine wpAnyH_ready (rs := [9]) (by kernel_rfl) (by simp) ?_
            refine AllReadyH.cons rfl (fun K hK => ?_) ?_
            rw [if_pos (by rfl)]
            refine wp_store_row0 27 _ _ rfl rfl g9 #[.int .i64 n0, .int .i64 n1, .int .i64 n2] rfl rfl 27 #[.int .i64 0, .int .i64 0, .int .i64 0] KT.out (by kernel_rfl) rfl (by simp [Value.oneCell']) ?_
            replace KT := Lib.hid (KT.out.row #[.int .i64 n0, .int .i64 n1, .int .i64 n2])
            refine hK.out _ _ (Bw.setRow hS HT5.out #[.int .i64 n0, .int .i64 n1, .int .i64 n2]) (fun hS => ?_)
            clear hK K
            refine take1 (i := 10) (some 14) rfl rfl (by kernel_rfl) (by kernel_rfl) (by kernel_rfl) (fun _ _ _ _ h => h) rfl hS ?_
            apply Exists.intro
            apply And.intro
            · intro W9 hW9; skip; go_simp; try with_reducible rfl
            simp only [Act.put, List.setIfInBounds_toArray, List.set_cons_zero, List.set_cons_succ]
            refine wpAnyH_done (by kernel_rfl) ?_ _
            rotate_left
            exact AllReadyH.nil
            exact AllReadyH.nil
            exact AllReadyH.nil
            exact AllReadyH.nil
            all_goals
              go_wp2
              go_meet
              exact ⟨g9, HT5.out, rfl, rfl, Lib.hid hS, KT⟩
          case rest =>
            obtain ⟨g13, h9, rfl, rfl, hb9, K13⟩ := hcut
            have hb9 := hb9.out
            replace HW := Lib.hid (HW.out.trans hb9)
            replace K11 := Lib.hid (K11.out.bw hb9)
            clear hb9 h9
            obtain ⟨wx, hwx⟩ : ∃ wx, wx = wc := ⟨_, rfl⟩
            subst hwx
            have z0 := K13.out.cell (j := 0) (v := .int .i64 n0) rfl
            have z1 := K13.out.cell (j := 1) (v := .int .i64 n1) rfl
            have z2 := K13.out.cell (j := 2) (v := .int .i64 n2) rfl
            obtain ⟨⟨hn0, hn1, hn2⟩, bn0, bn1, bn2⟩ := HLM.out
            have hqq := fun x y z W => eqP_self x y z W
            have hgg := fun W a b op p q => eqP_guard a b op p q W
            go_wp2_with (first | ((with_reducible refine at_load 27 (.tmp 11) ?_); refine wpList_load_roww28 27 _ rfl g11 rfl 27 #[.int .i64 p0, .int .i64 p1, .int .i64 p2] (0, 0) _ K11.out Try.underlying27 rfl (by kernel_rfl) (by rfl) ?_) | (go_at_call 11; (with_reducible refine Calls.mono (AW.out _) ?_); rintro e1 wy ⟨rfl, hb9⟩; replace HW := Lib.hid (HW.out.trans hb9); clear hb9))
            go_ret
            exact ⟨rfl, HW.out⟩
end Go.Proofs.Sky
