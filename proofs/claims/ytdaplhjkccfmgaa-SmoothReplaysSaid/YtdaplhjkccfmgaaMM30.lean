/-
  lemmas for the theorems of this claim. No conditions beyond those written in the statements.
-/
import Derived.Test.YtdaplhjkccfmgaaNN30
import Derived.Deep.Cut
set_option linter.unusedVariables false
set_option linter.unusedSimpArgs false
set_option linter.unnecessarySimpa false
namespace Go.Proofs.Sky
open Go Go.RowKit Go.Shelf
set_option maxHeartbeats 4000000
set_option maxRecDepth 4000
theorem RReplay_bad (W L : Int) (ps : List (Int × Int)) (v : Value) (w : World) (hv : RdS w v ps) (hok : ¬ wl W L) :
    Calls Try.prog 11 #[.int .i64 W, .int .i64 L, v] w fun e w' => ReplP w.heap.size [] [] 2 e w' ∧ Bw w w' := by
  have HV := Lib.hid hv
  obtain ⟨ad, cap, rfl⟩ := hv.form
  clear hv
  have HNew := Lib.hid (fun X => RNew_any W L X)
  have HBW := Lib.hid (Bw.refl w)
  rw [newP_no hok] at HNew
  go_enter Try.func11, Try.ntmps11
  have HZ := Lib.hid (Nat.le_refl w.heap.size)
  go_wp2_with (first | (go_at_call 17; refine (HNew.out _).mono ?_; rintro e w1 ⟨rfl, hb1⟩; have HZ1 := Lib.hid (Nat.le_trans HBW.out.size hb1.size); replace HBW := Lib.hid (HBW.out.trans hb1); clear hb1) | ((with_reducible refine at_store 34 (.tmp 9) (.tmp 19) ?_); refine wpList_store_row rfl 34 _ _ rfl w1.heap.size #[.int .i64 0, .int .i64 0, .slice none 0 0] rfl rfl 34 #[.int .i64 0, .int .i64 0, .slice none 0 0] (Blk.new w1 _ _) (by kernel_rfl) rfl (by simp [Value.oneCell']) ?_; have hb2 := Bw.alloc (Bw.refl w1) (.cells #[.int .i64 0, .int .i64 0, .slice none 0 0] 34); replace HBW := Lib.hid (HBW.out.trans hb2); have B4 := Lib.hid ((Blk.new w1 34 #[.int .i64 0, .int .i64 0, .slice none 0 0]).row #[.int .i64 0, .int .i64 0, .slice none 0 0]); replace HBW := Lib.hid (Bw.setRow (g := w1.heap.size) HBW.out (by have := HZ.out; have := HZ1.out; omega) #[.int .i64 0, .int .i64 0, .slice none 0 0]); have HS2 := Lib.hid (show w1.heap.size < ((w1.alloc (.cells #[.int .i64 0, .int .i64 0, .slice none 0 0] 34)).setRow w1.heap.size #[.int .i64 0, .int .i64 0, .slice none 0 0]).heap.size by simp); clear hb2; generalize (w1.alloc (.cells #[.int .i64 0, .int .i64 0, .slice none 0 0] 34)).setRow w1.heap.size #[.int .i64 0, .int .i64 0, .slice none 0 0] = w2 at B4 HBW HS2 ⊢))
  refine bodyPost_ret (v := .tuple #[.slice none 0 0, .slice none 0 0, .int .i64 2]) ?_ rfl ⟨⟨_, _, rfl, RdS.nil _, RdI.nil _, Fresh.nil _ _ _, Fresh.nil _ _ _⟩, HBW.out⟩
  simp [results, Try.results11, go_sem]
theorem RReplay_long (W L : Int) (ps : List (Int × Int)) (v : Value) (w : World) (hv : RdS w v ps) (hok : wl W L) (hlen : 10000 < ps.length) :
    Calls Try.prog 11 #[.int .i64 W, .int .i64 L, v] w fun e w' => ReplP w.heap.size [] [] 4 e w' ∧ Bw w w' := by
  have HV := Lib.hid hv
  obtain ⟨ad, cap, rfl⟩ := hv.form
  clear hv
  have HNew := Lib.hid (fun X => RNew_any W L X)
  have HBW := Lib.hid (Bw.refl w)
  rw [newP_ok hok] at HNew
  clear hok
  have hli : (10000 : Int) < ps.length := by omega
  go_enter Try.func11, Try.ntmps11
  have HZ := Lib.hid (Nat.le_refl w.heap.size)
  go_wp2_with (first | (go_at_call 17; refine (HNew.out _).mono ?_; rintro e w1 ⟨rfl, hb1⟩; have HZ1 := Lib.hid (Nat.le_trans HBW.out.size hb1.size); replace HBW := Lib.hid (HBW.out.trans hb1); clear hb1) | ((with_reducible refine at_store 34 (.tmp 9) (.tmp 19) ?_); refine wpList_store_row rfl 34 _ _ rfl w1.heap.size #[.int .i64 W, .int .i64 L, .slice none 0 0] rfl rfl 34 #[.int .i64 0, .int .i64 0, .slice none 0 0] (Blk.new w1 _ _) (by kernel_rfl) rfl (by simp [Value.oneCell']) ?_; have hb2 := Bw.alloc (Bw.refl w1) (.cells #[.int .i64 0, .int .i64 0, .slice none 0 0] 34); replace HBW := Lib.hid (HBW.out.trans hb2); have B4 := Lib.hid ((Blk.new w1 34 #[.int .i64 0, .int .i64 0, .slice none 0 0]).row #[.int .i64 W, .int .i64 L, .slice none 0 0]); replace HBW := Lib.hid (Bw.setRow (g := w1.heap.size) HBW.out (by have := HZ.out; have := HZ1.out; omega) #[.int .i64 W, .int .i64 L, .slice none 0 0]); have HS2 := Lib.hid (show w1.heap.size < ((w1.alloc (.cells #[.int .i64 0, .int .i64 0, .slice none 0 0] 34)).setRow w1.heap.size #[.int .i64 W, .int .i64 L, .slice none 0 0]).heap.size by simp); clear hb2; generalize (w1.alloc (.cells #[.int .i64 0, .int .i64 0, .slice none 0 0] 34)).setRow w1.heap.size #[.int .i64 W, .int .i64 L, .slice none 0 0] = w2 at B4 HBW HS2 ⊢))
  refine bodyPost_ret (v := .tuple #[.slice none 0 0, .slice none 0 0, .int .i64 4]) ?_ rfl ⟨⟨_, _, rfl, RdS.nil _, RdI.nil _, Fresh.nil _ _ _, Fresh.nil _ _ _⟩, HBW.out⟩
  simp [results, Try.results11, go_sem]
theorem RReplay_main (W L : Int) (ps : List (Int × Int)) (v : Value) (w : World) (hv : RdS w v ps) (hok : wl W L) (hlen : ps.length ≤ 10000) :
    Calls Try.prog 11 #[.int .i64 W, .int .i64 L, v] w fun e w' => ReplP w.heap.size (replR W L ps).1 (replR W L ps).2.1 (replR W L ps).2.2 e w' ∧ Bw w w' := by
  have HV := Lib.hid hv
  obtain ⟨ad, cap, rfl⟩ := hv.form
  clear hv
  have HNew := Lib.hid (fun X => RNew_any W L X)
  have HBW := Lib.hid (Bw.refl w)
  rw [newP_ok hok] at HNew
  have HOK := Lib.hid hok
  clear hok
  obtain ⟨n, hn⟩ : ∃ n, n = ps.length := ⟨_, rfl⟩
  rw [← hn] at hlen ⊢
  have HN := Lib.hid hn
  clear hn
  obtain ⟨BB, hBB⟩ : ∃ BB, w.heap.size = BB := ⟨_, rfl⟩
  have HB := Lib.hid hBB
  clear hBB
  rw [HB.out]
  have hli : ¬ (10000 : Int) < n := by omega
  go_enter Try.func11, Try.ntmps11
  have HZ := Lib.hid (Nat.le_refl w.heap.size)
  go_wp2_with (first | (go_at_call 17; refine (HNew.out _).mono ?_; rintro e w1 ⟨rfl, hb1⟩; have HZ1 := Lib.hid (Nat.le_trans HBW.out.size hb1.size); replace HBW := Lib.hid (HBW.out.trans hb1); clear hb1) | ((with_reducible refine at_store 34 (.tmp 9) (.tmp 19) ?_); refine wpList_store_row rfl 34 _ _ rfl w1.heap.size #[.int .i64 W, .int .i64 L, .slice none 0 0] rfl rfl 34 #[.int .i64 0, .int .i64 0, .slice none 0 0] (Blk.new w1 _ _) (by kernel_rfl) rfl (by simp [Value.oneCell']) ?_; have hb2 := Bw.alloc (Bw.refl w1) (.cells #[.int .i64 0, .int .i64 0, .slice none 0 0] 34); replace HBW := Lib.hid (HBW.out.trans hb2); have B4 := Lib.hid ((Blk.new w1 34 #[.int .i64 0, .int .i64 0, .slice none 0 0]).row #[.int .i64 W, .int .i64 L, .slice none 0 0]); replace HBW := Lib.hid (Bw.setRow (g := w1.heap.size) HBW.out (by have := HZ.out; have := HZ1.out; omega) #[.int .i64 W, .int .i64 L, .slice none 0 0]); have HS2 := Lib.hid (show w1.heap.size < ((w1.alloc (.cells #[.int .i64 0, .int .i64 0, .slice none 0 0] 34)).setRow w1.heap.size #[.int .i64 W, .int .i64 L, .slice none 0 0]).heap.size by simp); clear hb2; generalize (w1.alloc (.cells #[.int .i64 0, .int .i64 0, .slice none 0 0] 34)).setRow w1.heap.size #[.int .i64 W, .int .i64 L, .slice none 0 0] = w2 at B4 HBW HS2 ⊢))
  obtain ⟨g0, hg0⟩ : ∃ g, w1.heap.size = g := ⟨_, rfl⟩
  rw [hg0] at B4 HS2 HZ1 ⊢
  rw [HB.out] at HZ1
  clear hg0 hli
  go_loopg [6, 7, 10] 10000 (fun gg s6 s7 s10 wr => ∃ i : Nat, i ≤ n ∧ n - i ≤ gg ∧ s10 = .int .i64 i ∧ Hid (∀ m ∈ ps.take i, okM m = true) ∧ Hid (Bw w wr) ∧ Hid (wr.ownsRow BB 36 2 s6 (runS W L (ps.take i)).2.1.length (flat (runS W L (ps.take i)).2.1)) ∧ Hid (wr.ownsRow BB 3 1 s7 (runS W L (ps.take i)).2.2.length ((runS W L (ps.take i)).2.2.map (Value.int .i64))) ∧ ∃ vd, Hid (Blk wr g0 34 #[.int .i64 W, .int .i64 L, vd]) ∧ Hid (RdI wr vd (runS W L (ps.take i)).1))
  case atStart => exact ⟨0, Nat.zero_le _, by omega, rfl, Lib.hid (fun m hm => by simp at hm), HBW, Lib.hid (World.ownsRow_nil _ _ _ _), Lib.hid (World.ownsRow_nil _ _ _ _), _, B4, Lib.hid (RdI.nil _)⟩
  case round =>
    obtain ⟨i, hi, hgg, rfl, HA, HW, O1, O2, vd, BX, HD⟩ := hrel
    have HL1 := Lib.hid (runS_len W L (ps.take i))
    have HL2 := Lib.hid (runS_sl_len W L (ps.take i))
    by_cases hlt : i < n
    · have hiz : (i : Int) < n := by omega
      obtain ⟨b, off, c1, hv1, hb1, hd1⟩ := HV.out.at (by have := HN.out; omega)
      injection hv1 with x1 x2 x3; subst x1; clear x2 x3
      have hd1 := hd1 i (by have := HN.out; omega)
      have f1 := Lib.hid (HW.out.cell' hd1.1)
      have f2 := Lib.hid (HW.out.cell' hd1.2)
      clear hd1 hb1
      obtain ⟨ad1, cd1, rfl⟩ := HD.out.form
      have HS := Lib.hid (fun X hX => RStep_any W L (runS W L (ps.take i)).1 (.slice ad1 (runS W L (ps.take i)).1.length cd1) (ps.getD i (0, 0)).1 (ps.getD i (0, 0)).2 X hX)
      unfold StepR StepP at HS
      obtain ⟨SR, hSR⟩ : ∃ SR, SR = stepR W L (runS W L (ps.take i)).1 (ps.getD i (0, 0)).1 (ps.getD i (0, 0)).2 := ⟨_, rfl⟩
      rw [← hSR] at HS
      have HSR := Lib.hid hSR
      clear hSR
      obtain ⟨x, y, l, nu, de, sl, er⟩ := SR
      dsimp only at HS
      obtain ⟨p, hp⟩ : ∃ p, p = (ps.getD i (0, 0)).1 := ⟨_, rfl⟩
      obtain ⟨f, hf⟩ : ∃ f, f = (ps.getD i (0, 0)).2 := ⟨_, rfl⟩
      rw [← hp] at HSR HS f1
      rw [← hf] at HSR HS f2
      have HP := Lib.hid hp; have HF0 := Lib.hid hf
      clear hp hf
      have HT1 := Lib.hid (fun hm => rstep_true (x := x) (y := y) (nu := nu) (de := de) (er := er) (l := l) (sl := sl) HOK.out ps i (by have := HN.out; omega) HA.out hm (by rw [HSR.out, HP.out, HF0.out]))
      have HT2 := Lib.hid (fun hm => rstep_false (x := x) (y := y) (nu := nu) (de := de) (er := er) (l := l) (sl := sl) HOK.out ps i HA.out hm (by rw [HSR.out, HP.out, HF0.out]))
      generalize runS W L (ps.take i) = st at O1 O2 BX HD HSR HS HL1 HL2 HT1
      obtain ⟨ds, rs, sls⟩ := st
      simp only at O1 O2 BX HD HSR HS HL1 HL2 HT1
      go_wp2
      go_cut [11, 12, 13, 14, 63, 64] from 27 (fun s11 s12 s13 s14 s63 s64 wc => ∃ g11 g12 vd2, s11 = .pointer (some ⟨g11, 0, none⟩) ∧ s12 = .pointer (some ⟨g12, 0, none⟩) ∧ s13 = .bool sl ∧ s14 = .int .i64 er ∧ s63 = undef ∧ s64 = undef ∧ Hid (Bw wr wc) ∧ Hid (Blk wc g11 34 #[.int .i64 x, .int .i64 y, vd2]) ∧ Hid (Blk wc g12 36 #[.int .i64 nu, .int .i64 de]) ∧ Hid (RdI wc vd2 l) ∧ Hid (Fresh wr.heap.size vd2) ∧ Hid (wr.heap.size ≤ g11) ∧ Hid (wr.heap.size ≤ g12))
      case first =>
        refine wp_region_held_drew (S := Bw wr) (by kernel_rfl) (Bw.drew (Bw.refl _)) (fun hS => ?_)
        generalize World.drew _ = wd at hS ⊢
        refine take1 (i := 0) (some 34) rfl rfl (by kernel_rfl) (by kernel_rfl) (by kernel_rfl) (fun _ _ _ _ h => h) rfl hS ?_
        apply Exists.intro
        apply And.intro
        · intro W9 hW9; have y1 := hW9.cell' f1.out; have y2 := hW9.cell' f2.out; exact run_load_row 34 _ rfl g0 rfl 34 _ _ (BX.out.bw hW9) Try.underlying34 rfl (by kernel_rfl)
        simp only [Act.put, List.setIfInBounds_toArray, List.set_cons_zero, List.set_cons_succ]
        refine take1 (i := 1) (some 35) rfl rfl (by kernel_rfl) (by kernel_rfl) (by kernel_rfl) (fun _ _ _ _ h => h) rfl hS ?_
        apply Exists.intro
        apply And.intro
        · intro W9 hW9; have y1 := hW9.cell' f1.out; have y2 := hW9.cell' f2.out; go_simp; try with_reducible rfl
        simp only [Act.put, List.setIfInBounds_toArray, List.set_cons_zero, List.set_cons_succ]
        refine take1 (i := 2) (some 36) rfl rfl (by kernel_rfl) (by kernel_rfl) (by kernel_rfl) (fun _ _ _ _ h => h) rfl hS ?_
        apply Exists.intro
        apply And.intro
        · intro W9 hW9; have y1 := hW9.cell' f1.out; have y2 := hW9.cell' f2.out; go_simp; try with_reducible rfl
        simp only [Act.put, List.setIfInBounds_toArray, List.set_cons_zero, List.set_cons_succ]
        refine take1 (i := 3) (some 37) rfl rfl (by kernel_rfl) (by kernel_rfl) (by kernel_rfl) (fun _ _ _ _ h => h) rfl hS ?_
        apply Exists.intro
        apply And.intro
        · intro W9 hW9; have y1 := hW9.cell' f1.out; have y2 := hW9.cell' f2.out; go_simp; try with_reducible rfl
        simp only [Act.put, List.setIfInBounds_toArray, List.set_cons_zero, List.set_cons_succ]
        refine take1 (i := 4) (some 38) rfl rfl (by kernel_rfl) (by kernel_rfl) (by kernel_rfl) (fun _ _ _ _ h => h) rfl hS ?_
        apply Exists.intro
        apply And.intro
        · intro W9 hW9; have y1 := hW9.cell' f1.out; have y2 := hW9.cell' f2.out; go_simp; try with_reducible rfl
        simp only [Act.put, List.setIfInBounds_toArray, List.set_cons_zero, List.set_cons_succ]
        refine take1 (i := 5) (some 39) rfl rfl (by kernel_rfl) (by kernel_rfl) (by kernel_rfl) (fun _ _ _ _ h => h) rfl hS ?_
        apply Exists.intro
        apply And.intro
        · intro W9 hW9; have y1 := hW9.cell' f1.out; have y2 := hW9.cell' f2.out; go_simp; try with_reducible rfl
        simp only [Act.put, List.setIfInBounds_toArray, List.set_cons_zero, List.set_cons_succ]
        refine take1 (i := 6) (some 40) rfl rfl (by kernel_rfl) (by kernel_rfl) (by kernel_rfl) (fun _ _ _ _ h => h) rfl hS ?_
        apply Exists.intro
        apply And.intro
        · intro W9 hW9; have y1 := hW9.cell' f1.out; have y2 := hW9.cell' f2.out; go_simp; try with_reducible rfl
        simp only [Act.put, List.setIfInBounds_toArray, List.set_cons_zero, List.set_cons_succ]
        refine take1 (i := 7) (some 41) rfl rfl (by kernel_rfl) (by kernel_rfl) (by kernel_rfl) (fun _ _ _ _ h => h) rfl hS ?_
        apply Exists.intro
        apply And.intro
        · intro W9 hW9; have y1 := hW9.cell' f1.out; have y2 := hW9.cell' f2.out; go_simp; try with_reducible rfl
        simp only [Act.put, List.setIfInBounds_toArray, List.set_cons_zero, List.set_cons_succ]
        refine take1 (i := 8) (some 42) rfl rfl (by kernel_rfl) (by kernel_rfl) (by kernel_rfl) (fun _ _ _ _ h => h) rfl hS ?_
        apply Exists.intro
        apply And.intro
        · intro W9 hW9; have y1 := hW9.cell' f1.out; have y2 := hW9.cell' f2.out; go_simp; try with_reducible rfl
        simp only [Act.put, List.setIfInBounds_toArray, List.set_cons_zero, List.set_cons_succ]
        refine take1 (i := 9) (some 43) rfl rfl (by kernel_rfl) (by kernel_rfl) (by kernel_rfl) (fun _ _ _ _ h => h) rfl hS ?_
        apply Exists.intro
        apply And.intro
        · intro W9 hW9; have y1 := hW9.cell' f1.out; have y2 := hW9.cell' f2.out; go_simp; try with_reducible rfl
        simp only [Act.put, List.setIfInBounds_toArray, List.set_cons_zero, List.set_cons_succ]
        refine take1 (i := 10) (some 44) rfl rfl (by kernel_rfl) (by kernel_rfl) (by kernel_rfl) (fun _ _ _ _ h => h) rfl hS ?_
        apply Exists.intro
        apply And.intro
        · intro W9 hW9; have y1 := hW9.cell' f1.out; have y2 := hW9.cell' f2.out; go_simp; try with_reducible rfl
        simp only [Act.put, List.setIfInBounds_toArray, List.set_cons_zero, List.set_cons_succ]
        refine wpAnyH_ready (rs := [11, 17, 18]) (by kernel_rfl) (by simp) ?_
        refine AllReadyH.cons rfl (fun K hK => ?_) ?_
        go_simp
        go_wp2_with (go_at_call 15; (with_reducible refine Calls.mono (HS.out _ (HD.out.mono hS)) ?_); rintro e1 w4 ⟨⟨vd2, rfl, hr2, hf2⟩, hb4⟩)
        have HF := Lib.hid (hf2.mono hS.size)
        have HD2 := Lib.hid hr2
        obtain ⟨ad2, cd2, rfl⟩ := hr2.form
        clear hr2 hf2
        refine hK.out _ _ (hS.trans hb4) (fun hS => ?_)
        clear hK K
        refine take1 (i := 12) (some 33) rfl rfl (by kernel_rfl) (by kernel_rfl) (by kernel_rfl) (fun _ _ _ _ h => h) rfl hS ?_
        apply Exists.intro
        apply And.intro
        · intro W9 hW9; have y1 := hW9.cell' f1.out; have y2 := hW9.cell' f2.out; go_simp; try with_reducible rfl
        simp only [Act.put, List.setIfInBounds_toArray, List.set_cons_zero, List.set_cons_succ]
        refine take1 (i := 13) (some 46) rfl rfl (by kernel_rfl) (by kernel_rfl) (by kernel_rfl) (fun _ _ _ _ h => h) rfl hS ?_
        apply Exists.intro
        apply And.intro
        · intro W9 hW9; have y1 := hW9.cell' f1.out; have y2 := hW9.cell' f2.out; go_simp; try with_reducible rfl
        simp only [Act.put, List.setIfInBounds_toArray, List.set_cons_zero, List.set_cons_succ]
        refine take1 (i := 14) (some 47) rfl rfl (by kernel_rfl) (by kernel_rfl) (by kernel_rfl) (fun _ _ _ _ h => h) rfl hS ?_
        apply Exists.intro
        apply And.intro
        · intro W9 hW9; have y1 := hW9.cell' f1.out; have y2 := hW9.cell' f2.out; go_simp; try with_reducible rfl
        simp only [Act.put, List.setIfInBounds_toArray, List.set_cons_zero, List.set_cons_succ]
        refine take1 (i := 15) (some 48) rfl rfl (by kernel_rfl) (by kernel_rfl) (by kernel_rfl) (fun _ _ _ _ h => h) rfl hS ?_
        apply Exists.intro
        apply And.intro
        · intro W9 hW9; have y1 := hW9.cell' f1.out; have y2 := hW9.cell' f2.out; go_simp; try with_reducible rfl
        simp only [Act.put, List.setIfInBounds_toArray, List.set_cons_zero, List.set_cons_succ]
        refine take1 (i := 16) (some 49) rfl rfl (by kernel_rfl) (by kernel_rfl) (by kernel_rfl) (fun _ _ _ _ h => h) rfl hS ?_
        apply Exists.intro
        apply And.intro
        · intro W9 hW9; have y1 := hW9.cell' f1.out; have y2 := hW9.cell' f2.out; go_simp; try with_reducible rfl
        simp only [Act.put, List.setIfInBounds_toArray, List.set_cons_zero, List.set_cons_succ]
        refine wpAnyH_ready (rs := [17, 18]) (by kernel_rfl) (by simp) ?_
        refine AllReadyH.cons rfl (fun K hK => ?_) ?_
        rw [if_pos (by rfl)]
        refine wp_alloc_new 34 rfl (some 11) rfl _ (zeroSm _) ?_
        intro g11 w17 hg11 hN hbw
        simp only [Act.put, List.setIfInBounds_toArray, List.set_cons_zero, List.set_cons_succ]
        have NB11 := Lib.hid hN
        have HG11 := Lib.hid (Nat.le_trans hS.size hg11)
        have NE11 := Lib.hid (HD2.out.off hg11)
        replace HD2 := Lib.hid (HD2.out.mono hbw)
        clear hN
        refine hK.out _ _ (hS.trans hbw) (fun hS => ?_)
        clear hK K
        refine wpAnyH_ready (rs := [18]) (by kernel_rfl) (by simp) ?_
        refine AllReadyH.cons rfl (fun K hK => ?_) ?_
        rw [if_pos (by rfl)]
        refine wp_alloc_new 36 rfl (some 12) rfl _ (zeroRa _) ?_
        intro g12 w18 hg12 hN hbw
        simp only [Act.put, List.setIfInBounds_toArray, List.set_cons_zero, List.set_cons_succ]
        have NB12 := Lib.hid hN
        have HG12 := Lib.hid (Nat.le_trans hS.size hg12)
        have NE12 := Lib.hid (HD2.out.off hg12)
        replace HD2 := Lib.hid (HD2.out.mono hbw)
        have NG := Lib.hid (show g12 ≠ g11 by have := NB11.out.lt; omega)
        replace NB11 := Lib.hid (NB11.out.bw hbw)
        clear hN
        refine hK.out _ _ (hS.trans hbw) (fun hS => ?_)
        clear hK K
        refine wpAnyH_ready (rs := [19]) (by kernel_rfl) (by simp) ?_
        refine AllReadyH.cons rfl (fun K hK => ?_) ?_
        rw [if_pos (by rfl)]
        refine wp_store_row0 34 _ _ rfl rfl g11 #[.int .i64 x, .int .i64 y, .slice ad2 l.length cd2] rfl rfl 34 #[.int .i64 0, .int .i64 0, .slice none 0 0] NB11.out (by kernel_rfl) rfl (by simp [Value.oneCell']) ?_
        replace NB11 := Lib.hid (NB11.out.row #[.int .i64 x, .int .i64 y, .slice ad2 l.length cd2])
        replace NB12 := Lib.hid (NB12.out.row_other NG.out #[.int .i64 x, .int .i64 y, .slice ad2 l.length cd2])
        replace HD2 := Lib.hid (HD2.out.rowOff NE11.out #[.int .i64 x, .int .i64 y, .slice ad2 l.length cd2])
        refine hK.out _ _ (Bw.setRow hS HG11.out #[.int .i64 x, .int .i64 y, .slice ad2 l.length cd2]) (fun hS => ?_)
        clear hK K
        refine wpAnyH_ready (rs := [20]) (by kernel_rfl) (by simp) ?_
        refine AllReadyH.cons rfl (fun K hK => ?_) ?_
        rw [if_pos (by rfl)]
        refine wp_store_row0 36 _ _ rfl rfl g12 #[.int .i64 nu, .int .i64 de] rfl rfl 36 #[.int .i64 0, .int .i64 0] NB12.out (by kernel_rfl) rfl (by simp [Value.oneCell']) ?_
        replace NB12 := Lib.hid (NB12.out.row #[.int .i64 nu, .int .i64 de])
        replace NB11 := Lib.hid (NB11.out.row_other NG.out.symm #[.int .i64 nu, .int .i64 de])
        replace HD2 := Lib.hid (HD2.out.rowOff NE12.out #[.int .i64 nu, .int .i64 de])
        refine hK.out _ _ (Bw.setRow hS HG12.out #[.int .i64 nu, .int .i64 de]) (fun hS => ?_)
        clear hK K
        refine take1 (i := 21) (some 13) rfl rfl (by kernel_rfl) (by kernel_rfl) (by kernel_rfl) (fun _ _ _ _ h => h) rfl hS ?_
        apply Exists.intro
        apply And.intro
        · intro W9 hW9; have y1 := hW9.cell' f1.out; have y2 := hW9.cell' f2.out; go_simp; try with_reducible rfl
        simp only [Act.put, List.setIfInBounds_toArray, List.set_cons_zero, List.set_cons_succ]
        refine take1 (i := 22) (some 14) rfl rfl (by kernel_rfl) (by kernel_rfl) (by kernel_rfl) (fun _ _ _ _ h => h) rfl hS ?_
        apply Exists.intro
        apply And.intro
        · intro W9 hW9; have y1 := hW9.cell' f1.out; have y2 := hW9.cell' f2.out; go_simp; try with_reducible rfl
        simp only [Act.put, List.setIfInBounds_toArray, List.set_cons_zero, List.set_cons_succ]
        refine wpAnyH_done (by kernel_rfl) ?_ _
        rotate_left
        exact AllReadyH.nil
        exact AllReadyH.nil
        exact AllReadyH.nil
        refine AllReadyH.cons rfl (fun K hK => ?_) ?_
        rw [if_pos (by rfl)]
        refine wp_alloc_new 36 rfl (some 12) rfl _ (zeroRa _) ?_
        intro g12 w18 hg12 hN hbw
        simp only [Act.put, List.setIfInBounds_toArray, List.set_cons_zero, List.set_cons_succ]
        have NB12 := Lib.hid hN
        have HG12 := Lib.hid (Nat.le_trans hS.size hg12)
        have NE12 := Lib.hid (HD2.out.off hg12)
        replace HD2 := Lib.hid (HD2.out.mono hbw)
        clear hN
        refine hK.out _ _ (hS.trans hbw) (fun hS => ?_)
        clear hK K
        refine wpAnyH_ready (rs := [17]) (by kernel_rfl) (by simp) ?_
        refine AllReadyH.cons rfl (fun K hK => ?_) ?_
        rw [if_pos (by rfl)]
        refine wp_alloc_new 34 rfl (some 11) rfl _ (zeroSm _) ?_
        intro g11 w17 hg11 hN hbw
        simp only [Act.put, List.setIfInBounds_toArray, List.set_cons_zero, List.set_cons_succ]
        have NB11 := Lib.hid hN
        have HG11 := Lib.hid (Nat.le_trans hS.size hg11)
        have NE11 := Lib.hid (HD2.out.off hg11)
        replace HD2 := Lib.hid (HD2.out.mono hbw)
        have NG := Lib.hid (show g12 ≠ g11 by have := NB12.out.lt; omega)
        replace NB12 := Lib.hid (NB12.out.bw hbw)
        clear hN
        refine hK.out _ _ (hS.trans hbw) (fun hS => ?_)
        clear hK K
        refine wpAnyH_ready (rs := [19]) (by kernel_rfl) (by simp) ?_
        refine AllReadyH.cons rfl (fun K hK => ?_) ?_
        rw [if_pos (by rfl)]
        refine wp_store_row0 34 _ _ rfl rfl g11 #[.int .i64 x, .int .i64 y, .slice ad2 l.length cd2] rfl rfl 34 #[.int .i64 0, .int .i64 0, .slice none 0 0] NB11.out (by kernel_rfl) rfl (by simp [Value.oneCell']) ?_
        replace NB11 := Lib.hid (NB11.out.row #[.int .i64 x, .int .i64 y, .slice ad2 l.length cd2])
        replace NB12 := Lib.hid (NB12.out.row_other NG.out #[.int .i64 x, .int .i64 y, .slice ad2 l.length cd2])
        replace HD2 := Lib.hid (HD2.out.rowOff NE11.out #[.int .i64 x, .int .i64 y, .slice ad2 l.length cd2])
        refine hK.out _ _ (Bw.setRow hS HG11.out #[.int .i64 x, .int .i64 y, .slice ad2 l.length cd2]) (fun hS => ?_)
        clear hK K
        refine wpAnyH_ready (rs := [20]) (by kernel_rfl) (by simp) ?_
        refine AllReadyH.cons rfl (fun K hK => ?_) ?_
        rw [if_pos (by rfl)]
        refine wp_store_row0 36 _ _ rfl rfl g12 #[.int .i64 nu, .int .i64 de] rfl rfl 36 #[.int .i64 0, .int .i64 0] NB12.out (by kernel_rfl) rfl (by simp [Value.oneCell']) ?_
        replace NB12 := Lib.hid (NB12.out.row #[.int .i64 nu, .int .i64 de])
        replace NB11 := Lib.hid (NB11.out.row_other NG.out.symm #[.int .i64 nu, .int .i64 de])
        replace HD2 := Lib.hid (HD2.out.rowOff NE12.out #[.int .i64 nu, .int .i64 de])
        refine hK.out _ _ (Bw.setRow hS HG12.out #[.int .i64 nu, .int .i64 de]) (fun hS => ?_)
        clear hK K
        refine take1 (i := 21) (some 13) rfl rfl (by kernel_rfl) (by kernel_rfl) (by kernel_rfl) (fun _ _ _ _ h => h) rfl hS ?_
        apply Exists.intro
        apply And.intro
        · intro W9 hW9; have y1 := hW9.cell' f1.out; have y2 := hW9.cell' f2.out; go_simp; try with_reducible rfl
        simp only [Act.put, List.setIfInBounds_toArray, List.set_cons_zero, List.set_cons_succ]
        refine take1 (i := 22) (some 14) rfl rfl (by kernel_rfl) (by kernel_rfl) (by kernel_rfl) (fun _ _ _ _ h => h) rfl hS ?_
        apply Exists.intro
        apply And.intro
        · intro W9 hW9; have y1 := hW9.cell' f1.out; have y2 := hW9.cell' f2.out; go_simp; try with_reducible rfl
        simp only [Act.put, List.setIfInBounds_toArray, List.set_cons_zero, List.set_cons_succ]
        refine wpAnyH_done (by kernel_rfl) ?_ _
        rotate_left
        exact AllReadyH.nil
        exact AllReadyH.nil
        exact AllReadyH.nil
        exact AllReadyH.nil
        refine AllReadyH.cons rfl (fun K hK => ?_) ?_
        rw [if_pos (by rfl)]
        refine wp_alloc_new 34 rfl (some 11) rfl _ (zeroSm _) ?_
        intro g11 w17 hg11 hN hbw
        simp only [Act.put, List.setIfInBounds_toArray, List.set_cons_zero, List.set_cons_succ]
        have NB11 := Lib.hid hN
        have HG11 := Lib.hid (Nat.le_trans hS.size hg11)
        clear hN
        refine hK.out _ _ (hS.trans hbw) (fun hS => ?_)
        clear hK K
        refine wpAnyH_ready (rs := [11, 18]) (by kernel_rfl) (by simp) ?_
        refine AllReadyH.cons rfl (fun K hK => ?_) ?_
        go_simp
        go_wp2_with (go_at_call 15; (with_reducible refine Calls.mono (HS.out _ (HD.out.mono hS)) ?_); rintro e1 w4 ⟨⟨vd2, rfl, hr2, hf2⟩, hb4⟩)
        have NE11 := Lib.hid (hf2.off NB11.out.lt l)
        replace NB11 := Lib.hid (NB11.out.bw hb4)
        have HF := Lib.hid (hf2.mono hS.size)
        have HD2 := Lib.hid hr2
        obtain ⟨ad2, cd2, rfl⟩ := hr2.form
        clear hr2 hf2
        refine hK.out _ _ (hS.trans hb4) (fun hS => ?_)
        clear hK K
        refine take1 (i := 12) (some 33) rfl rfl (by kernel_rfl) (by kernel_rfl) (by kernel_rfl) (fun _ _ _ _ h => h) rfl hS ?_
        apply Exists.intro
        apply And.intro
        · intro W9 hW9; have y1 := hW9.cell' f1.out; have y2 := hW9.cell' f2.out; go_simp; try with_reducible rfl
        simp only [Act.put, List.setIfInBounds_toArray, List.set_cons_zero, List.set_cons_succ]
        refine take1 (i := 13) (some 46) rfl rfl (by kernel_rfl) (by kernel_rfl) (by kernel_rfl) (fun _ _ _ _ h => h) rfl hS ?_
        apply Exists.intro
        apply And.intro
        · intro W9 hW9; have y1 := hW9.cell' f1.out; have y2 := hW9.cell' f2.out; go_simp; try with_reducible rfl
        simp only [Act.put, List.setIfInBounds_toArray, List.set_cons_zero, List.set_cons_succ]
        refine take1 (i := 14) (some 47) rfl rfl (by kernel_rfl) (by kernel_rfl) (by kernel_rfl) (fun _ _ _ _ h => h) rfl hS ?_
        apply Exists.intro
        apply And.intro
        · intro W9 hW9; have y1 := hW9.cell' f1.out; have y2 := hW9.cell' f2.out; go_simp; try with_reducible rfl
        simp only [Act.put, List.setIfInBounds_toArray, List.set_cons_zero, List.set_cons_succ]
        refine take1 (i := 15) (some 48) rfl rfl (by kernel_rfl) (by kernel_rfl) (by kernel_rfl) (fun _ _ _ _ h => h) rfl hS ?_
        apply Exists.intro
        apply And.intro
        · intro W9 hW9; have y1 := hW9.cell' f1.out; have y2 := hW9.cell' f2.out; go_simp; try with_reducible rfl
        simp only [Act.put, List.setIfInBounds_toArray, List.set_cons_zero, List.set_cons_succ]
        refine take1 (i := 16) (some 49) rfl rfl (by kernel_rfl) (by kernel_rfl) (by kernel_rfl) (fun _ _ _ _ h => h) rfl hS ?_
        apply Exists.intro
        apply And.intro
        · intro W9 hW9; have y1 := hW9.cell' f1.out; have y2 := hW9.cell' f2.out; go_simp; try with_reducible rfl
        simp only [Act.put, List.setIfInBounds_toArray, List.set_cons_zero, List.set_cons_succ]
        refine wpAnyH_ready (rs := [18]) (by kernel_rfl) (by simp) ?_
        refine AllReadyH.cons rfl (fun K hK => ?_) ?_
        rw [if_pos (by rfl)]
        refine wp_alloc_new 36 rfl (some 12) rfl _ (zeroRa _) ?_
        intro g12 w18 hg12 hN hbw
        simp only [Act.put, List.setIfInBounds_toArray, List.set_cons_zero, List.set_cons_succ]
        have NB12 := Lib.hid hN
        have HG12 := Lib.hid (Nat.le_trans hS.size hg12)
        have NE12 := Lib.hid (HD2.out.off hg12)
        replace HD2 := Lib.hid (HD2.out.mono hbw)
        have NG := Lib.hid (show g12 ≠ g11 by have := NB11.out.lt; omega)
        replace NB11 := Lib.hid (NB11.out.bw hbw)
        clear hN
        refine hK.out _ _ (hS.trans hbw) (fun hS => ?_)
        clear hK K
        refine wpAnyH_ready (rs := [19]) (by kernel_rfl) (by simp) ?_
        refine AllReadyH.cons rfl (fun K hK => ?_) ?_
        rw [if_pos (by rfl)]
        refine wp_store_row0 34 _ _ rfl rfl g11 #[.int .i64 x, .int .i64 y, .slice ad2 l.length cd2] rfl rfl 34 #[.int .i64 0, .int .i64 0, .slice none 0 0] NB11.out (by kernel_rfl) rfl (by simp [Value.oneCell']) ?_
        replace NB11 := Lib.hid (NB11.out.row #[.int .i64 x, .int .i64 y, .slice ad2 l.length cd2])
        replace NB12 := Lib.hid (NB12.out.row_other NG.out #[.int .i64 x, .int .i64 y, .slice ad2 l.length cd2])
        replace HD2 := Lib.hid (HD2.out.rowOff NE11.out #[.int .i64 x, .int .i64 y, .slice ad2 l.length cd2])
        refine hK.out _ _ (Bw.setRow hS HG11.out #[.int .i64 x, .int .i64 y, .slice ad2 l.length cd2]) (fun hS => ?_)
        clear hK K
        refine wpAnyH_ready (rs := [20]) (by kernel_rfl) (by simp) ?_
        refine AllReadyH.cons rfl (fun K hK => ?_) ?_
        rw [if_pos (by rfl)]
        refine wp_store_row0 36 _ _ rfl rfl g12 #[.int .i64 nu, .int .i64 de] rfl rfl 36 #[.int .i64 0, .int .i64 0] NB12.out (by kernel_rfl) rfl (by simp [Value.oneCell']) ?_
        replace NB12 := Lib.hid (NB12.out.row #[.int .i64 nu, .int .i64 de])
        replace NB11 := Lib.hid (NB11.out.row_other NG.out.symm #[.int .i64 nu, .int .i64 de])
        replace HD2 := Lib.hid (HD2.out.rowOff NE12.out #[.int .i64 nu, .int .i64 de])
        refine hK.out _ _ (Bw.setRow hS HG12.out #[.int .i64 nu, .int .i64 de]) (fun hS => ?_)
        clear hK K
        refine take1 (i := 21) (some 13) rfl rfl (by kernel_rfl) (by kernel_rfl) (by kernel_rfl) (fun _ _ _ _ h => h) rfl hS ?_
        apply Exists.intro
        apply And.intro
        · intro W9 hW9; have y1 := hW9.cell' f1.out; have y2 := hW9.cell' f2.out; go_simp; try with_reducible rfl
        simp only [Act.put, List.setIfInBounds_toArray, List.set_cons_zero, List.set_cons_succ]
        refine take1 (i := 22) (some 14) rfl rfl (by kernel_rfl) (by kernel_rfl) (by kernel_rfl) (fun _ _ _ _ h => h) rfl hS ?_
        apply Exists.intro
        apply And.intro
        · intro W9 hW9; have y1 := hW9.cell' f1.out; have y2 := hW9.cell' f2.out; go_simp; try with_reducible rfl
        simp only [Act.put, List.setIfInBounds_toArray, List.set_cons_zero, List.set_cons_succ]
        refine wpAnyH_done (by kernel_rfl) ?_ _
        rotate_left
        exact AllReadyH.nil
        exact AllReadyH.nil
        exact AllReadyH.nil
        refine AllReadyH.cons rfl (fun K hK => ?_) ?_
        rw [if_pos (by rfl)]
        refine wp_alloc_new 36 rfl (some 12) rfl _ (zeroRa _) ?_
        intro g12 w18 hg12 hN hbw
        simp only [Act.put, List.setIfInBounds_toArray, List.set_cons_zero, List.set_cons_succ]
        have NB12 := Lib.hid hN
        have HG12 := Lib.hid (Nat.le_trans hS.size hg12)
        have NG := Lib.hid (show g12 ≠ g11 by have := NB11.out.lt; omega)
        replace NB11 := Lib.hid (NB11.out.bw hbw)
        clear hN
        refine hK.out _ _ (hS.trans hbw) (fun hS => ?_)
        clear hK K
        refine wpAnyH_ready (rs := [11]) (by kernel_rfl) (by simp) ?_
        refine AllReadyH.cons rfl (fun K hK => ?_) ?_
        go_simp
        go_wp2_with (go_at_call 15; (with_reducible refine Calls.mono (HS.out _ (HD.out.mono hS)) ?_); rintro e1 w4 ⟨⟨vd2, rfl, hr2, hf2⟩, hb4⟩)
        have NE11 := Lib.hid (hf2.off NB11.out.lt l)
        replace NB11 := Lib.hid (NB11.out.bw hb4)
        have NE12 := Lib.hid (hf2.off NB12.out.lt l)
        replace NB12 := Lib.hid (NB12.out.bw hb4)
        have HF := Lib.hid (hf2.mono hS.size)
        have HD2 := Lib.hid hr2
        obtain ⟨ad2, cd2, rfl⟩ := hr2.form
        clear hr2 hf2
        refine hK.out _ _ (hS.trans hb4) (fun hS => ?_)
        clear hK K
        refine take1 (i := 12) (some 33) rfl rfl (by kernel_rfl) (by kernel_rfl) (by kernel_rfl) (fun _ _ _ _ h => h) rfl hS ?_
        apply Exists.intro
        apply And.intro
        · intro W9 hW9; have y1 := hW9.cell' f1.out; have y2 := hW9.cell' f2.out; go_simp; try with_reducible rfl
        simp only [Act.put, List.setIfInBounds_toArray, List.set_cons_zero, List.set_cons_succ]
        refine take1 (i := 13) (some 46) rfl rfl (by kernel_rfl) (by kernel_rfl) (by kernel_rfl) (fun _ _ _ _ h => h) rfl hS ?_
        apply Exists.intro
        apply And.intro
        · intro W9 hW9; have y1 := hW9.cell' f1.out; have y2 := hW9.cell' f2.out; go_simp; try with_reducible rfl
        simp only [Act.put, List.setIfInBounds_toArray, List.set_cons_zero, List.set_cons_succ]
        refine take1 (i := 14) (some 47) rfl rfl (by kernel_rfl) (by kernel_rfl) (by kernel_rfl) (fun _ _ _ _ h => h) rfl hS ?_
        apply Exists.intro
        apply And.intro
        · intro W9 hW9; have y1 := hW9.cell' f1.out; have y2 := hW9.cell' f2.out; go_simp; try with_reducible rfl
        simp only [Act.put, List.setIfInBounds_toArray, List.set_cons_zero, List.set_cons_succ]
        refine take1 (i := 15) (some 48) rfl rfl (by kernel_rfl) (by kernel_rfl) (by kernel_rfl) (fun _ _ _ _ h => h) rfl hS ?_
        apply Exists.intro
        apply And.intro
        · intro W9 hW9; have y1 := hW9.cell' f1.out; have y2 := hW9.cell' f2.out; go_simp; try with_reducible rfl
        simp only [Act.put, List.setIfInBounds_toArray, List.set_cons_zero, List.set_cons_succ]
        refine take1 (i := 16) (some 49) rfl rfl (by kernel_rfl) (by kernel_rfl) (by kernel_rfl) (fun _ _ _ _ h => h) rfl hS ?_
        apply Exists.intro
        apply And.intro
        · intro W9 hW9; have y1 := hW9.cell' f1.out; have y2 := hW9.cell' f2.out; go_simp; try with_reducible rfl
        simp only [Act.put, List.setIfInBounds_toArray, List.set_cons_zero, List.set_cons_succ]
        refine wpAnyH_ready (rs := [19]) (by kernel_rfl) (by simp) ?_
        refine AllReadyH.cons rfl (fun K hK => ?_) ?_
        rw [if_pos (by rfl)]
        refine wp_store_row0 34 _ _ rfl rfl g11 #[.int .i64 x, .int .i64 y, .slice ad2 l.length cd2] rfl rfl 34 #[.int .i64 0, .int .i64 0, .slice none 0 0] NB11.out (by kernel_rfl) rfl (by simp [Value.oneCell']) ?_
        replace NB11 := Lib.hid (NB11.out.row #[.int .i64 x, .int .i64 y, .slice ad2 l.length cd2])
        replace NB12 := Lib.hid (NB12.out.row_other NG.out #[.int .i64 x, .int .i64 y, .slice ad2 l.length cd2])
        replace HD2 := Lib.hid (HD2.out.rowOff NE11.out #[.int .i64 x, .int .i64 y, .slice ad2 l.length cd2])
        refine hK.out _ _ (Bw.setRow hS HG11.out #[.int .i64 x, .int .i64 y, .slice ad2 l.length cd2]) (fun hS => ?_)
        clear hK K
        refine wpAnyH_ready (rs := [20]) (by kernel_rfl) (by simp) ?_
        refine AllReadyH.cons rfl (fun K hK => ?_) ?_
        rw [if_pos (by rfl)]
        refine wp_store_row0 36 _ _ rfl rfl g12 #[.int .i64 nu, .int .i64 de] rfl rfl 36 #[.int .i64 0, .int .i64 0] NB12.out (by kernel_rfl) rfl (by simp [Value.oneCell']) ?_
        replace NB12 := Lib.hid (NB12.out.row #[.int .i64 nu, .int .i64 de])
        replace NB11 := Lib.hid (NB11.out.row_other NG.out.symm #[.int .i64 nu, .int .i64 de])
        replace HD2 := Lib.hid (HD2.out.rowOff NE12.out #[.int .i64 nu, .int .i64 de])
        refine hK.out _ _ (Bw.setRow hS HG12.out #[.int .i64 nu, .int .i64 de]) (fun hS => ?_)
        clear hK K
        refine take1 (i := 21) (some 13) rfl rfl (by kernel_rfl) (by kernel_rfl) (by kernel_rfl) (fun _ _ _ _ h => h) rfl hS ?_
        apply Exists.intro
        apply And.intro
        · intro W9 hW9; have y1 := hW9.cell' f1.out; have y2 := hW9.cell' f2.out; go_simp; try with_reducible rfl
        simp only [Act.put, List.setIfInBounds_toArray, List.set_cons_zero, List.set_cons_succ]
        refine take1 (i := 22) (some 14) rfl rfl (by kernel_rfl) (by kernel_rfl) (by kernel_rfl) (fun _ _ _ _ h => h) rfl hS ?_
        apply Exists.intro
        apply And.intro
        · intro W9 hW9; have y1 := hW9.cell' f1.out; have y2 := hW9.cell' f2.out; go_simp; try with_reducible rfl
        simp only [Act.put, List.setIfInBounds_toArray, List.set_cons_zero, List.set_cons_succ]
        refine wpAnyH_done (by kernel_rfl) ?_ _
        rotate_left
        exact AllReadyH.nil
        exact AllReadyH.nil
        exact AllReadyH.nil
        exact AllReadyH.nil
        refine AllReadyH.cons rfl (fun K hK => ?_) ?_
        rw [if_pos (by rfl)]
        refine wp_alloc_new 36 rfl (some 12) rfl _ (zeroRa _) ?_
        intro g12 w18 hg12 hN hbw
        simp only [Act.put, List.setIfInBounds_toArray, List.set_cons_zero, List.set_cons_succ]
        have NB12 := Lib.hid hN
        have HG12 := Lib.hid (Nat.le_trans hS.size hg12)
        clear hN
        refine hK.out _ _ (hS.trans hbw) (fun hS => ?_)
        clear hK K
        refine wpAnyH_ready (rs := [11, 17]) (by kernel_rfl) (by simp) ?_
        refine AllReadyH.cons rfl (fun K hK => ?_) ?_
        go_simp
        go_wp2_with (go_at_call 15; (with_reducible refine Calls.mono (HS.out _ (HD.out.mono hS)) ?_); rintro e1 w4 ⟨⟨vd2, rfl, hr2, hf2⟩, hb4⟩)
        have NE12 := Lib.hid (hf2.off NB12.out.lt l)
        replace NB12 := Lib.hid (NB12.out.bw hb4)
        have HF := Lib.hid (hf2.mono hS.size)
        have HD2 := Lib.hid hr2
        obtain ⟨ad2, cd2, rfl⟩ := hr2.form
        clear hr2 hf2
        refine hK.out _ _ (hS.trans hb4) (fun hS => ?_)
        clear hK K
        refine take1 (i := 12) (some 33) rfl rfl (by kernel_rfl) (by kernel_rfl) (by kernel_rfl) (fun _ _ _ _ h => h) rfl hS ?_
        apply Exists.intro
        apply And.intro
        · intro W9 hW9; have y1 := hW9.cell' f1.out; have y2 := hW9.cell' f2.out; go_simp; try with_reducible rfl
        simp only [Act.put, List.setIfInBounds_toArray, List.set_cons_zero, List.set_cons_succ]
        refine take1 (i := 13) (some 46) rfl rfl (by kernel_rfl) (by kernel_rfl) (by kernel_rfl) (fun _ _ _ _ h => h) rfl hS ?_
        apply Exists.intro
        apply And.intro
        · intro W9 hW9; have y1 := hW9.cell' f1.out; have y2 := hW9.cell' f2.out; go_simp; try with_reducible rfl
        simp only [Act.put, List.setIfInBounds_toArray, List.set_cons_zero, List.set_cons_succ]
        refine take1 (i := 14) (some 47) rfl rfl (by kernel_rfl) (by kernel_rfl) (by kernel_rfl) (fun _ _ _ _ h => h) rfl hS ?_
        apply Exists.intro
        apply And.intro
        · intro W9 hW9; have y1 := hW9.cell' f1.out; have y2 := hW9.cell' f2.out; go_simp; try with_reducible rfl
        simp only [Act.put, List.setIfInBounds_toArray, List.set_cons_zero, List.set_cons_succ]
        refine take1 (i := 15) (some 48) rfl rfl (by kernel_rfl) (by kernel_rfl) (by kernel_rfl) (fun _ _ _ _ h => h) rfl hS ?_
        apply Exists.intro
        apply And.intro
        · intro W9 hW9; have y1 := hW9.cell' f1.out; have y2 := hW9.cell' f2.out; go_simp; try with_reducible rfl
        simp only [Act.put, List.setIfInBounds_toArray, List.set_cons_zero, List.set_cons_succ]
        refine take1 (i := 16) (some 49) rfl rfl (by kernel_rfl) (by kernel_rfl) (by kernel_rfl) (fun _ _ _ _ h => h) rfl hS ?_
        apply Exists.intro
        apply And.intro
        · intro W9 hW9; have y1 := hW9.cell' f1.out; have y2 := hW9.cell' f2.out; go_simp; try with_reducible rfl
        simp only [Act.put, List.setIfInBounds_toArray, List.set_cons_zero, List.set_cons_succ]
        refine wpAnyH_ready (rs := [17]) (by kernel_rfl) (by simp) ?_
        refine AllReadyH.cons rfl (fun K hK => ?_) ?_
        rw [if_pos (by rfl)]
        refine wp_alloc_new 34 rfl (some 11) rfl _ (zeroSm _) ?_
        intro g11 w17 hg11 hN hbw
        simp only [Act.put, List.setIfInBounds_toArray, List.set_cons_zero, List.set_cons_succ]
        have NB11 := Lib.hid hN
        have HG11 := Lib.hid (Nat.le_trans hS.size hg11)
        have NE11 := Lib.hid (HD2.out.off hg11)
        replace HD2 := Lib.hid (HD2.out.mono hbw)
        have NG := Lib.hid (show g12 ≠ g11 by have := NB12.out.lt; omega)
        replace NB12 := Lib.hid (NB12.out.bw hbw)
        clear hN
        refine hK.out _ _ (hS.trans hbw) (fun hS => ?_)
        clear hK K
        refine wpAnyH_ready (rs := [19]) (by kernel_rfl) (by simp) ?_
        refine AllReadyH.cons rfl (fun K hK => ?_) ?_
        rw [if_pos (by rfl)]
        refine wp_store_row0 34 _ _ rfl rfl g11 #[.int .i64 x, .int .i64 y, .slice ad2 l.length cd2] rfl rfl 34 #[.int .i64 0, .int .i64 0, .slice none 0 0] NB11.out (by kernel_rfl) rfl (by simp [Value.oneCell']) ?_
        replace NB11 := Lib.hid (NB11.out.row #[.int .i64 x, .int .i64 y, .slice ad2 l.length cd2])
        replace NB12 := Lib.hid (NB12.out.row_other NG.out #[.int .i64 x, .int .i64 y, .slice ad2 l.length cd2])
        replace HD2 := Lib.hid (HD2.out.rowOff NE11.out #[.int .i64 x, .int .i64 y, .slice ad2 l.length cd2])
        refine hK.out _ _ (Bw.setRow hS HG11.out #[.int .i64 x, .int .i64 y, .slice ad2 l.length cd2]) (fun hS => ?_)
        clear hK K
        refine wpAnyH_ready (rs := [20]) (by kernel_rfl) (by simp) ?_
        refine AllReadyH.cons rfl (fun K hK => ?_) ?_
        rw [if_pos (by rfl)]
        refine wp_store_row0 36 _ _ rfl rfl g12 #[.int .i64 nu, .int .i64 de] rfl rfl 36 #[.int .i64 0, .int .i64 0] NB12.out (by kernel_rfl) rfl (by simp [Value.oneCell']) ?_
        replace NB12 := Lib.hid (NB12.out.row #[.int .i64 nu, .int .i64 de])
        replace NB11 := Lib.hid (NB11.out.row_other NG.out.symm #[.int .i64 nu, .int .i64 de])
        replace HD2 := Lib.hid (HD2.out.rowOff NE12.out #[.int .i64 nu, .int .i64 de])
        refine hK.out _ _ (Bw.setRow hS HG12.out #[.int .i64 nu, .int .i64 de]) (fun hS => ?_)
        clear hK K
        refine take1 (i := 21) (some 13) rfl rfl (by kernel_rfl) (by kernel_rfl) (by kernel_rfl) (fun _ _ _ _ h => h) rfl hS ?_
        apply Exists.intro
        apply And.intro
        · intro W9 hW9; have y1 := hW9.cell' f1.out; have y2 := hW9.cell' f2.out; go_simp; try with_reducible rfl
        simp only [Act.put, List.setIfInBounds_toArray, List.set_cons_zero, List.set_cons_succ]
        refine take1 (i := 22) (some 14) rfl rfl (by kernel_rfl) (by kernel_rfl) (by kernel_rfl) (fun _ _ _ _ h => h) rfl hS ?_
        apply Exists.intro
        apply And.intro
        · intro W9 hW9; have y1 := hW9.cell' f1.out; have y2 := hW9.cell' f2.out; go_simp; try with_reducible rfl
        simp only [Act.put, List.setIfInBounds_toArray, List.set_cons_zero, List.set_cons_succ]
        refine wpAnyH_done (by kernel_rfl) ?_ _
        rotate_left
        exact AllReadyH.nil
        exact AllReadyH.nil
        exact AllReadyH.nil
        refine AllReadyH.cons rfl (fun K hK => ?_) ?_
        rw [if_pos (by rfl)]
        refine wp_alloc_new 34 rfl (some 11) rfl _ (zeroSm _) ?_
        intro g11 w17 hg11 hN hbw
        simp only [Act.put, List.setIfInBounds_toArray, List.set_cons_zero, List.set_cons_succ]
        have NB11 := Lib.hid hN
        have HG11 := Lib.hid (Nat.le_trans hS.size hg11)
        have NG := Lib.hid (show g12 ≠ g11 by have := NB12.out.lt; omega)
        replace NB12 := Lib.hid (NB12.out.bw hbw)
        clear hN
        refine hK.out _ _ (hS.trans hbw) (fun hS => ?_)
        clear hK K
        refine wpAnyH_ready (rs := [11]) (by kernel_rfl) (by simp) ?_
        refine AllReadyH.cons rfl (fun K hK => ?_) ?_
        go_simp
        go_wp2_with (go_at_call 15; (with_reducible refine Calls.mono (HS.out _ (HD.out.mono hS)) ?_); rintro e1 w4 ⟨⟨vd2, rfl, hr2, hf2⟩, hb4⟩)
        have NE11 := Lib.hid (hf2.off NB11.out.lt l)
        replace NB11 := Lib.hid (NB11.out.bw hb4)
        have NE12 := Lib.hid (hf2.off NB12.out.lt l)
        replace NB12 := Lib.hid (NB12.out.bw hb4)
        have HF := Lib.hid (hf2.mono hS.size)
        have HD2 := Lib.hid hr2
        obtain ⟨ad2, cd2, rfl⟩ := hr2.form
        clear hr2 hf2
        refine hK.out _ _ (hS.trans hb4) (fun hS => ?_)
        clear hK K
        refine take1 (i := 12) (some 33) rfl rfl (by kernel_rfl) (by kernel_rfl) (by kernel_rfl) (fun _ _ _ _ h => h) rfl hS ?_
        apply Exists.intro
        apply And.intro
        · intro W9 hW9; have y1 := hW9.cell' f1.out; have y2 := hW9.cell' f2.out; go_simp; try with_reducible rfl
        simp only [Act.put, List.setIfInBounds_toArray, List.set_cons_zero, List.set_cons_succ]
        refine take1 (i := 13) (some 46) rfl rfl (by kernel_rfl) (by kernel_rfl) (by kernel_rfl) (fun _ _ _ _ h => h) rfl hS ?_
        apply Exists.intro
        apply And.intro
        · intro W9 hW9; have y1 := hW9.cell' f1.out; have y2 := hW9.cell' f2.out; go_simp; try with_reducible rfl
        simp only [Act.put, List.setIfInBounds_toArray, List.set_cons_zero, List.set_cons_succ]
        refine take1 (i := 14) (some 47) rfl rfl (by kernel_rfl) (by kernel_rfl) (by kernel_rfl) (fun _ _ _ _ h => h) rfl hS ?_
        apply Exists.intro
        apply And.intro
        · intro W9 hW9; have y1 := hW9.cell' f1.out; have y2 := hW9.cell' f2.out; go_simp; try with_reducible rfl
        simp only [Act.put, List.setIfInBounds_toArray, List.set_cons_zero, List.set_cons_succ]
        refine take1 (i := 15) (some 48) rfl rfl (by kernel_rfl) (by kernel_rfl) (by kernel_rfl) (fun _ _ _ _ h => h) rfl hS ?_
        apply Exists.intro
        apply And.intro
        · intro W9 hW9; have y1 := hW9.cell' f1.out; have y2 := hW9.cell' f2.out; go_simp; try with_reducible rfl
        simp only [Act.put, List.setIfInBounds_toArray, List.set_cons_zero, List.set_cons_succ]
        refine take1 (i := 16) (some 49) rfl rfl (by kernel_rfl) (by kernel_rfl) (by kernel_rfl) (fun _ _ _ _ h => h) rfl hS ?_
        apply Exists.intro
        apply And.intro
        · intro W9 hW9; have y1 := hW9.cell' f1.out; have y2 := hW9.cell' f2.out; go_simp; try with_reducible rfl
        simp only [Act.put, List.setIfInBounds_toArray, List.set_cons_zero, List.set_cons_succ]
        refine wpAnyH_ready (rs := [19]) (by kernel_rfl) (by simp) ?_
        refine AllReadyH.cons rfl (fun K hK => ?_) ?_
        rw [if_pos (by rfl)]
        refine wp_store_row0 34 _ _ rfl rfl g11 #[.int .i64 x, .int .i64 y, .slice ad2 l.length cd2] rfl rfl 34 #[.int .i64 0, .int .i64 0, .slice none 0 0] NB11.out (by kernel_rfl) rfl (by simp [Value.oneCell']) ?_
        replace NB11 := Lib.hid (NB11.out.row #[.int .i64 x, .int .i64 y, .slice ad2 l.length cd2])
        replace NB12 := Lib.hid (NB12.out.row_other NG.out #[.int .i64 x, .int .i64 y, .slice ad2 l.length cd2])
        replace HD2 := Lib.hid (HD2.out.rowOff NE11.out #[.int .i64 x, .int .i64 y, .slice ad2 l.length cd2])
        refine hK.out _ _ (Bw.setRow hS HG11.out #[.int .i64 x, .int .i64 y, .slice ad2 l.length cd2]) (fun hS => ?_)
        clear hK K
        refine wpAnyH_ready (rs := [20]) (by kernel_rfl) (by simp) ?_
        refine AllReadyH.cons rfl (fun K hK => ?_) ?_
        rw [if_pos (by rfl)]
        refine wp_store_row0 36 _ _ rfl rfl g12 #[.int .i64 nu, .int .i64 de] rfl rfl 36 #[.int .i64 0, .int .i64 0] NB12.out (by kernel_rfl) rfl (by simp [Value.oneCell']) ?_
        replace NB12 := Lib.hid (NB12.out.row #[.int .i64 nu, .int .i64 de])
        replace NB11 := Lib.hid (NB11.out.row_other NG.out.symm #[.int .i64 nu, .int .i64 de])
        replace HD2 := Lib.hid (HD2.out.rowOff NE12.out #[.int .i64 nu, .int .i64 de])
        refine hK.out _ _ (Bw.setRow hS HG12.out #[.int .i64 nu, .int .i64 de]) (fun hS => ?_)
        clear hK K
        refine take1 (i := 21) (some 13) rfl rfl (by kernel_rfl) (by kernel_rfl) (by kernel_rfl) (fun _ _ _ _ h => h) rfl hS ?_
        apply Exists.intro
        apply And.intro
        · intro W9 hW9; have y1 := hW9.cell' f1.out; have y2 := hW9.cell' f2.out; go_simp; try with_reducible rfl
        simp only [Act.put, List.setIfInBounds_toArray, List.set_cons_zero, List.set_cons_succ]
        refine take1 (i := 22) (some 14) rfl rfl (by kernel_rfl) (by kernel_rfl) (by kernel_rfl) (fun _ _ _ _ h => h) rfl hS ?_
        apply Exists.intro
        apply And.intro
        · intro W9 hW9; have y1 := hW9.cell' f1.out; have y2 := hW9.cell' f2.out; go_simp; try with_reducible rfl
        simp only [Act.put, List.setIfInBounds_toArray, List.set_cons_zero, List.set_cons_succ]
        refine wpAnyH_done (by kernel_rfl) ?_ _
        rotate_left
        exact AllReadyH.nil
        exact AllReadyH.nil
        exact AllReadyH.nil
        exact AllReadyH.nil
        exact AllReadyH.nil
        all_goals
          go_wp2
          go_meet
          exact ⟨g11, g12, _, rfl, rfl, rfl, rfl, rfl, rfl, Lib.hid hS, NB11, NB12, HD2, HF, HG11, HG12⟩
      case rest =>
        obtain ⟨g11, g12, vd2, rfl, rfl, rfl, rfl, rfl, rfl, HBc, NB11, NB12, HD2, HF, HG11, HG12⟩ := hcut
        have HLO1 := Lib.hid (fun j hj => (O1.out.lt j hj).2)
        have HLO2 := Lib.hid (fun j hj => (O2.out.lt j hj).2)
        have HG0 := Lib.hid BX.out.lt
        have HLT := Lib.hid (show (ps.take i).length ≤ 10000 by rw [List.length_take]; omega)
        replace O1 := Lib.hid (own_bw O1.out HBc.out)
        replace O2 := Lib.hid (own_bw O2.out HBc.out)
        replace BX := Lib.hid (BX.out.bw HBc.out)
        replace HW := Lib.hid (HW.out.trans HBc.out)
        obtain ⟨ad2, cd2, rfl⟩ := HD2.out.form
        cases hm : okM (ps.getD i (0, 0)) with
        | false =>
          have hE := HT2.out hm
          rw [hE]
          have HE := Lib.hid (replR_bad HOK.out (show ps.length ≤ 10000 by have := HN.out; omega) (getD_mem ps i (0, 0) (by have := HN.out; omega)) hm)
          clear hE hm
          go_wp2
          refine bodyPost_ret (v := .tuple #[.slice none 0 0, .slice none 0 0, .int .i64 2]) ?_ rfl ⟨by rw [HE.out]; exact ⟨_, _, rfl, RdS.nil _, RdI.nil _, Fresh.nil _ _ _, Fresh.nil _ _ _⟩, HW.out⟩
          simp [results, Try.results11, go_sem]
        | true =>
          obtain ⟨ex, ey, ee, hr⟩ := HT1.out hm
          rw [ex, ey] at NB11
          rw [ee]
          have HA2 := Lib.hid (show ∀ m ∈ ps.take (i + 1), okM m = true by
            rw [take_snoc ps i (0, 0) (by have := HN.out; omega)]
            intro m h9
            rcases List.mem_append.1 h9 with h9 | h9
            · exact HA.out m h9
            · simp at h9; rw [h9]; simpa using hm)
          have HR := Lib.hid hr
          clear ex ey ee hr hm HT1 HT2 HSR HS f1 f2 HP HF0 HD
          cases sl with
          | true =>
            rw [if_pos rfl] at HR
            go_wp2_with (first | (at_builtin; have hba := Bw.alloc (Bw.refl wc) (.cells #[.int .i64 i] 3); replace O1 := Lib.hid (own_bw O1.out hba); replace O2 := Lib.hid (own_bw O2.out hba); replace NB11 := Lib.hid (NB11.out.bw hba); replace NB12 := Lib.hid (NB12.out.bw hba); replace BX := Lib.hid (BX.out.bw hba); replace HD2 := Lib.hid (HD2.out.mono hba); replace HW := Lib.hid (HW.out.trans hba); clear hba; refine wpList_append_int1 rfl (.tmp 54) (.tmp 56) _ rfl BB 3 Try.underlying26 infoInt _ sls (i : Int) rfl O2.out _ rfl (by simp [go_sem]) (by have := HL2.out; have := HLT.out; omega) (by have := HW.out.size; have := HB.out; omega) ?_; intro v7 w7 hown hgr; replace NB11 := Lib.hid (NB11.out.grownT O2.out hgr (by decide)); replace NB12 := Lib.hid (NB12.out.grownT O2.out hgr (by decide)); replace BX := Lib.hid (BX.out.grownT O2.out hgr (by decide)); replace O1 := Lib.hid (own_other O1.out O2.out (by decide) hgr); replace HD2 := Lib.hid (HD2.out.grown HF.out hgr HLO2.out); replace HW := Lib.hid (Bw.grownN HB.out HW.out O2.out hgr); replace O2 := Lib.hid hown; clear hown hgr) | ((with_reducible refine at_load 36 (.tmp 12) ?_); refine wpList_load_row rfl 36 _ rfl g12 rfl 36 _ (0, 0) _ NB12.out Try.underlying36 rfl (by kernel_rfl) ?_) | (at_builtin; have hba := Bw.alloc (Bw.refl w7) (.cells #[.int .i64 nu, .int .i64 de] 36); have NB := Lib.hid (Blk.new w7 36 #[.int .i64 nu, .int .i64 de]); replace O1 := Lib.hid (own_bw O1.out hba); replace O2 := Lib.hid (own_bw O2.out hba); replace NB11 := Lib.hid (NB11.out.bw hba); replace NB12 := Lib.hid (NB12.out.bw hba); replace BX := Lib.hid (BX.out.bw hba); replace HD2 := Lib.hid (HD2.out.mono hba); replace HW := Lib.hid (HW.out.trans hba); clear hba; refine wpList_append_pair_beside rfl (.tmp 58) (.tmp 60) _ rfl BB 36 Try.underlying25 infoRat _ rs nu de rfl O1.out _ rfl (NB.out.cell rfl) (NB.out.cell rfl) (by have := HL1.out; have := HLT.out; omega) (by have := HW.out.size; have := HB.out; omega) O2.out (own_apart O1.out O2.out (by decide)) ?_; intro v8 w8 hown hgr hot hap; replace NB11 := Lib.hid (NB11.out.grownT O1.out hgr (by decide)); replace BX := Lib.hid (BX.out.grownT O1.out hgr (by decide)); replace HD2 := Lib.hid (HD2.out.grown HF.out hgr HLO1.out); replace HW := Lib.hid (Bw.grownN HB.out HW.out O1.out hgr); replace O1 := Lib.hid hown; replace O2 := Lib.hid hot; clear hown hgr hot hap NB NB12) | ((with_reducible refine at_load 34 (.tmp 11) ?_); refine wpList_load_row rfl 34 _ rfl g11 rfl 34 _ (0, 0) _ NB11.out Try.underlying34 rfl (by kernel_rfl) ?_) | ((with_reducible refine at_store 34 (.tmp 9) (.tmp 62) ?_); refine wpList_store_row rfl 34 _ _ rfl g0 #[.int .i64 W, .int .i64 L, .slice ad2 l.length cd2] rfl rfl 34 _ BX.out (by kernel_rfl) rfl (by simp [Value.oneCell']) ?_; replace O1 := Lib.hid (own_rowT O1.out BX.out (by decide) #[.int .i64 W, .int .i64 L, .slice ad2 l.length cd2]); replace O2 := Lib.hid (own_rowT O2.out BX.out (by decide) #[.int .i64 W, .int .i64 L, .slice ad2 l.length cd2]); replace HD2 := Lib.hid (HD2.out.rowOff (HF.out.off HG0.out l) #[.int .i64 W, .int .i64 L, .slice ad2 l.length cd2]); replace HW := Lib.hid (Bw.setRow (g := g0) HW.out (by have := HZ1.out; have := HB.out; omega) #[.int .i64 W, .int .i64 L, .slice ad2 l.length cd2]); replace BX := Lib.hid (BX.out.row #[.int .i64 W, .int .i64 L, .slice ad2 l.length cd2])))
            go_roundg (n - (i + 1))
            case measure => omega
            case rel =>
              refine ⟨i + 1, by omega, by omega, by go_num, Lib.hid HA2.out, HW, ?_, ?_, _, BX, ?_⟩
              · rw [HR.out]; exact O1
              · rw [HR.out]; exact O2
              · rw [HR.out]; exact HD2
          | false =>
            rw [if_neg (by simp)] at HR
            go_wp2_with (first | ((with_reducible refine at_load 36 (.tmp 12) ?_); refine wpList_load_row rfl 36 _ rfl g12 rfl 36 _ (0, 0) _ NB12.out Try.underlying36 rfl (by kernel_rfl) ?_) | (at_builtin; have hba := Bw.alloc (Bw.refl wc) (.cells #[.int .i64 nu, .int .i64 de] 36); have NB := Lib.hid (Blk.new wc 36 #[.int .i64 nu, .int .i64 de]); replace O1 := Lib.hid (own_bw O1.out hba); replace O2 := Lib.hid (own_bw O2.out hba); replace NB11 := Lib.hid (NB11.out.bw hba); replace NB12 := Lib.hid (NB12.out.bw hba); replace BX := Lib.hid (BX.out.bw hba); replace HD2 := Lib.hid (HD2.out.mono hba); replace HW := Lib.hid (HW.out.trans hba); clear hba; refine wpList_append_pair_beside rfl (.tmp 58) (.tmp 60) _ rfl BB 36 Try.underlying25 infoRat _ rs nu de rfl O1.out _ rfl (NB.out.cell rfl) (NB.out.cell rfl) (by have := HL1.out; have := HLT.out; omega) (by have := HW.out.size; have := HB.out; omega) O2.out (own_apart O1.out O2.out (by decide)) ?_; intro v8 w8 hown hgr hot hap; replace NB11 := Lib.hid (NB11.out.grownT O1.out hgr (by decide)); replace BX := Lib.hid (BX.out.grownT O1.out hgr (by decide)); replace HD2 := Lib.hid (HD2.out.grown HF.out hgr HLO1.out); replace HW := Lib.hid (Bw.grownN HB.out HW.out O1.out hgr); replace O1 := Lib.hid hown; replace O2 := Lib.hid hot; clear hown hgr hot hap NB NB12) | ((with_reducible refine at_load 34 (.tmp 11) ?_); refine wpList_load_row rfl 34 _ rfl g11 rfl 34 _ (0, 0) _ NB11.out Try.underlying34 rfl (by kernel_rfl) ?_) | ((with_reducible refine at_store 34 (.tmp 9) (.tmp 62) ?_); refine wpList_store_row rfl 34 _ _ rfl g0 #[.int .i64 W, .int .i64 L, .slice ad2 l.length cd2] rfl rfl 34 _ BX.out (by kernel_rfl) rfl (by simp [Value.oneCell']) ?_; replace O1 := Lib.hid (own_rowT O1.out BX.out (by decide) #[.int .i64 W, .int .i64 L, .slice ad2 l.length cd2]); replace O2 := Lib.hid (own_rowT O2.out BX.out (by decide) #[.int .i64 W, .int .i64 L, .slice ad2 l.length cd2]); replace HD2 := Lib.hid (HD2.out.rowOff (HF.out.off HG0.out l) #[.int .i64 W, .int .i64 L, .slice ad2 l.length cd2]); replace HW := Lib.hid (Bw.setRow (g := g0) HW.out (by have := HZ1.out; have := HB.out; omega) #[.int .i64 W, .int .i64 L, .slice ad2 l.length cd2]); replace BX := Lib.hid (BX.out.row #[.int .i64 W, .int .i64 L, .slice ad2 l.length cd2])))
            go_roundg (n - (i + 1))
            case measure => omega
            case rel =>
              refine ⟨i + 1, by omega, by omega, by go_num, Lib.hid HA2.out, HW, ?_, ?_, _, BX, ?_⟩
              · rw [HR.out]; exact O1
              · rw [HR.out]; exact O2
              · rw [HR.out]; exact HD2
    · obtain rfl : n = i := by omega
      rw [List.take_of_length_le (by have := HN.out; omega)] at O1 O2 HA HL1 HL2
      have HE := Lib.hid (replR_all HOK.out (show ps.length ≤ 10000 by have := HN.out; omega) HA.out)
      have ⟨r1, r2⟩ := own_rdS2 O1.out (by have := HL1.out; have := HN.out; omega)
      have ⟨r3, r4⟩ := own_rd O2.out (by have := HL2.out; have := HN.out; omega)
      have hiz : ¬ (n : Int) < n := by omega
      clear hlt hi hgg
      go_wp2
      refine bodyPost_ret (v := .tuple #[u6, u7, .int .i64 0]) ?_ rfl ⟨by rw [HE.out]; exact ⟨_, _, rfl, r1, r3, r2, r4⟩, HW.out⟩
      simp [results, Try.results11, go_sem]
theorem RReplay_any (W L : Int) (ps : List (Int × Int)) (v : Value) (w : World) (hv : RdS w v ps) :
    Calls Try.prog 11 #[.int .i64 W, .int .i64 L, v] w fun e w' => ReplP w.heap.size (replR W L ps).1 (replR W L ps).2.1 (replR W L ps).2.2 e w' ∧ Bw w w' := by
  by_cases hok : wl W L
  · by_cases hl : 10000 < ps.length
    · have e : replR W L ps = ([], [], 4) := by
        unfold replR
        have ho : okL W L = true := by unfold okL; simpa [wl] using hok
        rw [ho, if_neg (by simp), if_pos hl]
      rw [e]; exact RReplay_long W L ps v w hv hok hl
    · exact RReplay_main W L ps v w hv hok (by omega)
  · have e : replR W L ps = ([], [], 2) := by
      unfold replR
      have ho : okL W L = false := by unfold okL; simpa [wl] using hok
      rw [if_pos ho]
    rw [e]; exact RReplay_bad W L ps v w hv hok
end Go.Proofs.Sky
