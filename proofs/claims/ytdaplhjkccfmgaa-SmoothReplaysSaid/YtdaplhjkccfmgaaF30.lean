/-
  lemmas for the theorems of this claim. No conditions beyond those written in the statements.
-/
import Derived.Test.YtdaplhjkccfmgaaE30
import Derived.BigRegion
set_option linter.unusedVariables false
set_option linter.unusedSimpArgs false
set_option linter.unnecessarySimpa false
namespace Go.Proofs.Sky
open Go Go.RowKit Go.Shelf
set_option maxHeartbeats 1000000
theorem with_more (cs : Array Value) (l : Nat → Int) (F M J : Nat) (W s d : Int) (w : World) (hc : RingC cs l F M W s) (hW : 1 ≤ W) (hW2 : W ≤ 100) (hF : (F : Int) < W) (hM : (M : Int) < W)
    (hJ0 : ((F : Int) + M).tmod W = J) (hJ : J < 100) (hd0 : -20000000000000 ≤ d) (hd1 : d ≤ 20000000000000) (hs0 : -2000000000000000 ≤ s) (hs1 : s ≤ 2000000000000000) :
    Calls Try.prog 35 #[.agg cs, .int .i64 d] w fun e w' => (∃ cs', e = .returned (.agg cs') ∧ RingC cs' (upd l J d) F (M + 1) W (s + d)) ∧ Bw w w' := by
  have hz := zeroRing
  have q0 := RingC.g hc.c0
  have q1 := RingC.g hc.c1
  have q2 := RingC.g hc.c2
  have q3 := RingC.g hc.c3
  have hsz := hc.size
  have HS : Hid (RingAt ((w.alloc (.cells cs 53)).alloc (.cells ring0 53)) w.heap.size l F M W s) := Lib.hid ⟨cs, (Blk.new _ _ _).alloc _, hc⟩
  have HZ : Hid (Blk ((w.alloc (.cells cs 53)).alloc (.cells ring0 53)) (w.heap.size + 1) 53 ring0) := Lib.hid (by have := Blk.new (w.alloc (.cells cs 53)) 53 ring0; simpa using this)
  have HG := Lib.hid (Gr.refl w.heap.size ((w.alloc (.cells cs 53)).alloc (.cells ring0 53)))
  obtain ⟨k0, k1, k2, k3⟩ := HS.out.facts
  have hJi : (J : Int) < 100 := by omega
  have hMW : ((M : Int) == W) = false := by simp; omega
  have hW0 : (W == 0) = false := by simp; omega
  go_enter Try.func35, Try.ntmps35
  go_wp2_with (first | (refine wpList_store_s rfl 3 _ _ rfl w.heap.size _ rfl rfl infoInt1 HS.out ?_; intro w1 HS1 hG1; replace HS := Lib.hid HS1; clear HS1; replace HG := Lib.hid (HG.out.trans hG1); clear hG1; clear k0 k1 k2 k3; obtain ⟨k0, k1, k2, k3⟩ := HS.out.facts) | (refine wpList_store_m rfl 3 _ _ rfl w.heap.size _ rfl rfl infoInt1 HS.out ?_; intro w1 HS1 hG1; replace HS := Lib.hid HS1; clear HS1; replace HG := Lib.hid (HG.out.trans hG1); clear hG1; clear k0 k1 k2 k3; obtain ⟨k0, k1, k2, k3⟩ := HS.out.facts) | (refine wpList_store_f rfl 3 _ _ rfl w.heap.size _ rfl rfl infoInt1 HS.out ?_; intro w1 HS1 hG1; replace HS := Lib.hid HS1; clear HS1; replace HG := Lib.hid (HG.out.trans hG1); clear hG1; clear k0 k1 k2 k3; obtain ⟨k0, k1, k2, k3⟩ := HS.out.facts) | (refine wpList_store_l rfl 3 _ _ rfl w.heap.size J _ rfl rfl infoInt1 HS.out hJ ?_; intro w1 HS1 hG1; replace HS := Lib.hid HS1; clear HS1; replace HG := Lib.hid (HG.out.trans hG1); clear hG1; clear k0 k1 k2 k3; obtain ⟨k0, k1, k2, k3⟩ := HS.out.facts) | (obtain ⟨cs9, hB9, hC9⟩ := HS.out; have HB9 := Lib.hid hB9; clear hB9; have HC9 := Lib.hid hC9; clear hC9; refine wpList_load_row rfl 53 _ rfl w.heap.size rfl 53 cs9 (0, 0) _ HB9.out Try.underlying53 rfl (by rw [infoRing, HC9.out.size]) ?_) | (refine wpList_store_row rfl 53 _ _ rfl (w.heap.size + 1) cs9 rfl rfl 53 ring0 (HZ.out.gr HG.out (by omega)) (by rw [infoRing, HC9.out.size]) (by rw [ring0_ok.size, HC9.out.size]) HC9.out.ok ?_))
  refine bodyPost_ret (v := .agg cs9) ?_ rfl ⟨⟨cs9, rfl, HC9.out⟩, Bw.setRow (Gr.to_bw (a := w) (by repeat (first | exact Bw.refl _ | assumption | refine Bw.alloc ?_ _ | refine Bw.drew ?_ | refine Bw.trans ?_ (by assumption) | refine Bw.setCell ?_ (by simp; try omega) _)) HG.out (Nat.le_refl _)) (by omega) _⟩
  exact results_cell_row (P := Try.prog) Try.results35 _ _ (w.heap.size + 1) 53 cs9 (0, 0) _ rfl (setRow_heap _ _ _ _ _ _ (HZ.out.gr HG.out (by omega))) Try.underlying53 rfl (by rw [infoRing, HC9.out.size])
theorem with_full (cs : Array Value) (l : Nat → Int) (F M F1 J : Nat) (W s d : Int) (w : World) (hc : RingC cs l F M W s) (hW : 1 ≤ W) (hW2 : W ≤ 100) (hF : (F : Int) < W) (hM : (M : Int) = W)
    (hF0 : ((F : Int) + 1).tmod W = F1) (hJ0 : ((F1 : Int) + (M - 1)).tmod W = J) (hJ : J < 100) (hl0 : -20000000000000 ≤ l F) (hl1 : l F ≤ 20000000000000) (hF1 : F1 < 100) (hd0 : -20000000000000 ≤ d) (hd1 : d ≤ 20000000000000) (hs0 : -2000000000000000 ≤ s) (hs1 : s ≤ 2000000000000000) :
    Calls Try.prog 35 #[.agg cs, .int .i64 d] w fun e w' => (∃ cs', e = .returned (.agg cs') ∧ RingC cs' (upd l J d) F1 M W (s - l F + d)) ∧ Bw w w' := by
  have hz := zeroRing
  have q0 := RingC.g hc.c0
  have q1 := RingC.g hc.c1
  have q2 := RingC.g hc.c2
  have q3 := RingC.g hc.c3
  have hsz := hc.size
  have HS : Hid (RingAt ((w.alloc (.cells cs 53)).alloc (.cells ring0 53)) w.heap.size l F M W s) := Lib.hid ⟨cs, (Blk.new _ _ _).alloc _, hc⟩
  have HZ : Hid (Blk ((w.alloc (.cells cs 53)).alloc (.cells ring0 53)) (w.heap.size + 1) 53 ring0) := Lib.hid (by have := Blk.new (w.alloc (.cells cs 53)) 53 ring0; simpa using this)
  have HG := Lib.hid (Gr.refl w.heap.size ((w.alloc (.cells cs 53)).alloc (.cells ring0 53)))
  obtain ⟨k0, k1, k2, k3⟩ := HS.out.facts
  have hJi : (J : Int) < 100 := by omega
  have hMW : ((M : Int) == W) = true := by simp; omega
  have kF := HS.out.at_ F (by omega)
  have hFi : (F : Int) < 100 := by omega
  have hM1 : (1 : Int) ≤ M := by omega
  have hM2 : (M : Int) ≤ 100 := by omega
  clear hM
  have hW0 : (W == 0) = false := by simp; omega
  go_enter Try.func35, Try.ntmps35
  go_wp2
  have HB := Lib.hid (show Bw w ((w.alloc (.cells cs 53)).alloc (.cells ring0 53)) from (by repeat (first | exact Bw.refl _ | assumption | refine Bw.alloc ?_ _ | refine Bw.drew ?_ | refine Bw.trans ?_ (by assumption) | refine Bw.setCell ?_ (by simp; try omega) _)))
  generalize (w.alloc (.cells cs 53)).alloc (.cells ring0 53) = W0 at HB HS HZ HG k0 k1 k2 k3 kF ⊢
  have e0 := fun p : Ext W0 => Ext.cell' k0 p
  have e3 := fun p : Ext W0 => Ext.cell' k3 p
  have eF := fun p : Ext W0 => Ext.cell' kF p
  (refine wp_region_ext_tail 9 (by kernel_rfl) (by kernel_rfl) ?_; simp only [List.take_succ_cons, List.take_zero, List.drop_succ_cons, List.drop_zero]; (repeat (go_big_quiet_step ((fail)))); refine wpQuiet_nil ?_; rintro wq ⟨⟨_, hbq⟩, rfl⟩; obtain ⟨hccq, hffq⟩ := Bw.cells hbq; have hszq := Bw.size hbq)
  replace HS := Lib.hid (HS.out.bw hbq)
  replace HZ := Lib.hid (HZ.out.bw hbq)
  replace HB := Lib.hid (HB.out.trans hbq)
  clear HG e0 e3 eF k0 k1 k2 k3 kF hccq hffq hszq
  have HG := Lib.hid (Gr.refl w.heap.size wq)
  obtain ⟨k0, k1, k2, k3⟩ := HS.out.facts
  clear hbq
  go_wp2_with (first | (refine wpList_store_s rfl 3 _ _ rfl w.heap.size _ rfl rfl infoInt1 HS.out ?_; intro w1 HS1 hG1; replace HS := Lib.hid HS1; clear HS1; replace HG := Lib.hid (HG.out.trans hG1); clear hG1; clear k0 k1 k2 k3; obtain ⟨k0, k1, k2, k3⟩ := HS.out.facts) | (refine wpList_store_m rfl 3 _ _ rfl w.heap.size _ rfl rfl infoInt1 HS.out ?_; intro w1 HS1 hG1; replace HS := Lib.hid HS1; clear HS1; replace HG := Lib.hid (HG.out.trans hG1); clear hG1; clear k0 k1 k2 k3; obtain ⟨k0, k1, k2, k3⟩ := HS.out.facts) | (refine wpList_store_f rfl 3 _ _ rfl w.heap.size _ rfl rfl infoInt1 HS.out ?_; intro w1 HS1 hG1; replace HS := Lib.hid HS1; clear HS1; replace HG := Lib.hid (HG.out.trans hG1); clear hG1; clear k0 k1 k2 k3; obtain ⟨k0, k1, k2, k3⟩ := HS.out.facts) | (refine wpList_store_l rfl 3 _ _ rfl w.heap.size J _ rfl rfl infoInt1 HS.out hJ ?_; intro w1 HS1 hG1; replace HS := Lib.hid HS1; clear HS1; replace HG := Lib.hid (HG.out.trans hG1); clear hG1; clear k0 k1 k2 k3; obtain ⟨k0, k1, k2, k3⟩ := HS.out.facts) | (obtain ⟨cs9, hB9, hC9⟩ := HS.out; have HB9 := Lib.hid hB9; clear hB9; have HC9 := Lib.hid hC9; clear hC9; refine wpList_load_row rfl 53 _ rfl w.heap.size rfl 53 cs9 (0, 0) _ HB9.out Try.underlying53 rfl (by rw [infoRing, HC9.out.size]) ?_) | (refine wpList_store_row rfl 53 _ _ rfl (w.heap.size + 1) cs9 rfl rfl 53 ring0 (HZ.out.gr HG.out (by omega)) (by rw [infoRing, HC9.out.size]) (by rw [ring0_ok.size, HC9.out.size]) HC9.out.ok ?_))
  have hz0 := HS.out.fz 100
  have hz1 := HS.out.fz 101
  have hW1 : ¬ W = 0 := by omega
  go_frame
  go_region
  replace HS := Lib.hid (((HS.out.sf F1).sm (M - 1)).bw (Bw.drew (Bw.refl _)))
  replace HG := Lib.hid (((HG.out.set (p := ⟨w.heap.size, 100, none⟩) (.inl rfl) (.int .i64 F1)).set (p := ⟨w.heap.size, 101, none⟩) (.inl rfl) (.int .i64 (M - 1))).drew)
  clear k0 k1 k2 k3 hz0 hz1
  generalize ((w1.setCell ⟨w.heap.size, 100, none⟩ (.int .i64 F1)).setCell ⟨w.heap.size, 101, none⟩ (.int .i64 (M - 1))).drew = W1 at HS HG ⊢
  obtain ⟨k0, k1, k2, k3⟩ := HS.out.facts
  have hJi : (J : Int) < 100 := by omega
  go_wp2_with (first | (refine wpList_store_s rfl 3 _ _ rfl w.heap.size _ rfl rfl infoInt1 HS.out ?_; intro w1 HS1 hG1; replace HS := Lib.hid HS1; clear HS1; replace HG := Lib.hid (HG.out.trans hG1); clear hG1; clear k0 k1 k2 k3; obtain ⟨k0, k1, k2, k3⟩ := HS.out.facts) | (refine wpList_store_m rfl 3 _ _ rfl w.heap.size _ rfl rfl infoInt1 HS.out ?_; intro w1 HS1 hG1; replace HS := Lib.hid HS1; clear HS1; replace HG := Lib.hid (HG.out.trans hG1); clear hG1; clear k0 k1 k2 k3; obtain ⟨k0, k1, k2, k3⟩ := HS.out.facts) | (refine wpList_store_f rfl 3 _ _ rfl w.heap.size _ rfl rfl infoInt1 HS.out ?_; intro w1 HS1 hG1; replace HS := Lib.hid HS1; clear HS1; replace HG := Lib.hid (HG.out.trans hG1); clear hG1; clear k0 k1 k2 k3; obtain ⟨k0, k1, k2, k3⟩ := HS.out.facts) | (refine wpList_store_l rfl 3 _ _ rfl w.heap.size J _ rfl rfl infoInt1 HS.out hJ ?_; intro w1 HS1 hG1; replace HS := Lib.hid HS1; clear HS1; replace HG := Lib.hid (HG.out.trans hG1); clear hG1; clear k0 k1 k2 k3; obtain ⟨k0, k1, k2, k3⟩ := HS.out.facts) | (obtain ⟨cs9, hB9, hC9⟩ := HS.out; have HB9 := Lib.hid hB9; clear hB9; have HC9 := Lib.hid hC9; clear hC9; refine wpList_load_row rfl 53 _ rfl w.heap.size rfl 53 cs9 (0, 0) _ HB9.out Try.underlying53 rfl (by rw [infoRing, HC9.out.size]) ?_) | (refine wpList_store_row rfl 53 _ _ rfl (w.heap.size + 1) cs9 rfl rfl 53 ring0 (HZ.out.gr HG.out (by omega)) (by rw [infoRing, HC9.out.size]) (by rw [ring0_ok.size, HC9.out.size]) HC9.out.ok ?_))
  refine bodyPost_ret (v := .agg cs9) ?_ rfl ⟨⟨cs9, rfl, HC9.out⟩, Bw.setRow (Gr.to_bw HB.out HG.out (Nat.le_refl _)) (by omega) _⟩
  exact results_cell_row (P := Try.prog) Try.results35 _ _ (w.heap.size + 1) 53 cs9 (0, 0) _ rfl (setRow_heap _ _ _ _ _ _ (HZ.out.gr HG.out (by omega))) Try.underlying53 rfl (by rw [infoRing, HC9.out.size])
end Go.Proofs.Sky
