/-
  lemmas for the theorems of this claim. No conditions beyond those written in the statements.
-/
import Derived.Test.YtdaplhjkccfmgaaT30
set_option linter.unusedVariables false
set_option linter.unusedSimpArgs false
set_option linter.unnecessarySimpa false
namespace Go.Proofs.Sky
open Go Go.RowKit Go.Shelf
attribute [local go_sem] Oper.semAt_some
set_option maxHeartbeats 4000000
theorem Replay_bad (W L : Int) (ps : List (Int × Int)) (v : Value) (w : World) (hv : RdS w v ps) (hok : ¬ wl W L) :
    Calls Try.prog 10 #[.int .i64 W, .int .i64 L, v] w fun e w' => ReplP w.heap.size [] [] 2 e w' ∧ Bw w w' := by
  obtain ⟨ad, cap, rfl⟩ := hv.form
  clear hv
  have HNew := Lib.hid (fun X => New_any W L X)
  rw [newP_no hok] at HNew
  clear hok
  have HBW := Lib.hid (Bw.alloc (Bw.alloc (Bw.alloc (Bw.alloc (Bw.refl w) (.cells #[.int .i64 L] 3)) (.cells #[.slice none 0 0] 25)) (.cells #[.slice none 0 0] 26)) (.cells #[.int .i64 0] 27))
  have B0 := Lib.hid (((Blk.new w 3 #[.int .i64 L]).alloc (.cells #[.slice none 0 0] 25)).alloc (.cells #[.slice none 0 0] 26) |>.alloc (.cells #[.int .i64 0] 27))
  have B1 : Hid (Blk ((((w.alloc (.cells #[.int .i64 L] 3)).alloc (.cells #[.slice none 0 0] 25)).alloc (.cells #[.slice none 0 0] 26)).alloc (.cells #[.int .i64 0] 27)) (w.heap.size + 1) 25 #[.slice none 0 0]) := Lib.hid (by have := ((Blk.new (w.alloc (.cells #[.int .i64 L] 3)) 25 #[.slice none 0 0]).alloc (.cells #[.slice none 0 0] 26)).alloc (.cells #[.int .i64 0] 27); simpa using this)
  have B2 : Hid (Blk ((((w.alloc (.cells #[.int .i64 L] 3)).alloc (.cells #[.slice none 0 0] 25)).alloc (.cells #[.slice none 0 0] 26)).alloc (.cells #[.int .i64 0] 27)) (w.heap.size + 1 + 1) 26 #[.slice none 0 0]) := Lib.hid (by have := (Blk.new ((w.alloc (.cells #[.int .i64 L] 3)).alloc (.cells #[.slice none 0 0] 25)) 26 #[.slice none 0 0]).alloc (.cells #[.int .i64 0] 27); simpa using this)
  have B3 : Hid (Blk ((((w.alloc (.cells #[.int .i64 L] 3)).alloc (.cells #[.slice none 0 0] 25)).alloc (.cells #[.slice none 0 0] 26)).alloc (.cells #[.int .i64 0] 27)) (w.heap.size + 1 + 1 + 1) 27 #[.int .i64 0]) := Lib.hid (by have := Blk.new (((w.alloc (.cells #[.int .i64 L] 3)).alloc (.cells #[.slice none 0 0] 25)).alloc (.cells #[.slice none 0 0] 26)) 27 #[.int .i64 0]; simpa using this)
  have HZ0 : Hid (w.heap.size + 1 + 1 + 1 < ((((w.alloc (.cells #[.int .i64 L] 3)).alloc (.cells #[.slice none 0 0] 25)).alloc (.cells #[.slice none 0 0] 26)).alloc (.cells #[.int .i64 0] 27)).heap.size) := Lib.hid (by simp)
  (refine calls_of_marks (w.heap.size) Try.func10 rfl ?_; simp only [Try.ntmps10, List.size_toArray, List.length_cons, List.length_nil, Nat.reduceAdd, Nat.reduceSub, Array.replicate_succ, Array.replicate_zero, List.push_toArray, List.append_toArray, List.nil_append, List.cons_append])
  go_wp2_with (first | (go_at_call 16; refine (HNew.out _).mono ?_; rintro e w1 ⟨rfl, hb1⟩; replace B0 := Lib.hid (B0.out.bw hb1); replace B1 := Lib.hid (B1.out.bw hb1); replace B2 := Lib.hid (B2.out.bw hb1); replace B3 := Lib.hid (B3.out.bw hb1); replace HBW := Lib.hid (HBW.out.trans hb1); have HZ := Lib.hid (Nat.lt_of_lt_of_le HZ0.out hb1.size); clear hb1) | ((with_reducible refine at_store 34 (.tmp 9) (.tmp 19) ?_); refine wpList_store_row rfl 34 _ _ rfl w1.heap.size #[.int .i64 0, .int .i64 0, .slice none 0 0] rfl rfl 34 #[.int .i64 0, .int .i64 0, .slice none 0 0] (Blk.new w1 _ _) (by kernel_rfl) rfl (by simp [Value.oneCell']) ?_; have hb2 := Bw.alloc (Bw.refl w1) (.cells #[.int .i64 0, .int .i64 0, .slice none 0 0] 34); replace B0 := Lib.hid (B0.out.bw hb2); replace B1 := Lib.hid (B1.out.bw hb2); replace B2 := Lib.hid (B2.out.bw hb2); replace B3 := Lib.hid (B3.out.bw hb2); replace HBW := Lib.hid (HBW.out.trans hb2); have B4 := Lib.hid ((Blk.new w1 34 #[.int .i64 0, .int .i64 0, .slice none 0 0]).row #[.int .i64 0, .int .i64 0, .slice none 0 0]); replace B0 := Lib.hid (B0.out.row_other (g' := w1.heap.size) (by have := HZ.out; omega) #[.int .i64 0, .int .i64 0, .slice none 0 0]); replace B1 := Lib.hid (B1.out.row_other (g' := w1.heap.size) (by have := HZ.out; omega) #[.int .i64 0, .int .i64 0, .slice none 0 0]); replace B2 := Lib.hid (B2.out.row_other (g' := w1.heap.size) (by have := HZ.out; omega) #[.int .i64 0, .int .i64 0, .slice none 0 0]); replace B3 := Lib.hid (B3.out.row_other (g' := w1.heap.size) (by have := HZ.out; omega) #[.int .i64 0, .int .i64 0, .slice none 0 0]); replace HBW := Lib.hid (Bw.setRow (g := w1.heap.size) HBW.out (by have := HZ.out; omega) #[.int .i64 0, .int .i64 0, .slice none 0 0]); have HS2 := Lib.hid (show w1.heap.size < ((w1.alloc (.cells #[.int .i64 0, .int .i64 0, .slice none 0 0] 34)).setRow w1.heap.size #[.int .i64 0, .int .i64 0, .slice none 0 0]).heap.size by simp); clear hb2; generalize (w1.alloc (.cells #[.int .i64 0, .int .i64 0, .slice none 0 0] 34)).setRow w1.heap.size #[.int .i64 0, .int .i64 0, .slice none 0 0] = w2 at B0 B1 B2 B3 B4 HBW HS2 ⊢) | ((with_reducible refine at_store 27 (.tmp 8) (.tmp 20) ?_); refine wpList_store_int rfl 27 _ _ rfl (w.heap.size + 1 + 1 + 1) 0 2 rfl rfl infoErr B3.out (by simp) ?_; replace B0 := Lib.hid (B0.out.set_other (b := w.heap.size + 1 + 1 + 1) (by omega) 0 (.int .i64 2)); replace B1 := Lib.hid (B1.out.set_other (b := w.heap.size + 1 + 1 + 1) (by omega) 0 (.int .i64 2)); replace B2 := Lib.hid (B2.out.set_other (b := w.heap.size + 1 + 1 + 1) (by omega) 0 (.int .i64 2)); replace B4 := Lib.hid (B4.out.set_other (b := w.heap.size + 1 + 1 + 1) (by have := HZ.out; omega) 0 (.int .i64 2)); replace B3 := Lib.hid (B3.out.set 0 (.int .i64 2)); replace HBW := Lib.hid (Bw.setCell HBW.out (p := ⟨w.heap.size + 1 + 1 + 1, 0, none⟩) (by simp; omega) (.int .i64 2)); replace HS2 := Lib.hid (show w1.heap.size < (w2.setCell ⟨w.heap.size + 1 + 1 + 1, 0, none⟩ (.int .i64 2)).heap.size by simpa using HS2.out); generalize w2.setCell ⟨w.heap.size + 1 + 1 + 1, 0, none⟩ (.int .i64 2) = w3 at B0 B1 B2 B3 B4 HBW HS2 ⊢; have k3 : w3.cell? ⟨w.heap.size + 1 + 1 + 1, 0, none⟩ = some (.int .i64 2) := B3.out.cell rfl; have k4 : w3.cell? ⟨w1.heap.size, 0, none⟩ = some (.int .i64 0) := B4.out.cell rfl; have k5 : w3.cell? ⟨w1.heap.size, 1, none⟩ = some (.int .i64 0) := B4.out.cell rfl; have k6 : w3.cell? ⟨w1.heap.size, 2, none⟩ = some (.slice none 0 0) := B4.out.cell rfl))
  have g1 : w3.cell? ⟨w.heap.size + 1, 0, none⟩ = some (.slice none 0 0) := B1.out.cell rfl
  have g2 : w3.cell? ⟨w.heap.size + 1 + 1, 0, none⟩ = some (.slice none 0 0) := B2.out.cell rfl
  have f1 := B1.out.frozen 0
  have f2 := B2.out.frozen 0
  have f3 := B3.out.frozen 0
  try go_frame
  go_region
  go_wp2
  have y1 := (((B1.out.set 0 (.slice none 0 0)).set_other (b := w.heap.size + 1 + 1) (by omega) 0 (.slice none 0 0)).set_other (b := w.heap.size + 1 + 1 + 1) (by omega) 0 (.int .i64 2)).bw (Bw.drew (Bw.refl _))
  have y2 := (((B2.out.set_other (b := w.heap.size + 1) (by omega) 0 (.slice none 0 0)).set 0 (.slice none 0 0)).set_other (b := w.heap.size + 1 + 1 + 1) (by omega) 0 (.int .i64 2)).bw (Bw.drew (Bw.refl _))
  have y3 := (((B3.out.set_other (b := w.heap.size + 1) (by omega) 0 (.slice none 0 0)).set_other (b := w.heap.size + 1 + 1) (by omega) 0 (.slice none 0 0)).set 0 (.int .i64 2)).bw (Bw.drew (Bw.refl _))
  have xb := Bw.drew (Bw.setCell (Bw.setCell (Bw.setCell HBW.out (p := ⟨w.heap.size + 1, 0, none⟩) (by simp) (.slice none 0 0)) (p := ⟨w.heap.size + 1 + 1, 0, none⟩) (by simp; omega) (.slice none 0 0)) (p := ⟨w.heap.size + 1 + 1 + 1, 0, none⟩) (by simp; omega) (.int .i64 2))
  refine ⟨Marks.nil _ _, fun W' hS => ⟨.tuple #[.slice none 0 0, .slice none 0 0, .int .i64 2], ?_, ?_, Bw.shut xb hS⟩⟩
  · have r1 := hS.cell _ _ _ (y1.cell (j := 0) rfl)
    have r2 := hS.cell _ _ _ (y2.cell (j := 0) rfl)
    have r3 := hS.cell _ _ _ (y3.cell (j := 0) rfl)
    simp [results, Try.results10, go_sem, r1, r2, r3]
  · exact ⟨_, _, rfl, RdS.nil _, RdI.nil _, Fresh.nil _ _ _, Fresh.nil _ _ _⟩
theorem Replay_long (W L : Int) (ps : List (Int × Int)) (v : Value) (w : World) (hv : RdS w v ps) (hok : wl W L) (hlen : 10000 < ps.length) :
    Calls Try.prog 10 #[.int .i64 W, .int .i64 L, v] w fun e w' => ReplP w.heap.size [] [] 4 e w' ∧ Bw w w' := by
  obtain ⟨ad, cap, rfl⟩ := hv.form
  clear hv
  have hli : (10000 : Int) < ps.length := by omega
  have HNew := Lib.hid (fun X => New_any W L X)
  rw [newP_ok hok] at HNew
  clear hok
  have HBW := Lib.hid (Bw.alloc (Bw.alloc (Bw.alloc (Bw.alloc (Bw.refl w) (.cells #[.int .i64 L] 3)) (.cells #[.slice none 0 0] 25)) (.cells #[.slice none 0 0] 26)) (.cells #[.int .i64 0] 27))
  have B0 := Lib.hid (((Blk.new w 3 #[.int .i64 L]).alloc (.cells #[.slice none 0 0] 25)).alloc (.cells #[.slice none 0 0] 26) |>.alloc (.cells #[.int .i64 0] 27))
  have B1 : Hid (Blk ((((w.alloc (.cells #[.int .i64 L] 3)).alloc (.cells #[.slice none 0 0] 25)).alloc (.cells #[.slice none 0 0] 26)).alloc (.cells #[.int .i64 0] 27)) (w.heap.size + 1) 25 #[.slice none 0 0]) := Lib.hid (by have := ((Blk.new (w.alloc (.cells #[.int .i64 L] 3)) 25 #[.slice none 0 0]).alloc (.cells #[.slice none 0 0] 26)).alloc (.cells #[.int .i64 0] 27); simpa using this)
  have B2 : Hid (Blk ((((w.alloc (.cells #[.int .i64 L] 3)).alloc (.cells #[.slice none 0 0] 25)).alloc (.cells #[.slice none 0 0] 26)).alloc (.cells #[.int .i64 0] 27)) (w.heap.size + 1 + 1) 26 #[.slice none 0 0]) := Lib.hid (by have := (Blk.new ((w.alloc (.cells #[.int .i64 L] 3)).alloc (.cells #[.slice none 0 0] 25)) 26 #[.slice none 0 0]).alloc (.cells #[.int .i64 0] 27); simpa using this)
  have B3 : Hid (Blk ((((w.alloc (.cells #[.int .i64 L] 3)).alloc (.cells #[.slice none 0 0] 25)).alloc (.cells #[.slice none 0 0] 26)).alloc (.cells #[.int .i64 0] 27)) (w.heap.size + 1 + 1 + 1) 27 #[.int .i64 0]) := Lib.hid (by have := Blk.new (((w.alloc (.cells #[.int .i64 L] 3)).alloc (.cells #[.slice none 0 0] 25)).alloc (.cells #[.slice none 0 0] 26)) 27 #[.int .i64 0]; simpa using this)
  have HZ0 : Hid (w.heap.size + 1 + 1 + 1 < ((((w.alloc (.cells #[.int .i64 L] 3)).alloc (.cells #[.slice none 0 0] 25)).alloc (.cells #[.slice none 0 0] 26)).alloc (.cells #[.int .i64 0] 27)).heap.size) := Lib.hid (by simp)
  (refine calls_of_marks (w.heap.size) Try.func10 rfl ?_; simp only [Try.ntmps10, List.size_toArray, List.length_cons, List.length_nil, Nat.reduceAdd, Nat.reduceSub, Array.replicate_succ, Array.replicate_zero, List.push_toArray, List.append_toArray, List.nil_append, List.cons_append])
  go_wp2_with (first | (go_at_call 16; refine (HNew.out _).mono ?_; rintro e w1 ⟨rfl, hb1⟩; replace B0 := Lib.hid (B0.out.bw hb1); replace B1 := Lib.hid (B1.out.bw hb1); replace B2 := Lib.hid (B2.out.bw hb1); replace B3 := Lib.hid (B3.out.bw hb1); replace HBW := Lib.hid (HBW.out.trans hb1); have HZ := Lib.hid (Nat.lt_of_lt_of_le HZ0.out hb1.size); clear hb1) | ((with_reducible refine at_store 34 (.tmp 9) (.tmp 19) ?_); refine wpList_store_row rfl 34 _ _ rfl w1.heap.size #[.int .i64 W, .int .i64 L, .slice none 0 0] rfl rfl 34 #[.int .i64 0, .int .i64 0, .slice none 0 0] (Blk.new w1 _ _) (by kernel_rfl) rfl (by simp [Value.oneCell']) ?_; have hb2 := Bw.alloc (Bw.refl w1) (.cells #[.int .i64 0, .int .i64 0, .slice none 0 0] 34); replace B0 := Lib.hid (B0.out.bw hb2); replace B1 := Lib.hid (B1.out.bw hb2); replace B2 := Lib.hid (B2.out.bw hb2); replace B3 := Lib.hid (B3.out.bw hb2); replace HBW := Lib.hid (HBW.out.trans hb2); have B4 := Lib.hid ((Blk.new w1 34 #[.int .i64 0, .int .i64 0, .slice none 0 0]).row #[.int .i64 W, .int .i64 L, .slice none 0 0]); replace B0 := Lib.hid (B0.out.row_other (g' := w1.heap.size) (by have := HZ.out; omega) #[.int .i64 W, .int .i64 L, .slice none 0 0]); replace B1 := Lib.hid (B1.out.row_other (g' := w1.heap.size) (by have := HZ.out; omega) #[.int .i64 W, .int .i64 L, .slice none 0 0]); replace B2 := Lib.hid (B2.out.row_other (g' := w1.heap.size) (by have := HZ.out; omega) #[.int .i64 W, .int .i64 L, .slice none 0 0]); replace B3 := Lib.hid (B3.out.row_other (g' := w1.heap.size) (by have := HZ.out; omega) #[.int .i64 W, .int .i64 L, .slice none 0 0]); replace HBW := Lib.hid (Bw.setRow (g := w1.heap.size) HBW.out (by have := HZ.out; omega) #[.int .i64 W, .int .i64 L, .slice none 0 0]); have HS2 := Lib.hid (show w1.heap.size < ((w1.alloc (.cells #[.int .i64 0, .int .i64 0, .slice none 0 0] 34)).setRow w1.heap.size #[.int .i64 W, .int .i64 L, .slice none 0 0]).heap.size by simp); clear hb2; generalize (w1.alloc (.cells #[.int .i64 0, .int .i64 0, .slice none 0 0] 34)).setRow w1.heap.size #[.int .i64 W, .int .i64 L, .slice none 0 0] = w2 at B0 B1 B2 B3 B4 HBW HS2 ⊢) | ((with_reducible refine at_store 27 (.tmp 8) (.tmp 20) ?_); refine wpList_store_int rfl 27 _ _ rfl (w.heap.size + 1 + 1 + 1) 0 0 rfl rfl infoErr B3.out (by simp) ?_; replace B0 := Lib.hid (B0.out.set_other (b := w.heap.size + 1 + 1 + 1) (by omega) 0 (.int .i64 0)); replace B1 := Lib.hid (B1.out.set_other (b := w.heap.size + 1 + 1 + 1) (by omega) 0 (.int .i64 0)); replace B2 := Lib.hid (B2.out.set_other (b := w.heap.size + 1 + 1 + 1) (by omega) 0 (.int .i64 0)); replace B4 := Lib.hid (B4.out.set_other (b := w.heap.size + 1 + 1 + 1) (by have := HZ.out; omega) 0 (.int .i64 0)); replace B3 := Lib.hid (B3.out.set 0 (.int .i64 0)); replace HBW := Lib.hid (Bw.setCell HBW.out (p := ⟨w.heap.size + 1 + 1 + 1, 0, none⟩) (by simp; omega) (.int .i64 0)); replace HS2 := Lib.hid (show w1.heap.size < (w2.setCell ⟨w.heap.size + 1 + 1 + 1, 0, none⟩ (.int .i64 0)).heap.size by simpa using HS2.out); generalize w2.setCell ⟨w.heap.size + 1 + 1 + 1, 0, none⟩ (.int .i64 0) = w3 at B0 B1 B2 B3 B4 HBW HS2 ⊢; have k3 : w3.cell? ⟨w.heap.size + 1 + 1 + 1, 0, none⟩ = some (.int .i64 0) := B3.out.cell rfl; have g1 : w3.cell? ⟨w.heap.size + 1, 0, none⟩ = some (.slice none 0 0) := B1.out.cell rfl; have g2 : w3.cell? ⟨w.heap.size + 1 + 1, 0, none⟩ = some (.slice none 0 0) := B2.out.cell rfl; have f1 := B1.out.frozen 0; have f2 := B2.out.frozen 0; have f3 := B3.out.frozen 0; have k4 : w3.cell? ⟨w1.heap.size, 0, none⟩ = some (.int .i64 W) := B4.out.cell rfl; have k5 : w3.cell? ⟨w1.heap.size, 1, none⟩ = some (.int .i64 L) := B4.out.cell rfl; have k6 : w3.cell? ⟨w1.heap.size, 2, none⟩ = some (.slice none 0 0) := B4.out.cell rfl))
  have y1 := (((B1.out.set 0 (.slice none 0 0)).set_other (b := w.heap.size + 1 + 1) (by omega) 0 (.slice none 0 0)).set_other (b := w.heap.size + 1 + 1 + 1) (by omega) 0 (.int .i64 4))
  have y2 := (((B2.out.set_other (b := w.heap.size + 1) (by omega) 0 (.slice none 0 0)).set 0 (.slice none 0 0)).set_other (b := w.heap.size + 1 + 1 + 1) (by omega) 0 (.int .i64 4))
  have y3 := (((B3.out.set_other (b := w.heap.size + 1) (by omega) 0 (.slice none 0 0)).set_other (b := w.heap.size + 1 + 1) (by omega) 0 (.slice none 0 0)).set 0 (.int .i64 4))
  have xb := (Bw.setCell (Bw.setCell (Bw.setCell HBW.out (p := ⟨w.heap.size + 1, 0, none⟩) (by simp) (.slice none 0 0)) (p := ⟨w.heap.size + 1 + 1, 0, none⟩) (by simp; omega) (.slice none 0 0)) (p := ⟨w.heap.size + 1 + 1 + 1, 0, none⟩) (by simp; omega) (.int .i64 4))
  refine ⟨Marks.nil _ _, fun W' hS => ⟨.tuple #[.slice none 0 0, .slice none 0 0, .int .i64 4], ?_, ?_, Bw.shut xb hS⟩⟩
  · have r1 := hS.cell _ _ _ (y1.cell (j := 0) rfl)
    have r2 := hS.cell _ _ _ (y2.cell (j := 0) rfl)
    have r3 := hS.cell _ _ _ (y3.cell (j := 0) rfl)
    simp [results, Try.results10, go_sem, r1, r2, r3]
  · exact ⟨_, _, rfl, RdS.nil _, RdI.nil _, Fresh.nil _ _ _, Fresh.nil _ _ _⟩
theorem Replay_any (W L : Int) (ps : List (Int × Int)) (v : Value) (w : World) (hv : RdS w v ps) :
    Calls Try.prog 10 #[.int .i64 W, .int .i64 L, v] w fun e w' => ReplP w.heap.size (replR W L ps).1 (replR W L ps).2.1 (replR W L ps).2.2 e w' ∧ Bw w w' := by
  by_cases hok : wl W L
  · by_cases hl : 10000 < ps.length
    · have e : replR W L ps = ([], [], 4) := by
        unfold replR
        have ho : okL W L = true := by unfold okL; simpa [wl] using hok
        rw [ho, if_neg (by simp), if_pos hl]
      rw [e]; exact Replay_long W L ps v w hv hok hl
    · obtain ⟨Wn, rfl⟩ := Int.eq_ofNat_of_zero_le (show 0 ≤ W by have := hok.1; omega)
      exact Replay_main Wn L ps v w hv hok (by omega)
  · have e : replR W L ps = ([], [], 2) := by
      unfold replR
      have ho : okL W L = false := by unfold okL; simpa [wl] using hok
      rw [if_pos ho]
    rw [e]; exact Replay_bad W L ps v w hv hok
end Go.Proofs.Sky
