/-
  lemmas for the theorems of this claim. No conditions beyond those written in the statements.
-/
import Derived.Test.YtgeojbmhkmmedaaRD28
set_option linter.unusedVariables false
set_option linter.unusedSimpArgs false
set_option linter.unnecessarySimpa false
namespace Go.Proofs.Sky
open Go Go.RowKit Go.Shelf
set_option maxHeartbeats 4000000
set_option maxRecDepth 8000
/-! chapter 28: OrbitPlaces, OrbitClocks -/
theorem law_places (X : Nat → Int) (t : Int) (w : World) : Calls Try.prog 3 #[.agg (eV X), .int .i64 t] w fun e w' => e = .returned (.bool true) ∧ Bw w w' := by
  have PS := Lib.hid (fun W => Position28_any X t W)
  have RP := Lib.hid (fun W => RPosition28_any X t W)
  have VS := Lib.hid (fun W => Velocity28_any X t W)
  have RV := Lib.hid (fun W => RVelocity28_any X t W)
  have AW := Lib.hid (fun W => awake28_any W)
  unfold l3V at PS RP VS RV
  generalize psE X t 0 = p0 at *
  generalize psE X t 1 = p1 at *
  generalize psE X t 2 = p2 at *
  generalize vsE X t 0 = v0 at *
  generalize vsE X t 1 = v1 at *
  generalize vsE X t 2 = v2 at *
  generalize (atE X t).2 = er at *
  have KX := Lib.hid (Blk.new w 25 (eV X))
  have HW := Lib.hid (Bw.alloc (Bw.refl w) (.cells (eV X) 25))
  have HSZ : Hid ((Try.prog.info? 25).map (·.size) = some (eV X).size) := Lib.hid (by kernel_rfl)
  obtain ⟨g, hg⟩ : ∃ g, w.heap.size = g := ⟨_, rfl⟩
  rw [hg] at KX
  obtain ⟨A, hA⟩ : ∃ A, A = eV X := ⟨_, rfl⟩
  rw [← hA] at PS RP VS RV KX HW HSZ ⊢
  clear hA
  go_enter Try.func3, Try.ntmps3
  go_upto_region 1 with fail
  obtain ⟨W0, hW0⟩ : ∃ W0, w.alloc (.cells A 25) = W0 := ⟨_, rfl⟩
  rw [hW0] at KX HW ⊢
  clear hW0 hg
  go_upto_region 2 with (first | ((with_reducible refine at_load 25 (.tmp 2) ?_); refine wpList_load_row rfl 25 _ rfl g rfl 25 A (0, 0) _ KX.out Try.underlying25 rfl HSZ.out ?_) | (go_at_call 7; (with_reducible refine Calls.mono (PS.out _) ?_); rintro e1 w0 ⟨rfl, hb1⟩; replace KX := Lib.hid (KX.out.bw hb1); replace HW := Lib.hid (HW.out.trans hb1); clear hb1))
  obtain ⟨g5, hg1⟩ : ∃ g5, w0.heap.size = g5 := ⟨_, rfl⟩
  have K5 := Lib.hid (Blk.new w0 27 #[.int .i64 p0, .int .i64 p1, .int .i64 p2])
  have hb1 := Bw.alloc (Bw.refl w0) (.cells #[.int .i64 p0, .int .i64 p1, .int .i64 p2] 27)
  rw [hg1] at K5 ⊢
  replace KX := Lib.hid (KX.out.bw hb1); replace HW := Lib.hid (HW.out.trans hb1); clear hb1
  generalize World.alloc w0 _ = z0 at *
  clear hg1
  go_upto_region 3 with (first | ((with_reducible refine at_load 25 (.tmp 2) ?_); refine wpList_load_row rfl 25 _ rfl g rfl 25 A (0, 0) _ KX.out Try.underlying25 rfl HSZ.out ?_) | (go_at_call 8; (with_reducible refine Calls.mono (RP.out _) ?_); rintro e1 w1 ⟨rfl, hb1⟩; replace KX := Lib.hid (KX.out.bw hb1); replace K5 := Lib.hid (K5.out.bw hb1); replace HW := Lib.hid (HW.out.trans hb1); clear hb1))
  obtain ⟨g7, hg1⟩ : ∃ g7, w1.heap.size = g7 := ⟨_, rfl⟩
  have K7 := Lib.hid (Blk.new w1 27 #[.int .i64 p0, .int .i64 p1, .int .i64 p2])
  have hb1 := Bw.alloc (Bw.refl w1) (.cells #[.int .i64 p0, .int .i64 p1, .int .i64 p2] 27)
  rw [hg1] at K7 ⊢
  replace KX := Lib.hid (KX.out.bw hb1); replace K5 := Lib.hid (K5.out.bw hb1); replace HW := Lib.hid (HW.out.trans hb1); clear hb1
  generalize World.alloc w1 _ = z1 at *
  clear hg1
  go_upto_region 4 with (first | ((with_reducible refine at_load 25 (.tmp 2) ?_); refine wpList_load_row rfl 25 _ rfl g rfl 25 A (0, 0) _ KX.out Try.underlying25 rfl HSZ.out ?_) | (go_at_call 9; (with_reducible refine Calls.mono (VS.out _) ?_); rintro e1 w2 ⟨rfl, hb1⟩; replace KX := Lib.hid (KX.out.bw hb1); replace K5 := Lib.hid (K5.out.bw hb1); replace K7 := Lib.hid (K7.out.bw hb1); replace HW := Lib.hid (HW.out.trans hb1); clear hb1))
  obtain ⟨g9, hg1⟩ : ∃ g9, w2.heap.size = g9 := ⟨_, rfl⟩
  have K9 := Lib.hid (Blk.new w2 27 #[.int .i64 v0, .int .i64 v1, .int .i64 v2])
  have hb1 := Bw.alloc (Bw.refl w2) (.cells #[.int .i64 v0, .int .i64 v1, .int .i64 v2] 27)
  rw [hg1] at K9 ⊢
  replace KX := Lib.hid (KX.out.bw hb1); replace K5 := Lib.hid (K5.out.bw hb1); replace K7 := Lib.hid (K7.out.bw hb1); replace HW := Lib.hid (HW.out.trans hb1); clear hb1
  generalize World.alloc w2 _ = z2 at *
  clear hg1
  go_upto_region 5 with (first | ((with_reducible refine at_load 25 (.tmp 2) ?_); refine wpList_load_row rfl 25 _ rfl g rfl 25 A (0, 0) _ KX.out Try.underlying25 rfl HSZ.out ?_) | (go_at_call 10; (with_reducible refine Calls.mono (RV.out _) ?_); rintro e1 w3 ⟨rfl, hb1⟩; replace KX := Lib.hid (KX.out.bw hb1); replace K5 := Lib.hid (K5.out.bw hb1); replace K7 := Lib.hid (K7.out.bw hb1); replace K9 := Lib.hid (K9.out.bw hb1); replace HW := Lib.hid (HW.out.trans hb1); clear hb1))
  obtain ⟨g11, hg1⟩ : ∃ g11, w3.heap.size = g11 := ⟨_, rfl⟩
  have K11 := Lib.hid (Blk.new w3 27 #[.int .i64 v0, .int .i64 v1, .int .i64 v2])
  have hb1 := Bw.alloc (Bw.refl w3) (.cells #[.int .i64 v0, .int .i64 v1, .int .i64 v2] 27)
  rw [hg1] at K11 ⊢
  replace KX := Lib.hid (KX.out.bw hb1); replace K5 := Lib.hid (K5.out.bw hb1); replace K7 := Lib.hid (K7.out.bw hb1); replace K9 := Lib.hid (K9.out.bw hb1); replace HW := Lib.hid (HW.out.trans hb1); clear hb1
  generalize World.alloc w3 _ = z3 at *
  clear hg1
  have hq := fun x y z W => eqP_self x y z W
  have hgg := fun W a b op p q => eqP_guard a b op p q W
  go_wp2_with (first | (go_at_call 11; (with_reducible refine Calls.mono (AW.out _) ?_); rintro e1 w9 ⟨rfl, hb1⟩; replace HW := Lib.hid (HW.out.trans hb1); clear hb1) | ((with_reducible refine at_load 27 (.tmp 5) ?_); refine wpList_load_roww28 27 _ rfl g5 rfl 27 #[.int .i64 p0, .int .i64 p1, .int .i64 p2] (0, 0) _ K5.out Try.underlying27 rfl (by kernel_rfl) (by rfl) ?_) | ((with_reducible refine at_load 27 (.tmp 7) ?_); refine wpList_load_roww28 27 _ rfl g7 rfl 27 #[.int .i64 p0, .int .i64 p1, .int .i64 p2] (0, 0) _ K7.out Try.underlying27 rfl (by kernel_rfl) (by rfl) ?_) | ((with_reducible refine at_load 27 (.tmp 9) ?_); refine wpList_load_roww28 27 _ rfl g9 rfl 27 #[.int .i64 v0, .int .i64 v1, .int .i64 v2] (0, 0) _ K9.out Try.underlying27 rfl (by kernel_rfl) (by rfl) ?_) | ((with_reducible refine at_load 27 (.tmp 11) ?_); refine wpList_load_roww28 27 _ rfl g11 rfl 27 #[.int .i64 v0, .int .i64 v1, .int .i64 v2] (0, 0) _ K11.out Try.underlying27 rfl (by kernel_rfl) (by rfl) ?_))
  go_ret
  exact ⟨rfl, HW.out⟩
theorem law_clocks (X : Nat → Int) (t : Int) (w : World) : Calls Try.prog 4 #[.agg (eV X), .int .i64 t] w fun e w' => e = .returned (.bool true) ∧ Bw w w' := by
  have PS := Lib.hid (fun W => Clock28_any X t W)
  have RP := Lib.hid (fun W => RClock28_any X t W)
  have AW := Lib.hid (fun W => awake28_any W)
  generalize ckE X t = ck at *
  generalize (atE X t).2 = er at *
  have KX := Lib.hid (Blk.new w 25 (eV X))
  have HW := Lib.hid (Bw.alloc (Bw.refl w) (.cells (eV X) 25))
  have HSZ : Hid ((Try.prog.info? 25).map (·.size) = some (eV X).size) := Lib.hid (by kernel_rfl)
  obtain ⟨g, hg⟩ : ∃ g, w.heap.size = g := ⟨_, rfl⟩
  rw [hg] at KX
  obtain ⟨A, hA⟩ : ∃ A, A = eV X := ⟨_, rfl⟩
  rw [← hA] at PS RP KX HW HSZ ⊢
  clear hA
  go_enter Try.func4, Try.ntmps4
  go_upto_region 1 with fail
  obtain ⟨W0, hW0⟩ : ∃ W0, w.alloc (.cells A 25) = W0 := ⟨_, rfl⟩
  rw [hW0] at KX HW ⊢
  clear hW0 hg
  go_wp2_with (first | ((with_reducible refine at_load 25 (.tmp 2) ?_); refine wpList_load_row rfl 25 _ rfl g rfl 25 A (0, 0) _ KX.out Try.underlying25 rfl HSZ.out ?_) | (go_at_call 12; (with_reducible refine Calls.mono (PS.out _) ?_); rintro e1 w0 ⟨rfl, hb1⟩; replace KX := Lib.hid (KX.out.bw hb1); replace HW := Lib.hid (HW.out.trans hb1); clear hb1) | (go_at_call 13; (with_reducible refine Calls.mono (RP.out _) ?_); rintro e1 w1 ⟨rfl, hb1⟩; replace KX := Lib.hid (KX.out.bw hb1); replace HW := Lib.hid (HW.out.trans hb1); clear hb1) | (go_at_call 11; (with_reducible refine Calls.mono (AW.out _) ?_); rintro e1 w9 ⟨rfl, hb1⟩; replace KX := Lib.hid (KX.out.bw hb1); replace HW := Lib.hid (HW.out.trans hb1); clear hb1))
  go_ret
  exact ⟨rfl, HW.out⟩
end Go.Proofs.Sky
