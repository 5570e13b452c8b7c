/-
  lemmas for the theorems of this claim. No conditions beyond those written in the statements.
-/
import Derived.Test.YtgeojbmhkmmedaaDoorDA28
import Derived.Deep.Cut
set_option linter.unusedVariables false
set_option linter.unusedSimpArgs false
set_option linter.unnecessarySimpa false
namespace Go.Proofs.Sky
open Go Go.RowKit Go.Shelf
attribute [-go_sem] run_max_int2
attribute [local go_sem] run_mx28
set_option maxHeartbeats 4000000
set_option maxRecDepth 8000
/-! chapter 28's cards: Coarse, the walk -/
theorem pgV_congr {x y : Nat → Int} (h : ∀ j, j < 13 → x j = y j) : pgV x = pgV y := by
  unfold pgV
  rw [h 0 (by omega), h 1 (by omega), h 2 (by omega), h 3 (by omega), h 4 (by omega), h 5 (by omega), h 6 (by omega), h 7 (by omega), h 8 (by omega), h 9 (by omega), h 10 (by omega), h 11 (by omega), h 12 (by omega)]
theorem hd_bd {X : Nat → Int} (h : errE X = 0) : (1 ≤ X 0 ∧ X 0 ≤ 63) ∧ (0 ≤ X 2 ∧ X 2 ≤ 604799) ∧ (0 ≤ X 3 ∧ X 3 ≤ 65535) := by
  have h9 := (errE_parts h).1
  unfold hdE at h9
  omega
theorem Coarse_err (X : Nat → Int) (h : Int) (hE : errE X ≠ 0) (w : World) (hw : WdAt w) : Calls Tryd.prog 8 #[.agg (eV X), .int .i64 h] w fun e w' => e = .returned (.tuple #[.agg (pgV (cgX X h)), .int .i64 (cgE X h)]) ∧ Bw w w' := by
  have CK := Lib.hid (fun W => ECheck_any X W)
  have HWD := Lib.hid hw
  have KX := Lib.hid ((Blk.new w 25 (eV X)).alloc (.cells #[.int .i64 0, .int .i64 0, .int .i64 0, .int .i64 0, .int .i64 0, .int .i64 0, .int .i64 0, .int .i64 0, .int .i64 0, .int .i64 0, .int .i64 0, .int .i64 0, .int .i64 0] 32))
  have KP := Lib.hid (show Blk ((w.alloc (.cells (eV X) 25)).alloc (.cells #[.int .i64 0, .int .i64 0, .int .i64 0, .int .i64 0, .int .i64 0, .int .i64 0, .int .i64 0, .int .i64 0, .int .i64 0, .int .i64 0, .int .i64 0, .int .i64 0, .int .i64 0] 32)) (w.heap.size + 1) 32 #[.int .i64 0, .int .i64 0, .int .i64 0, .int .i64 0, .int .i64 0, .int .i64 0, .int .i64 0, .int .i64 0, .int .i64 0, .int .i64 0, .int .i64 0, .int .i64 0, .int .i64 0] from by have h9 := Blk.new (w.alloc (.cells (eV X) 25)) 32 #[.int .i64 0, .int .i64 0, .int .i64 0, .int .i64 0, .int .i64 0, .int .i64 0, .int .i64 0, .int .i64 0, .int .i64 0, .int .i64 0, .int .i64 0, .int .i64 0, .int .i64 0]; simp only [World.size_alloc] at h9; exact h9)
  have HW := Lib.hid (Bw.alloc (Bw.alloc (Bw.refl w) (.cells (eV X) 25)) (.cells #[.int .i64 0, .int .i64 0, .int .i64 0, .int .i64 0, .int .i64 0, .int .i64 0, .int .i64 0, .int .i64 0, .int .i64 0, .int .i64 0, .int .i64 0, .int .i64 0, .int .i64 0] 32))
  have HSZ : Hid ((Tryd.prog.info? 25).map (·.size) = some (eV X).size) := Lib.hid (by kernel_rfl)
  obtain ⟨g, hg⟩ : ∃ g, w.heap.size = g := ⟨_, rfl⟩
  rw [hg] at KX KP
  have HG := Lib.hid hg
  have HCX := Lib.hid (fun i (hi : i < 19) => eV_at X i hi)
  have HC : Hid (cgE X h = errE X) := Lib.hid (by unfold cgE; rw [if_neg hE])
  have HR : Hid (pgV (cgX X h) = #[.int .i64 0, .int .i64 0, .int .i64 0, .int .i64 0, .int .i64 0, .int .i64 0, .int .i64 0, .int .i64 0, .int .i64 0, .int .i64 0, .int .i64 0, .int .i64 0, .int .i64 0]) := Lib.hid (by unfold cgX; rw [HC.out, if_neg hE]; rfl)
  have HN := Lib.hid hE
  rw [HC.out, HR.out]
  clear hE HC HR
  generalize errE X = er at *
  obtain ⟨A, hA⟩ : ∃ A, A = eV X := ⟨_, rfl⟩
  rw [← hA] at CK KX KP HW HSZ HCX ⊢
  clear hA hw
  go_enter Tryd.func8, Tryd.ntmps8
  go_upto_region 1 with fail
  obtain ⟨W0, hW0⟩ : ∃ W0, (w.alloc (.cells A 25)).alloc (.cells #[.int .i64 0, .int .i64 0, .int .i64 0, .int .i64 0, .int .i64 0, .int .i64 0, .int .i64 0, .int .i64 0, .int .i64 0, .int .i64 0, .int .i64 0, .int .i64 0, .int .i64 0] 32) = W0 := ⟨_, rfl⟩
  rw [hW0] at KX KP HW ⊢
  clear hW0 hg
  go_upto_region 2 with (first | ((with_reducible refine at_load 25 (.tmp 2) ?_); refine wpList_load_row rfl 25 _ rfl g rfl 25 A (0, 0) _ KX.out Tryd.underlying25 rfl HSZ.out ?_) | (go_at_call 22; (with_reducible refine Calls.mono (CK.out _) ?_); rintro e1 w1 ⟨rfl, hb1⟩; replace KX := Lib.hid (KX.out.bw hb1); replace KP := Lib.hid (KP.out.bw hb1); replace HW := Lib.hid (HW.out.trans hb1); clear hb1))
  have c1z : (er != 0) = true := by simpa using HN.out
  go_wp2_with ((with_reducible refine at_store 32 (.tmp 4) (.tmp 16) ?_); refine wpList_store_row rfl 32 (.tmp 4) (.tmp 16) rfl (g + 1) #[.int .i64 0, .int .i64 0, .int .i64 0, .int .i64 0, .int .i64 0, .int .i64 0, .int .i64 0, .int .i64 0, .int .i64 0, .int .i64 0, .int .i64 0, .int .i64 0, .int .i64 0] rfl rfl 32 _ KP.out (by kernel_rfl) rfl (by simp [Value.oneCell', pgV]) ?_)
  have F9 := KP.out.row #[.int .i64 0, .int .i64 0, .int .i64 0, .int .i64 0, .int .i64 0, .int .i64 0, .int .i64 0, .int .i64 0, .int .i64 0, .int .i64 0, .int .i64 0, .int .i64 0, .int .i64 0]
  have B9 := Bw.setRow HW.out (show w.heap.size ≤ g + 1 by have := HG.out; omega) #[.int .i64 0, .int .i64 0, .int .i64 0, .int .i64 0, .int .i64 0, .int .i64 0, .int .i64 0, .int .i64 0, .int .i64 0, .int .i64 0, .int .i64 0, .int .i64 0, .int .i64 0]
  refine bodyPost_ret (v := .tuple #[.agg #[.int .i64 0, .int .i64 0, .int .i64 0, .int .i64 0, .int .i64 0, .int .i64 0, .int .i64 0, .int .i64 0, .int .i64 0, .int .i64 0, .int .i64 0, .int .i64 0, .int .i64 0], .int .i64 er]) ?_ rfl ⟨rfl, B9⟩
  exact results_two_row (p := 4) (u := 5) rfl _ _ (g + 1) _ rfl (run_loadVar_row _ (g + 1) 32 32 #[.int .i64 0, .int .i64 0, .int .i64 0, .int .i64 0, .int .i64 0, .int .i64 0, .int .i64 0, .int .i64 0, .int .i64 0, .int .i64 0, .int .i64 0, .int .i64 0, .int .i64 0] (0, 0) _ F9 Tryd.underlying32 rfl (by kernel_rfl))
theorem Coarse_hours (X : Nat → Int) (h : Int) (hE : errE X = 0) (h1 : h ≠ 1) (h2 : h ≠ 2) (w : World) (hw : WdAt w) : Calls Tryd.prog 8 #[.agg (eV X), .int .i64 h] w fun e w' => e = .returned (.tuple #[.agg (pgV (cgX X h)), .int .i64 (cgE X h)]) ∧ Bw w w' := by
  have CK := Lib.hid (fun W => ECheck_any X W)
  have HWD := Lib.hid hw
  have KX := Lib.hid ((Blk.new w 25 (eV X)).alloc (.cells #[.int .i64 0, .int .i64 0, .int .i64 0, .int .i64 0, .int .i64 0, .int .i64 0, .int .i64 0, .int .i64 0, .int .i64 0, .int .i64 0, .int .i64 0, .int .i64 0, .int .i64 0] 32))
  have KP := Lib.hid (show Blk ((w.alloc (.cells (eV X) 25)).alloc (.cells #[.int .i64 0, .int .i64 0, .int .i64 0, .int .i64 0, .int .i64 0, .int .i64 0, .int .i64 0, .int .i64 0, .int .i64 0, .int .i64 0, .int .i64 0, .int .i64 0, .int .i64 0] 32)) (w.heap.size + 1) 32 #[.int .i64 0, .int .i64 0, .int .i64 0, .int .i64 0, .int .i64 0, .int .i64 0, .int .i64 0, .int .i64 0, .int .i64 0, .int .i64 0, .int .i64 0, .int .i64 0, .int .i64 0] from by have h9 := Blk.new (w.alloc (.cells (eV X) 25)) 32 #[.int .i64 0, .int .i64 0, .int .i64 0, .int .i64 0, .int .i64 0, .int .i64 0, .int .i64 0, .int .i64 0, .int .i64 0, .int .i64 0, .int .i64 0, .int .i64 0, .int .i64 0]; simp only [World.size_alloc] at h9; exact h9)
  have HW := Lib.hid (Bw.alloc (Bw.alloc (Bw.refl w) (.cells (eV X) 25)) (.cells #[.int .i64 0, .int .i64 0, .int .i64 0, .int .i64 0, .int .i64 0, .int .i64 0, .int .i64 0, .int .i64 0, .int .i64 0, .int .i64 0, .int .i64 0, .int .i64 0, .int .i64 0] 32))
  have HSZ : Hid ((Tryd.prog.info? 25).map (·.size) = some (eV X).size) := Lib.hid (by kernel_rfl)
  obtain ⟨g, hg⟩ : ∃ g, w.heap.size = g := ⟨_, rfl⟩
  rw [hg] at KX KP
  have HG := Lib.hid hg
  have HCX := Lib.hid (fun i (hi : i < 19) => eV_at X i hi)
  have HC : Hid (cgE X h = 2) := Lib.hid (by unfold cgE; rw [if_pos hE, if_neg (by omega)])
  have HR : Hid (pgV (cgX X h) = #[.int .i64 0, .int .i64 0, .int .i64 0, .int .i64 0, .int .i64 0, .int .i64 0, .int .i64 0, .int .i64 0, .int .i64 0, .int .i64 0, .int .i64 0, .int .i64 0, .int .i64 0]) := Lib.hid (by unfold cgX; rw [HC.out, if_neg (by decide)]; rfl)
  rw [HC.out, HR.out]
  rw [hE] at CK
  clear hE HC HR
  have HN1 := Lib.hid h1
  have HN2 := Lib.hid h2
  clear h1 h2
  obtain ⟨A, hA⟩ : ∃ A, A = eV X := ⟨_, rfl⟩
  rw [← hA] at CK KX KP HW HSZ HCX ⊢
  clear hA hw
  go_enter Tryd.func8, Tryd.ntmps8
  go_upto_region 1 with fail
  obtain ⟨W0, hW0⟩ : ∃ W0, (w.alloc (.cells A 25)).alloc (.cells #[.int .i64 0, .int .i64 0, .int .i64 0, .int .i64 0, .int .i64 0, .int .i64 0, .int .i64 0, .int .i64 0, .int .i64 0, .int .i64 0, .int .i64 0, .int .i64 0, .int .i64 0] 32) = W0 := ⟨_, rfl⟩
  rw [hW0] at KX KP HW ⊢
  clear hW0 hg
  go_upto_region 2 with (first | ((with_reducible refine at_load 25 (.tmp 2) ?_); refine wpList_load_row rfl 25 _ rfl g rfl 25 A (0, 0) _ KX.out Tryd.underlying25 rfl HSZ.out ?_) | (go_at_call 22; (with_reducible refine Calls.mono (CK.out _) ?_); rintro e1 w1 ⟨rfl, hb1⟩; replace KX := Lib.hid (KX.out.bw hb1); replace KP := Lib.hid (KP.out.bw hb1); replace HW := Lib.hid (HW.out.trans hb1); clear hb1))
  have c1z : (h != 1) = true := by simpa using HN1.out
  have c2z : (h != 2) = true := by simpa using HN2.out
  go_wp2_with ((with_reducible refine at_store 32 (.tmp 4) (.tmp 24) ?_); refine wpList_store_row rfl 32 (.tmp 4) (.tmp 24) rfl (g + 1) #[.int .i64 0, .int .i64 0, .int .i64 0, .int .i64 0, .int .i64 0, .int .i64 0, .int .i64 0, .int .i64 0, .int .i64 0, .int .i64 0, .int .i64 0, .int .i64 0, .int .i64 0] rfl rfl 32 _ KP.out (by kernel_rfl) rfl (by simp [Value.oneCell', pgV]) ?_)
  have F9 := KP.out.row #[.int .i64 0, .int .i64 0, .int .i64 0, .int .i64 0, .int .i64 0, .int .i64 0, .int .i64 0, .int .i64 0, .int .i64 0, .int .i64 0, .int .i64 0, .int .i64 0, .int .i64 0]
  have B9 := Bw.setRow HW.out (show w.heap.size ≤ g + 1 by have := HG.out; omega) #[.int .i64 0, .int .i64 0, .int .i64 0, .int .i64 0, .int .i64 0, .int .i64 0, .int .i64 0, .int .i64 0, .int .i64 0, .int .i64 0, .int .i64 0, .int .i64 0, .int .i64 0]
  refine bodyPost_ret (v := .tuple #[.agg #[.int .i64 0, .int .i64 0, .int .i64 0, .int .i64 0, .int .i64 0, .int .i64 0, .int .i64 0, .int .i64 0, .int .i64 0, .int .i64 0, .int .i64 0, .int .i64 0, .int .i64 0], .int .i64 2]) ?_ rfl ⟨rfl, B9⟩
  exact results_two_row (p := 4) (u := 5) rfl _ _ (g + 1) _ rfl (run_loadVar_row _ (g + 1) 32 32 #[.int .i64 0, .int .i64 0, .int .i64 0, .int .i64 0, .int .i64 0, .int .i64 0, .int .i64 0, .int .i64 0, .int .i64 0, .int .i64 0, .int .i64 0, .int .i64 0, .int .i64 0] (0, 0) _ F9 Tryd.underlying32 rfl (by kernel_rfl))
theorem Coarse_1 (X : Nat → Int) (h : Int) (hH : h = 1) (hE : errE X = 0) (w : World) (hw : WdAt w) : Calls Tryd.prog 8 #[.agg (eV X), .int .i64 h] w fun e w' => e = .returned (.tuple #[.agg (pgV (cgX X h)), .int .i64 (cgE X h)]) ∧ Bw w w' := by
  have CK := Lib.hid (fun W => ECheck_any X W)
  have HWD := Lib.hid hw
  have KX := Lib.hid ((Blk.new w 25 (eV X)).alloc (.cells #[.int .i64 0, .int .i64 0, .int .i64 0, .int .i64 0, .int .i64 0, .int .i64 0, .int .i64 0, .int .i64 0, .int .i64 0, .int .i64 0, .int .i64 0, .int .i64 0, .int .i64 0] 32))
  have KP := Lib.hid (show Blk ((w.alloc (.cells (eV X) 25)).alloc (.cells #[.int .i64 0, .int .i64 0, .int .i64 0, .int .i64 0, .int .i64 0, .int .i64 0, .int .i64 0, .int .i64 0, .int .i64 0, .int .i64 0, .int .i64 0, .int .i64 0, .int .i64 0] 32)) (w.heap.size + 1) 32 #[.int .i64 0, .int .i64 0, .int .i64 0, .int .i64 0, .int .i64 0, .int .i64 0, .int .i64 0, .int .i64 0, .int .i64 0, .int .i64 0, .int .i64 0, .int .i64 0, .int .i64 0] from by have h9 := Blk.new (w.alloc (.cells (eV X) 25)) 32 #[.int .i64 0, .int .i64 0, .int .i64 0, .int .i64 0, .int .i64 0, .int .i64 0, .int .i64 0, .int .i64 0, .int .i64 0, .int .i64 0, .int .i64 0, .int .i64 0, .int .i64 0]; simp only [World.size_alloc] at h9; exact h9)
  have HW := Lib.hid (Bw.alloc (Bw.alloc (Bw.refl w) (.cells (eV X) 25)) (.cells #[.int .i64 0, .int .i64 0, .int .i64 0, .int .i64 0, .int .i64 0, .int .i64 0, .int .i64 0, .int .i64 0, .int .i64 0, .int .i64 0, .int .i64 0, .int .i64 0, .int .i64 0] 32))
  have HSZ : Hid ((Tryd.prog.info? 25).map (·.size) = some (eV X).size) := Lib.hid (by kernel_rfl)
  obtain ⟨g, hg⟩ : ∃ g, w.heap.size = g := ⟨_, rfl⟩
  rw [hg] at KX KP
  have HG := Lib.hid hg
  have HCX := Lib.hid (fun i (hi : i < 19) => eV_at X i hi)
  subst hH
  obtain ⟨hx0, hx2, hx3⟩ := hd_bd hE
  have HBX := Lib.hid (fun j hj => ax_bd hE j hj)
  have HM := Lib.hid (fun k hk => mK_bd (X := X) (fun j hj => (ax_bd hE j hj).2.2.2) k hk)
  obtain ⟨C, hC⟩ : ∃ C, C = pgF X 1 := ⟨_, rfl⟩
  have HE0 : Hid (errPg C ≠ 0 → cgE X 1 = 5 ∧ pgV (cgX X 1) = #[.int .i64 0, .int .i64 0, .int .i64 0, .int .i64 0, .int .i64 0, .int .i64 0, .int .i64 0, .int .i64 0, .int .i64 0, .int .i64 0, .int .i64 0, .int .i64 0, .int .i64 0]) := Lib.hid (fun q => by
    have e : cgE X 1 = 5 := by unfold cgE; rw [if_pos hE, if_pos (by decide), ← hC, if_neg q]
    refine ⟨e, ?_⟩
    unfold cgX
    rw [e, if_neg (by decide)]
    rfl)
  have HE1 : Hid (errPg C = 0 → cgE X 1 = 0 ∧ cgX X 1 = C) := Lib.hid (fun q => by
    have e : cgE X 1 = 0 := by unfold cgE; rw [if_pos hE, if_pos (by decide), ← hC, if_pos q]
    refine ⟨e, ?_⟩
    unfold cgX
    rw [e, if_pos rfl, hC])
  have HCC := Lib.hid (show C 0 = X 0 ∧ C 1 = X 2 ∧ C 2 = 33 + (X 3 + 999) / 1000 ∧ C 3 = grQ 1 (mK X 3) from by rw [hC]; exact ⟨rfl, rfl, rfl, rfl⟩)
  have HC3 := Lib.hid (show ∀ i, i < 3 → C (4 + 3 * i) = rn (X (7 + 4 * i)) 4000 ∧ C (4 + 3 * i + 1) = rn (X (7 + 4 * i + 1)) 1000 ∧ C (4 + 3 * i + 2) = rn (X (7 + 4 * i + 2)) 1000 from fun i hi => by
    rw [hC]
    match i, hi with
    | 0, _ => exact ⟨rfl, rfl, rfl⟩
    | 1, _ => exact ⟨rfl, rfl, rfl⟩
    | 2, _ => exact ⟨rfl, rfl, rfl⟩)
  have HMS := Lib.hid (show ∀ k, mK X (k + 1) = mx28 (mK X k) ((X (7 + 4 * k + 3)).natAbs : Int) from fun k => rfl)
  have HM0 := Lib.hid (show mK X 0 = 0 from rfl)
  rw [hE] at CK
  clear hE hC
  generalize hcx : cgX X 1 = CX at *
  generalize hce : cgE X 1 = CE at *
  clear hcx hce
  generalize mK X = M at *
  have PK := Lib.hid (fun W h => PgCheck_any C W h)
  obtain ⟨A, hA⟩ : ∃ A, A = eV X := ⟨_, rfl⟩
  rw [← hA] at CK KX KP HW HSZ HCX ⊢
  clear hA hw
  go_enter Tryd.func8, Tryd.ntmps8
  go_upto_region 1 with fail
  obtain ⟨W0, hW0⟩ : ∃ W0, (w.alloc (.cells A 25)).alloc (.cells #[.int .i64 0, .int .i64 0, .int .i64 0, .int .i64 0, .int .i64 0, .int .i64 0, .int .i64 0, .int .i64 0, .int .i64 0, .int .i64 0, .int .i64 0, .int .i64 0, .int .i64 0] 32) = W0 := ⟨_, rfl⟩
  rw [hW0] at KX KP HW ⊢
  clear hW0 hg
  go_upto_region 2 with (first | ((with_reducible refine at_load 25 (.tmp 2) ?_); refine wpList_load_row rfl 25 _ rfl g rfl 25 A (0, 0) _ KX.out Tryd.underlying25 rfl HSZ.out ?_) | (go_at_call 22; (with_reducible refine Calls.mono (CK.out _) ?_); rintro e1 w1 ⟨rfl, hb1⟩; replace KX := Lib.hid (KX.out.bw hb1); replace KP := Lib.hid (KP.out.bw hb1); replace HW := Lib.hid (HW.out.trans hb1); clear hb1))
  go_upto_region 6 with fail
  have e0 := HCX.out 0 (by omega)
  have e2 := HCX.out 2 (by omega)
  have e3 := HCX.out 3 (by omega)
  generalize X 0 = x0 at *
  generalize X 2 = x2 at *
  generalize X 3 = x3 at *
  have UPA := Lib.hid (fun W => up28_any (33000 + x3) 1000 (by omega) (by decide) W)
  have HP0 : Hid (pgV (pgP C 0) = #[.int .i64 x0, .int .i64 x2, .int .i64 ((33000 + x3 + 1000 - 1) / 1000), .int .i64 0, .int .i64 0, .int .i64 0, .int .i64 0, .int .i64 0, .int .i64 0, .int .i64 0, .int .i64 0, .int .i64 0, .int .i64 0]) := Lib.hid (by
    obtain ⟨a0, a1, a2, _⟩ := HCC.out
    rw [pgP_zero, a0, a1, a2]
    have : 33 + (x3 + 999) / 1000 = (33000 + x3 + 1000 - 1) / 1000 := by omega
    rw [this])
  have HC33 := Lib.hid (HCC.out.2.2.2)
  clear HCC
  have wx3 : 0 ≤ x3 ∧ x3 ≤ 65535 := hx3
  clear hx0 hx2 hx3
  generalize (33000 + x3 + 1000 - 1) / 1000 = q3 at *
  obtain ⟨ub, hub⟩ : ∃ ub, ub = w1 := ⟨_, rfl⟩
  subst hub
  go_cut [7] from 25 (fun s7 wc => ∃ g7, s7 = .pointer (some ⟨g7, 0, none⟩) ∧ ub.heap.size ≤ g7 ∧ Hid (Bw w wc) ∧ Hid (Bw ub wc) ∧ Hid (Blk wc g7 32 (pgV (pgP C 0))))
  case first =>
    refine wp_region_held_drew (S := Bw ub) (by kernel_rfl) (Bw.drew (Bw.refl _)) (fun hS => ?_)
    generalize World.drew _ = wd at hS ⊢
    refine take1 (i := 0) (some 25) rfl rfl (by kernel_rfl) (by kernel_rfl) (by kernel_rfl) (fun _ _ _ _ h => h) rfl hS ?_
    apply Exists.intro
    apply And.intro
    · intro W9 hW9; have y0 := (KX.out.bw hW9).cell e0; have y2 := (KX.out.bw hW9).cell e2; have y3 := (KX.out.bw hW9).cell e3; go_simp; try with_reducible rfl
    simp only [Act.put, List.setIfInBounds_toArray, List.set_cons_zero, List.set_cons_succ]
    refine take1 (i := 1) (some 26) rfl rfl (by kernel_rfl) (by kernel_rfl) (by kernel_rfl) (fun _ _ _ _ h => h) rfl hS ?_
    refine Exists.intro (.int .i64 x0) ?_
    apply And.intro
    · intro W9 hW9; have y0 := (KX.out.bw hW9).cell e0; have y2 := (KX.out.bw hW9).cell e2; have y3 := (KX.out.bw hW9).cell e3; go_simp; (try go_bits); (try with_reducible rfl); (try trivial)
    simp only [Act.put, List.setIfInBounds_toArray, List.set_cons_zero, List.set_cons_succ]
    refine take1 (i := 2) (some 27) rfl rfl (by kernel_rfl) (by kernel_rfl) (by kernel_rfl) (fun _ _ _ _ h => h) rfl hS ?_
    apply Exists.intro
    apply And.intro
    · intro W9 hW9; have y0 := (KX.out.bw hW9).cell e0; have y2 := (KX.out.bw hW9).cell e2; have y3 := (KX.out.bw hW9).cell e3; go_simp; try with_reducible rfl
    simp only [Act.put, List.setIfInBounds_toArray, List.set_cons_zero, List.set_cons_succ]
    refine take1 (i := 3) (some 28) rfl rfl (by kernel_rfl) (by kernel_rfl) (by kernel_rfl) (fun _ _ _ _ h => h) rfl hS ?_
    refine Exists.intro (.int .i64 x2) ?_
    apply And.intro
    · intro W9 hW9; have y0 := (KX.out.bw hW9).cell e0; have y2 := (KX.out.bw hW9).cell e2; have y3 := (KX.out.bw hW9).cell e3; go_simp; (try go_bits); (try with_reducible rfl); (try trivial)
    simp only [Act.put, List.setIfInBounds_toArray, List.set_cons_zero, List.set_cons_succ]
    refine take1 (i := 4) (some 29) rfl rfl (by kernel_rfl) (by kernel_rfl) (by kernel_rfl) (fun _ _ _ _ h => h) rfl hS ?_
    apply Exists.intro
    apply And.intro
    · intro W9 hW9; have y0 := (KX.out.bw hW9).cell e0; have y2 := (KX.out.bw hW9).cell e2; have y3 := (KX.out.bw hW9).cell e3; go_simp; try with_reducible rfl
    simp only [Act.put, List.setIfInBounds_toArray, List.set_cons_zero, List.set_cons_succ]
    refine take1 (i := 5) (some 30) rfl rfl (by kernel_rfl) (by kernel_rfl) (by kernel_rfl) (fun _ _ _ _ h => h) rfl hS ?_
    refine Exists.intro (.int .i64 x3) ?_
    apply And.intro
    · intro W9 hW9; have y0 := (KX.out.bw hW9).cell e0; have y2 := (KX.out.bw hW9).cell e2; have y3 := (KX.out.bw hW9).cell e3; go_simp; (try go_bits); (try with_reducible rfl); (try trivial)
    simp only [Act.put, List.setIfInBounds_toArray, List.set_cons_zero, List.set_cons_succ]
    refine take1 (i := 6) (some 31) rfl rfl (by kernel_rfl) (by kernel_rfl) (by kernel_rfl) (fun _ _ _ _ h => h) rfl hS ?_
    refine Exists.intro (.int .i64 (33000 + x3)) ?_
    apply And.intro
    · intro W9 hW9; have y0 := (KX.out.bw hW9).cell e0; have y2 := (KX.out.bw hW9).cell e2; have y3 := (KX.out.bw hW9).cell e3; go_simp; (try go_bits); (try with_reducible rfl); (try trivial)
    simp only [Act.put, List.setIfInBounds_toArray, List.set_cons_zero, List.set_cons_succ]
    refine wpAnyH_ready (rs := [7, 9]) (by kernel_rfl) (by simp) ?_
    refine AllReadyH.cons rfl (fun K hK => ?_) ?_
    go_simp
    go_wp2_with (go_at_call 24; (with_reducible refine Calls.mono (UPA.out _) ?_); rintro e1 w7 ⟨rfl, hb13⟩)
    refine hK.out _ _ (hS.trans hb13) (fun hS => ?_)
    clear hK K
    clear hb13
    refine take1 (i := 8) (some 33) rfl rfl (by kernel_rfl) (by kernel_rfl) (by kernel_rfl) (fun _ _ _ _ h => h) rfl hS ?_
    refine Exists.intro (.agg #[.int .i64 x0, .int .i64 x2, .int .i64 q3, .int .i64 0, .int .i64 0, .int .i64 0, .int .i64 0, .int .i64 0, .int .i64 0, .int .i64 0, .int .i64 0, .int .i64 0, .int .i64 0]) ?_
    apply And.intro
    · intro W9 hW9; have y0 := (KX.out.bw hW9).cell e0; have y2 := (KX.out.bw hW9).cell e2; have y3 := (KX.out.bw hW9).cell e3; go_simp; (try go_bits); (try with_reducible rfl); (try trivial)
    simp only [Act.put, List.setIfInBounds_toArray, List.set_cons_zero, List.set_cons_succ]
    refine wpAnyH_ready (rs := [9]) (by kernel_rfl) (by simp) ?_
    refine AllReadyH.cons rfl (fun K hK => ?_) ?_
    rw [if_pos (by rfl)]
    refine wp_alloc_new28 32 rfl (some 7) rfl _ (zeroPg _) ?_
    intro g7 w6 hg9 hN hbw
    simp only [Act.put, List.setIfInBounds_toArray, List.set_cons_zero, List.set_cons_succ]
    have K7 := Lib.hid hN
    have H7 := Lib.hid (Nat.le_trans hS.size hg9)
    clear hN
    refine hK.out _ _ (hS.trans hbw) (fun hS => ?_)
    clear hK K
    clear hbw hg9
    refine wpAnyH_ready (rs := [10]) (by kernel_rfl) (by simp) ?_
    refine AllReadyH.cons rfl (fun K hK => ?_) ?_
    rw [if_pos (by rfl)]
    refine wp_store_row0 32 _ _ rfl rfl g7 #[.int .i64 x0, .int .i64 x2, .int .i64 q3, .int .i64 0, .int .i64 0, .int .i64 0, .int .i64 0, .int .i64 0, .int .i64 0, .int .i64 0, .int .i64 0, .int .i64 0, .int .i64 0] rfl rfl 32 #[.int .i64 0, .int .i64 0, .int .i64 0, .int .i64 0, .int .i64 0, .int .i64 0, .int .i64 0, .int .i64 0, .int .i64 0, .int .i64 0, .int .i64 0, .int .i64 0, .int .i64 0] K7.out (by kernel_rfl) (by simp) (by simp [Value.oneCell']) ?_
    replace K7 := Lib.hid (K7.out.row #[.int .i64 x0, .int .i64 x2, .int .i64 q3, .int .i64 0, .int .i64 0, .int .i64 0, .int .i64 0, .int .i64 0, .int .i64 0, .int .i64 0, .int .i64 0, .int .i64 0, .int .i64 0])
    have hst := Bw.setRow hS H7.out #[.int .i64 x0, .int .i64 x2, .int .i64 q3, .int .i64 0, .int .i64 0, .int .i64 0, .int .i64 0, .int .i64 0, .int .i64 0, .int .i64 0, .int .i64 0, .int .i64 0, .int .i64 0]
    refine hK.out _ _ hst (fun hS => ?_)
    clear hK K
    clear hst
    refine wpAnyH_done (by kernel_rfl) ?_ _
    rotate_left
    exact AllReadyH.nil
    exact AllReadyH.nil
    refine AllReadyH.cons rfl (fun K hK => ?_) ?_
    rw [if_pos (by rfl)]
    refine wp_alloc_new28 32 rfl (some 7) rfl _ (zeroPg _) ?_
    intro g7 w6 hg9 hN hbw
    simp only [Act.put, List.setIfInBounds_toArray, List.set_cons_zero, List.set_cons_succ]
    have K7 := Lib.hid hN
    have H7 := Lib.hid (Nat.le_trans hS.size hg9)
    clear hN
    refine hK.out _ _ (hS.trans hbw) (fun hS => ?_)
    clear hK K
    clear hbw hg9
    refine wpAnyH_ready (rs := [7]) (by kernel_rfl) (by simp) ?_
    refine AllReadyH.cons rfl (fun K hK => ?_) ?_
    go_simp
    go_wp2_with (go_at_call 24; (with_reducible refine Calls.mono (UPA.out _) ?_); rintro e1 w7 ⟨rfl, hb13⟩)
    replace K7 := Lib.hid (K7.out.bw hb13)
    refine hK.out _ _ (hS.trans hb13) (fun hS => ?_)
    clear hK K
    clear hb13
    refine take1 (i := 8) (some 33) rfl rfl (by kernel_rfl) (by kernel_rfl) (by kernel_rfl) (fun _ _ _ _ h => h) rfl hS ?_
    refine Exists.intro (.agg #[.int .i64 x0, .int .i64 x2, .int .i64 q3, .int .i64 0, .int .i64 0, .int .i64 0, .int .i64 0, .int .i64 0, .int .i64 0, .int .i64 0, .int .i64 0, .int .i64 0, .int .i64 0]) ?_
    apply And.intro
    · intro W9 hW9; have y0 := (KX.out.bw hW9).cell e0; have y2 := (KX.out.bw hW9).cell e2; have y3 := (KX.out.bw hW9).cell e3; go_simp; (try go_bits); (try with_reducible rfl); (try trivial)
    simp only [Act.put, List.setIfInBounds_toArray, List.set_cons_zero, List.set_cons_succ]
    refine wpAnyH_ready (rs := [10]) (by kernel_rfl) (by simp) ?_
    refine AllReadyH.cons rfl (fun K hK => ?_) ?_
    rw [if_pos (by rfl)]
    refine wp_store_row0 32 _ _ rfl rfl g7 #[.int .i64 x0, .int .i64 x2, .int .i64 q3, .int .i64 0, .int .i64 0, .int .i64 0, .int .i64 0, .int .i64 0, .int .i64 0, .int .i64 0, .int .i64 0, .int .i64 0, .int .i64 0] rfl rfl 32 #[.int .i64 0, .int .i64 0, .int .i64 0, .int .i64 0, .int .i64 0, .int .i64 0, .int .i64 0, .int .i64 0, .int .i64 0, .int .i64 0, .int .i64 0, .int .i64 0, .int .i64 0] K7.out (by kernel_rfl) (by simp) (by simp [Value.oneCell']) ?_
    replace K7 := Lib.hid (K7.out.row #[.int .i64 x0, .int .i64 x2, .int .i64 q3, .int .i64 0, .int .i64 0, .int .i64 0, .int .i64 0, .int .i64 0, .int .i64 0, .int .i64 0, .int .i64 0, .int .i64 0, .int .i64 0])
    have hst := Bw.setRow hS H7.out #[.int .i64 x0, .int .i64 x2, .int .i64 q3, .int .i64 0, .int .i64 0, .int .i64 0, .int .i64 0, .int .i64 0, .int .i64 0, .int .i64 0, .int .i64 0, .int .i64 0, .int .i64 0]
    refine hK.out _ _ hst (fun hS => ?_)
    clear hK K
    clear hst
    refine wpAnyH_done (by kernel_rfl) ?_ _
    rotate_left
    exact AllReadyH.nil
    exact AllReadyH.nil
    exact AllReadyH.nil
    all_goals
      go_wp2
      go_meet
      exact ⟨g7, rfl, H7.out, Lib.hid (HW.out.trans hS), Lib.hid hS, Lib.hid (by rw [HP0.out]; exact K7.out)⟩
  case rest =>
    obtain ⟨g7, rfl, hg7, HWN, HUB, K7⟩ := hcut
    clear e0 e2 e3 HP0 UPA HW
    have HW := HWN
    have HG7 := Lib.hid hg7
    have HGX := Lib.hid (show g + 1 < g7 by have := KP.out.lt; omega)
    replace KX := Lib.hid (KX.out.bw HUB.out)
    replace KP := Lib.hid (KP.out.bw HUB.out)
    clear HUB HWN hg7
    have AX := Lib.hid (fun W => axes28_any g W)
    obtain ⟨uc, huc⟩ : ∃ uc, uc = wc := ⟨_, rfl⟩
    subst huc
    go_wp2_with (go_at_call 23; (with_reducible refine Calls.mono (AX.out _) ?_); rintro e1 w3 ⟨⟨ga, rfl, hga, hpg⟩, hb1⟩; have KA := Lib.hid hpg; have HGA := Lib.hid (show g7 < ga by have := K7.out.lt; omega); replace KX := Lib.hid (KX.out.bw hb1); replace KP := Lib.hid (KP.out.bw hb1); replace K7 := Lib.hid (K7.out.bw hb1); replace HW := Lib.hid (HW.out.trans hb1); clear hb1 hpg hga)
    go_loopg [8, 36] 3 (fun gg s8 s36 wr => ∃ i : Nat, i ≤ 3 ∧ 3 - i ≤ gg ∧ s8 = .int .i64 (M i) ∧ s36 = .int .i64 i ∧ Hid (Bw w wr) ∧ Hid (Blk wr g 25 A) ∧ Hid (Blk wr (g + 1) 32 #[.int .i64 0, .int .i64 0, .int .i64 0, .int .i64 0, .int .i64 0, .int .i64 0, .int .i64 0, .int .i64 0, .int .i64 0, .int .i64 0, .int .i64 0, .int .i64 0, .int .i64 0]) ∧ Hid (Blk wr ga 54 #[.pointer (some ⟨g, 7, none⟩), .pointer (some ⟨g, 11, none⟩), .pointer (some ⟨g, 15, none⟩)]) ∧ Hid (Blk wr g7 32 (pgV (pgP C i))))
    case atStart => exact ⟨0, by omega, by omega, by rw [HM0.out], rfl, HW, KX, KP, KA, K7⟩
    case round =>
      clear KX KP KA K7 HW
      obtain ⟨i, hi, hgg, rfl, rfl, HW, KX, KP, KA, K7⟩ := hrel
      obtain ⟨wb, rfl⟩ : ∃ wb, wb = wr := ⟨_, rfl⟩
      by_cases c3 : i < 3
      case pos =>
        have c3z : (i : Int) < 3 := by omega
        have hi0 : (0 : Int) ≤ i := by omega
        obtain ⟨b0, b1, b2, b3⟩ := HBX.out i c3
        obtain ⟨hc0, hc1, hc2⟩ := HC3.out i c3
        have HSTEP := Lib.hid (pgP_step C i c3)
        rw [hc0, hc1, hc2] at HSTEP
        have HMI := Lib.hid (HMS.out i)
        have hmb := HM.out i (by omega)
        clear hc0 hc1 hc2
        have e0 := HCX.out (7 + 4 * i) (by omega)
        have e1 := HCX.out (7 + 4 * i + 1) (by omega)
        have e2 := HCX.out (7 + 4 * i + 2) (by omega)
        have e3 := HCX.out (7 + 4 * i + 3) (by omega)
        generalize X (7 + 4 * i) = x0 at *
        generalize X (7 + 4 * i + 1) = x1 at *
        generalize X (7 + 4 * i + 2) = x2 at *
        generalize X (7 + 4 * i + 3) = x3 at *
        have RN0 := Lib.hid (fun W => rounded28_any x0 4000 (by omega) (by decide) W)
        have RN1 := Lib.hid (fun W => rounded28_any x1 1000 (by omega) (by decide) W)
        have RN2 := Lib.hid (fun W => rounded28_any x2 1000 (by omega) (by decide) W)
        have SZ := Lib.hid (fun W => size28_any x3 (by omega) W)
        generalize rn x0 4000 = r0 at *
        generalize rn x1 1000 = r1 at *
        generalize rn x2 1000 = r2 at *
        generalize hnx : (x3.natAbs : Int) = nx at *
        clear hnx b0 b1 b2 b3
        generalize M i = mi at *
        have pc := KA.out.cell (ps_at g i c3)
        have HIX := Lib.hid (fun W => ix_pg g7 i c3 W)
        have H7 := Lib.hid (show g < g7 ∧ g7 < ga by have := HGX.out; have := HGA.out; omega)
        go_upto_region 11 with fail
        clear pc
        refine wp_region_held_drew (S := Kx g7 wb) (by kernel_rfl) (Kx.of_bw (Bw.drew (Bw.refl _)) (Nat.le_of_lt K7.out.lt)) (fun hS => ?_)
        replace K7 := Lib.hid (K7.out.bw (Bw.drew (Bw.refl _)))
        generalize World.drew _ = wd at hS K7 ⊢
        refine take1 (i := 0) (some 41) rfl rfl (by kernel_rfl) (by kernel_rfl) (by kernel_rfl) (fun _ _ _ _ h => h) rfl hS ?_
        apply Exists.intro
        apply And.intro
        · intro W9 hW9; have z0 := (hW9.blk KX.out (by have := H7.out; omega)).cell e0; have z1 := (hW9.blk KX.out (by have := H7.out; omega)).cell e1; have z2 := (hW9.blk KX.out (by have := H7.out; omega)).cell e2; have hix := HIX.out W9; go_simp; try with_reducible rfl
        simp only [Act.put, List.setIfInBounds_toArray, List.set_cons_zero, List.set_cons_succ]
        refine take1 (i := 1) (some 42) rfl rfl (by kernel_rfl) (by kernel_rfl) (by kernel_rfl) (fun _ _ _ _ h => h) rfl hS ?_
        apply Exists.intro
        apply And.intro
        · intro W9 hW9; have z0 := (hW9.blk KX.out (by have := H7.out; omega)).cell e0; have z1 := (hW9.blk KX.out (by have := H7.out; omega)).cell e1; have z2 := (hW9.blk KX.out (by have := H7.out; omega)).cell e2; have hix := HIX.out W9; go_simp; try with_reducible rfl
        simp only [Act.put, List.setIfInBounds_toArray, List.set_cons_zero, List.set_cons_succ]
        refine take1 (i := 2) (some 43) rfl rfl (by kernel_rfl) (by kernel_rfl) (by kernel_rfl) (fun _ _ _ _ h => h) rfl hS ?_
        apply Exists.intro
        apply And.intro
        · intro W9 hW9; have z0 := (hW9.blk KX.out (by have := H7.out; omega)).cell e0; have z1 := (hW9.blk KX.out (by have := H7.out; omega)).cell e1; have z2 := (hW9.blk KX.out (by have := H7.out; omega)).cell e2; have hix := HIX.out W9; go_simp; try with_reducible rfl
        simp only [Act.put, List.setIfInBounds_toArray, List.set_cons_zero, List.set_cons_succ]
        refine take1 (i := 3) (some 44) rfl rfl (by kernel_rfl) (by kernel_rfl) (by kernel_rfl) (fun _ _ _ _ h => h) rfl hS ?_
        apply Exists.intro
        apply And.intro
        · intro W9 hW9; have z0 := (hW9.blk KX.out (by have := H7.out; omega)).cell e0; have z1 := (hW9.blk KX.out (by have := H7.out; omega)).cell e1; have z2 := (hW9.blk KX.out (by have := H7.out; omega)).cell e2; have hix := HIX.out W9; go_simp; try with_reducible rfl
        simp only [Act.put, List.setIfInBounds_toArray, List.set_cons_zero, List.set_cons_succ]
        refine take1 (i := 4) (some 45) rfl rfl (by kernel_rfl) (by kernel_rfl) (by kernel_rfl) (fun _ _ _ _ h => h) rfl hS ?_
        apply Exists.intro
        apply And.intro
        · intro W9 hW9; have z0 := (hW9.blk KX.out (by have := H7.out; omega)).cell e0; have z1 := (hW9.blk KX.out (by have := H7.out; omega)).cell e1; have z2 := (hW9.blk KX.out (by have := H7.out; omega)).cell e2; have hix := HIX.out W9; go_simp; try with_reducible rfl
        simp only [Act.put, List.setIfInBounds_toArray, List.set_cons_zero, List.set_cons_succ]
        refine take1 (i := 5) (some 46) rfl rfl (by kernel_rfl) (by kernel_rfl) (by kernel_rfl) (fun _ _ _ _ h => h) rfl hS ?_
        refine Exists.intro (.pointer (some ⟨g7, 4 + 3 * i, none⟩)) ?_
        apply And.intro
        · intro W9 hW9; have z0 := (hW9.blk KX.out (by have := H7.out; omega)).cell e0; have z1 := (hW9.blk KX.out (by have := H7.out; omega)).cell e1; have z2 := (hW9.blk KX.out (by have := H7.out; omega)).cell e2; have hix := HIX.out W9; go_simp; (try go_bits); (try with_reducible rfl); (try trivial)
        simp only [Act.put, List.setIfInBounds_toArray, List.set_cons_zero, List.set_cons_succ]
        refine take1 (i := 6) (some 47) rfl rfl (by kernel_rfl) (by kernel_rfl) (by kernel_rfl) (fun _ _ _ _ h => h) rfl hS ?_
        apply Exists.intro
        apply And.intro
        · intro W9 hW9; have z0 := (hW9.blk KX.out (by have := H7.out; omega)).cell e0; have z1 := (hW9.blk KX.out (by have := H7.out; omega)).cell e1; have z2 := (hW9.blk KX.out (by have := H7.out; omega)).cell e2; have hix := HIX.out W9; go_simp; try with_reducible rfl
        simp only [Act.put, List.setIfInBounds_toArray, List.set_cons_zero, List.set_cons_succ]
        refine take1 (i := 7) (some 48) rfl rfl (by kernel_rfl) (by kernel_rfl) (by kernel_rfl) (fun _ _ _ _ h => h) rfl hS ?_
        apply Exists.intro
        apply And.intro
        · intro W9 hW9; have z0 := (hW9.blk KX.out (by have := H7.out; omega)).cell e0; have z1 := (hW9.blk KX.out (by have := H7.out; omega)).cell e1; have z2 := (hW9.blk KX.out (by have := H7.out; omega)).cell e2; have hix := HIX.out W9; go_simp; try with_reducible rfl
        simp only [Act.put, List.setIfInBounds_toArray, List.set_cons_zero, List.set_cons_succ]
        refine take1 (i := 8) (some 49) rfl rfl (by kernel_rfl) (by kernel_rfl) (by kernel_rfl) (fun _ _ _ _ h => h) rfl hS ?_
        apply Exists.intro
        apply And.intro
        · intro W9 hW9; have z0 := (hW9.blk KX.out (by have := H7.out; omega)).cell e0; have z1 := (hW9.blk KX.out (by have := H7.out; omega)).cell e1; have z2 := (hW9.blk KX.out (by have := H7.out; omega)).cell e2; have hix := HIX.out W9; go_simp; try with_reducible rfl
        simp only [Act.put, List.setIfInBounds_toArray, List.set_cons_zero, List.set_cons_succ]
        refine take1 (i := 9) (some 50) rfl rfl (by kernel_rfl) (by kernel_rfl) (by kernel_rfl) (fun _ _ _ _ h => h) rfl hS ?_
        refine Exists.intro (.int .i64 x0) ?_
        apply And.intro
        · intro W9 hW9; have z0 := (hW9.blk KX.out (by have := H7.out; omega)).cell e0; have z1 := (hW9.blk KX.out (by have := H7.out; omega)).cell e1; have z2 := (hW9.blk KX.out (by have := H7.out; omega)).cell e2; have hix := HIX.out W9; go_simp; (try go_bits); (try with_reducible rfl); (try trivial)
        simp only [Act.put, List.setIfInBounds_toArray, List.set_cons_zero, List.set_cons_succ]
        refine take1 (i := 11) (some 52) rfl rfl (by kernel_rfl) (by kernel_rfl) (by kernel_rfl) (fun _ _ _ _ h => h) rfl hS ?_
        apply Exists.intro
        apply And.intro
        · intro W9 hW9; have z0 := (hW9.blk KX.out (by have := H7.out; omega)).cell e0; have z1 := (hW9.blk KX.out (by have := H7.out; omega)).cell e1; have z2 := (hW9.blk KX.out (by have := H7.out; omega)).cell e2; have hix := HIX.out W9; go_simp; try with_reducible rfl
        simp only [Act.put, List.setIfInBounds_toArray, List.set_cons_zero, List.set_cons_succ]
        refine take1 (i := 12) (some 53) rfl rfl (by kernel_rfl) (by kernel_rfl) (by kernel_rfl) (fun _ _ _ _ h => h) rfl hS ?_
        apply Exists.intro
        apply And.intro
        · intro W9 hW9; have z0 := (hW9.blk KX.out (by have := H7.out; omega)).cell e0; have z1 := (hW9.blk KX.out (by have := H7.out; omega)).cell e1; have z2 := (hW9.blk KX.out (by have := H7.out; omega)).cell e2; have hix := HIX.out W9; go_simp; try with_reducible rfl
        simp only [Act.put, List.setIfInBounds_toArray, List.set_cons_zero, List.set_cons_succ]
        refine take1 (i := 13) (some 54) rfl rfl (by kernel_rfl) (by kernel_rfl) (by kernel_rfl) (fun _ _ _ _ h => h) rfl hS ?_
        apply Exists.intro
        apply And.intro
        · intro W9 hW9; have z0 := (hW9.blk KX.out (by have := H7.out; omega)).cell e0; have z1 := (hW9.blk KX.out (by have := H7.out; omega)).cell e1; have z2 := (hW9.blk KX.out (by have := H7.out; omega)).cell e2; have hix := HIX.out W9; go_simp; try with_reducible rfl
        simp only [Act.put, List.setIfInBounds_toArray, List.set_cons_zero, List.set_cons_succ]
        refine take1 (i := 14) (some 55) rfl rfl (by kernel_rfl) (by kernel_rfl) (by kernel_rfl) (fun _ _ _ _ h => h) rfl hS ?_
        refine Exists.intro (.int .i64 x1) ?_
        apply And.intro
        · intro W9 hW9; have z0 := (hW9.blk KX.out (by have := H7.out; omega)).cell e0; have z1 := (hW9.blk KX.out (by have := H7.out; omega)).cell e1; have z2 := (hW9.blk KX.out (by have := H7.out; omega)).cell e2; have hix := HIX.out W9; go_simp; (try go_bits); (try with_reducible rfl); (try trivial)
        simp only [Act.put, List.setIfInBounds_toArray, List.set_cons_zero, List.set_cons_succ]
        refine take1 (i := 16) (some 57) rfl rfl (by kernel_rfl) (by kernel_rfl) (by kernel_rfl) (fun _ _ _ _ h => h) rfl hS ?_
        apply Exists.intro
        apply And.intro
        · intro W9 hW9; have z0 := (hW9.blk KX.out (by have := H7.out; omega)).cell e0; have z1 := (hW9.blk KX.out (by have := H7.out; omega)).cell e1; have z2 := (hW9.blk KX.out (by have := H7.out; omega)).cell e2; have hix := HIX.out W9; go_simp; try with_reducible rfl
        simp only [Act.put, List.setIfInBounds_toArray, List.set_cons_zero, List.set_cons_succ]
        refine take1 (i := 17) (some 58) rfl rfl (by kernel_rfl) (by kernel_rfl) (by kernel_rfl) (fun _ _ _ _ h => h) rfl hS ?_
        apply Exists.intro
        apply And.intro
        · intro W9 hW9; have z0 := (hW9.blk KX.out (by have := H7.out; omega)).cell e0; have z1 := (hW9.blk KX.out (by have := H7.out; omega)).cell e1; have z2 := (hW9.blk KX.out (by have := H7.out; omega)).cell e2; have hix := HIX.out W9; go_simp; try with_reducible rfl
        simp only [Act.put, List.setIfInBounds_toArray, List.set_cons_zero, List.set_cons_succ]
        refine take1 (i := 18) (some 59) rfl rfl (by kernel_rfl) (by kernel_rfl) (by kernel_rfl) (fun _ _ _ _ h => h) rfl hS ?_
        apply Exists.intro
        apply And.intro
        · intro W9 hW9; have z0 := (hW9.blk KX.out (by have := H7.out; omega)).cell e0; have z1 := (hW9.blk KX.out (by have := H7.out; omega)).cell e1; have z2 := (hW9.blk KX.out (by have := H7.out; omega)).cell e2; have hix := HIX.out W9; go_simp; try with_reducible rfl
        simp only [Act.put, List.setIfInBounds_toArray, List.set_cons_zero, List.set_cons_succ]
        refine take1 (i := 19) (some 60) rfl rfl (by kernel_rfl) (by kernel_rfl) (by kernel_rfl) (fun _ _ _ _ h => h) rfl hS ?_
        refine Exists.intro (.int .i64 x2) ?_
        apply And.intro
        · intro W9 hW9; have z0 := (hW9.blk KX.out (by have := H7.out; omega)).cell e0; have z1 := (hW9.blk KX.out (by have := H7.out; omega)).cell e1; have z2 := (hW9.blk KX.out (by have := H7.out; omega)).cell e2; have hix := HIX.out W9; go_simp; (try go_bits); (try with_reducible rfl); (try trivial)
        simp only [Act.put, List.setIfInBounds_toArray, List.set_cons_zero, List.set_cons_succ]
        refine wpAnyH_ready (rs := [10]) (by kernel_rfl) (by simp) ?_
        refine AllReadyH.cons rfl (fun K hK => ?_) ?_
        go_simp
        go_wp2_with (go_at_call 29; (with_reducible refine Calls.mono (RN0.out _) ?_); rintro e1 wd ⟨rfl, hb13⟩)
        have hle := Nat.le_of_lt K7.out.lt
        replace K7 := Lib.hid (K7.out.bw hb13)
        refine hK.out _ _ (hS.trans (Kx.of_bw hb13 hle)) (fun hS => ?_)
        clear hK K
        clear hb13 hle
        refine wpAnyH_ready (rs := [15]) (by kernel_rfl) (by simp) ?_
        refine AllReadyH.cons rfl (fun K hK => ?_) ?_
        go_simp
        go_wp2_with (go_at_call 29; (with_reducible refine Calls.mono (RN1.out _) ?_); rintro e1 wd ⟨rfl, hb13⟩)
        have hle := Nat.le_of_lt K7.out.lt
        replace K7 := Lib.hid (K7.out.bw hb13)
        refine hK.out _ _ (hS.trans (Kx.of_bw hb13 hle)) (fun hS => ?_)
        clear hK K
        clear hb13 hle
        refine wpAnyH_ready (rs := [20]) (by kernel_rfl) (by simp) ?_
        refine AllReadyH.cons rfl (fun K hK => ?_) ?_
        go_simp
        go_wp2_with (go_at_call 29; (with_reducible refine Calls.mono (RN2.out _) ?_); rintro e1 wd ⟨rfl, hb13⟩)
        have hle := Nat.le_of_lt K7.out.lt
        replace K7 := Lib.hid (K7.out.bw hb13)
        refine hK.out _ _ (hS.trans (Kx.of_bw hb13 hle)) (fun hS => ?_)
        clear hK K
        clear hb13 hle
        refine take1 (i := 21) (some 62) rfl rfl (by kernel_rfl) (by kernel_rfl) (by kernel_rfl) (fun _ _ _ _ h => h) rfl hS ?_
        apply Exists.intro
        apply And.intro
        · intro W9 hW9; have z0 := (hW9.blk KX.out (by have := H7.out; omega)).cell e0; have z1 := (hW9.blk KX.out (by have := H7.out; omega)).cell e1; have z2 := (hW9.blk KX.out (by have := H7.out; omega)).cell e2; have hix := HIX.out W9; go_simp; try with_reducible rfl
        simp only [Act.put, List.setIfInBounds_toArray, List.set_cons_zero, List.set_cons_succ]
        refine take1 (i := 22) (some 63) rfl rfl (by kernel_rfl) (by kernel_rfl) (by kernel_rfl) (fun _ _ _ _ h => h) rfl hS ?_
        apply Exists.intro
        apply And.intro
        · intro W9 hW9; have z0 := (hW9.blk KX.out (by have := H7.out; omega)).cell e0; have z1 := (hW9.blk KX.out (by have := H7.out; omega)).cell e1; have z2 := (hW9.blk KX.out (by have := H7.out; omega)).cell e2; have hix := HIX.out W9; go_simp; try with_reducible rfl
        simp only [Act.put, List.setIfInBounds_toArray, List.set_cons_zero, List.set_cons_succ]
        refine wpAnyH_ready (rs := [23]) (by kernel_rfl) (by simp) ?_
        refine AllReadyH.cons rfl (fun K hK => ?_) ?_
        rw [if_pos (by rfl)]
        have hlt := K7.out.lt
        refine wp_store_at28 22 _ _ rfl g7 (4 + 3 * i) #[.int .i64 r0, .int .i64 r1, .int .i64 r2] rfl rfl 32 _ K7.out (by kernel_rfl) (show 4 + 3 * i + 3 ≤ 13 from by omega) (by simp [Value.oneCell']) ?_
        rw [HSTEP.out]
        simp only [Act.put]
        replace K7 := Lib.hid (K7.out.row (pgV (pgP C (i + 1))))
        have hst := Kx.row hlt (pgV (pgP C (i + 1)))
        refine hK.out _ _ (hS.trans hst) (fun hS => ?_)
        clear hK K
        clear hst hlt
        refine wpAnyH_done (by kernel_rfl) ?_ _
        rotate_left
        exact AllReadyH.nil
        exact AllReadyH.nil
        exact AllReadyH.nil
        exact AllReadyH.nil
        all_goals
          replace HW := Lib.hid (hS.bw HW.out (by have := HG.out; have := H7.out; omega))
          replace KX := Lib.hid (hS.blk KX.out (by have := H7.out; omega))
          replace KP := Lib.hid (hS.blk KP.out (by have := HGX.out; omega))
          replace KA := Lib.hid (hS.blk KA.out (by have := H7.out; omega))
          clear hS HSTEP
          generalize World.setRow wd _ _ = wx at *
          have lc3 := KX.out.cell e3
          go_wp2_with (go_at_call 25; (with_reducible refine Calls.mono (SZ.out _) ?_); rintro e1 w7 ⟨rfl, hb1⟩; replace KX := Lib.hid (KX.out.bw hb1); replace KP := Lib.hid (KP.out.bw hb1); replace KA := Lib.hid (KA.out.bw hb1); replace K7 := Lib.hid (K7.out.bw hb1); replace HW := Lib.hid (HW.out.trans hb1); clear hb1 lc3)
          go_roundg (3 - (i + 1))
          case measure => omega
          case rel => exact ⟨i + 1, by omega, by omega, by rw [HMI.out], by go_num, HW, KX, KP, KA, K7⟩
      case neg =>
        have c3z : ¬ (i : Int) < 3 := by omega
        obtain rfl : i = 3 := by omega
        have hmb := HM.out 3 (by omega)
        have UPB0 := fun S (hS : 0 ≤ S ∧ S ≤ 4000000000000000000) W => up28_any S 67108864000 hS (by decide) W
        generalize M 3 = m at *
        have UPB := Lib.hid (fun W => UPB0 (545469235200000 + 3600 * m * 3600 * 3600) (by omega) W)
        have HGR := Lib.hid (show (545469235200000 + 3600 * m * 3600 * 3600 + 67108864000 - 1) / 67108864000 + 1 = C 3 from by rw [HC33.out]; unfold grQ; omega)
        have hqb : 0 ≤ (545469235200000 + 3600 * m * 3600 * 3600 + 67108864000 - 1) / 67108864000 ∧ (545469235200000 + 3600 * m * 3600 * 3600 + 67108864000 - 1) / 67108864000 ≤ 100000000 := by omega
        clear UPB0
        generalize (545469235200000 + 3600 * m * 3600 * 3600 + 67108864000 - 1) / 67108864000 = gq at *
        go_upto_region 15 with fail
        have l3 := K7.out.cell (show (pgV (pgP C 3))[3]? = some (.int .i64 0) from rfl)
        have f3 := K7.out.frozen 3
        go_upto_region 16 with (go_at_call 24; (with_reducible refine Calls.mono (UPB.out _) ?_); rintro e1 w5 ⟨rfl, hb1⟩; replace f3 := hb1.frozen' l3 f3; replace l3 := hb1.cell' l3; replace K7 := Lib.hid (K7.out.bw hb1); replace KP := Lib.hid (KP.out.bw hb1); replace HW := Lib.hid (HW.out.trans hb1); clear hb1)
        rw [show gq + 1 = C 3 from HGR.out]
        have K8 := Lib.hid (show Blk (w5.setCell ⟨g7, 3, none⟩ (.int .i64 (C 3))) g7 32 (pgV C) from by have h9 := K7.out.set 3 (.int .i64 (C 3)); rw [pgP_three] at h9; exact h9)
        replace KP := Lib.hid (KP.out.set_other (show g + 1 ≠ g7 by have := HGX.out; omega) 3 (.int .i64 (C 3)))
        replace HW := Lib.hid (show Bw w (w5.setCell ⟨g7, 3, none⟩ (.int .i64 (C 3))) from Bw.setCell HW.out (show w.heap.size ≤ g7 by have := HGX.out; have := HG.out; omega) (.int .i64 (C 3)))
        clear K7 l3 f3 UPB HGR hqb
        generalize World.setCell w5 _ _ = w6 at *
        replace HWD := Lib.hid (HWD.out.bw HW.out)
        by_cases c9 : errPg C = 0
        case neg =>
          have HQ := Lib.hid (HE0.out c9)
          have c9z : (errPg C != 0) = true := by simpa using c9
          generalize errPg C = ec at *
          clear c9 HE0 HE1
          go_wp2_with (first | ((with_reducible refine at_load 32 (.tmp 7) ?_); refine wpList_load_row rfl 32 _ rfl g7 rfl 32 (pgV C) (0, 0) _ K8.out Tryd.underlying32 rfl (by kernel_rfl) ?_) | (go_at_call 30; (with_reducible refine Calls.mono (PK.out _ HWD.out) ?_); rintro e1 w7 ⟨rfl, hb1⟩; replace K8 := Lib.hid (K8.out.bw hb1); replace KP := Lib.hid (KP.out.bw hb1); replace HW := Lib.hid (HW.out.trans hb1); clear hb1) | ((with_reducible refine at_store 32 (.tmp 4) (.tmp 91) ?_); refine wpList_store_row rfl 32 (.tmp 4) (.tmp 91) rfl (g + 1) #[.int .i64 0, .int .i64 0, .int .i64 0, .int .i64 0, .int .i64 0, .int .i64 0, .int .i64 0, .int .i64 0, .int .i64 0, .int .i64 0, .int .i64 0, .int .i64 0, .int .i64 0] rfl rfl 32 _ KP.out (by kernel_rfl) rfl (by simp [Value.oneCell', pgV]) ?_))
          have F9 := KP.out.row #[.int .i64 0, .int .i64 0, .int .i64 0, .int .i64 0, .int .i64 0, .int .i64 0, .int .i64 0, .int .i64 0, .int .i64 0, .int .i64 0, .int .i64 0, .int .i64 0, .int .i64 0]
          have B9 := Bw.setRow HW.out (show w.heap.size ≤ g + 1 by have := HG.out; omega) #[.int .i64 0, .int .i64 0, .int .i64 0, .int .i64 0, .int .i64 0, .int .i64 0, .int .i64 0, .int .i64 0, .int .i64 0, .int .i64 0, .int .i64 0, .int .i64 0, .int .i64 0]
          refine bodyPost_ret (v := .tuple #[.agg #[.int .i64 0, .int .i64 0, .int .i64 0, .int .i64 0, .int .i64 0, .int .i64 0, .int .i64 0, .int .i64 0, .int .i64 0, .int .i64 0, .int .i64 0, .int .i64 0, .int .i64 0], .int .i64 5]) ?_ rfl ⟨by rw [HQ.out.1, HQ.out.2], B9⟩
          exact results_two_row (p := 4) (u := 5) rfl _ _ (g + 1) _ rfl (run_loadVar_row _ (g + 1) 32 32 #[.int .i64 0, .int .i64 0, .int .i64 0, .int .i64 0, .int .i64 0, .int .i64 0, .int .i64 0, .int .i64 0, .int .i64 0, .int .i64 0, .int .i64 0, .int .i64 0, .int .i64 0] (0, 0) _ F9 Tryd.underlying32 rfl (by kernel_rfl))
        case pos =>
          have HQ := Lib.hid (HE1.out c9)
          rw [c9] at PK
          clear c9 HE0 HE1
          go_wp2_with (first | ((with_reducible refine at_load 32 (.tmp 7) ?_); refine wpList_load_row rfl 32 _ rfl g7 rfl 32 (pgV C) (0, 0) _ K8.out Tryd.underlying32 rfl (by kernel_rfl) ?_) | (go_at_call 30; (with_reducible refine Calls.mono (PK.out _ HWD.out) ?_); rintro e1 w7 ⟨rfl, hb1⟩; replace K8 := Lib.hid (K8.out.bw hb1); replace KP := Lib.hid (KP.out.bw hb1); replace HW := Lib.hid (HW.out.trans hb1); clear hb1) | ((with_reducible refine at_store 32 (.tmp 4) (.tmp 92) ?_); refine wpList_store_row rfl 32 (.tmp 4) (.tmp 92) rfl (g + 1) (pgV C) rfl rfl 32 _ KP.out (by kernel_rfl) rfl (by simp [Value.oneCell', pgV]) ?_))
          have F9 := KP.out.row (pgV C)
          have B9 := Bw.setRow HW.out (show w.heap.size ≤ g + 1 by have := HG.out; omega) (pgV C)
          refine bodyPost_ret (v := .tuple #[.agg (pgV C), .int .i64 0]) ?_ rfl ⟨by rw [HQ.out.1, HQ.out.2], B9⟩
          exact results_two_row (p := 4) (u := 5) rfl _ _ (g + 1) _ rfl (run_loadVar_row _ (g + 1) 32 32 (pgV C) (0, 0) _ F9 Tryd.underlying32 rfl (by kernel_rfl))
theorem Coarse_2 (X : Nat → Int) (h : Int) (hH : h = 2) (hE : errE X = 0) (w : World) (hw : WdAt w) : Calls Tryd.prog 8 #[.agg (eV X), .int .i64 h] w fun e w' => e = .returned (.tuple #[.agg (pgV (cgX X h)), .int .i64 (cgE X h)]) ∧ Bw w w' := by
  have CK := Lib.hid (fun W => ECheck_any X W)
  have HWD := Lib.hid hw
  have KX := Lib.hid ((Blk.new w 25 (eV X)).alloc (.cells #[.int .i64 0, .int .i64 0, .int .i64 0, .int .i64 0, .int .i64 0, .int .i64 0, .int .i64 0, .int .i64 0, .int .i64 0, .int .i64 0, .int .i64 0, .int .i64 0, .int .i64 0] 32))
  have KP := Lib.hid (show Blk ((w.alloc (.cells (eV X) 25)).alloc (.cells #[.int .i64 0, .int .i64 0, .int .i64 0, .int .i64 0, .int .i64 0, .int .i64 0, .int .i64 0, .int .i64 0, .int .i64 0, .int .i64 0, .int .i64 0, .int .i64 0, .int .i64 0] 32)) (w.heap.size + 1) 32 #[.int .i64 0, .int .i64 0, .int .i64 0, .int .i64 0, .int .i64 0, .int .i64 0, .int .i64 0, .int .i64 0, .int .i64 0, .int .i64 0, .int .i64 0, .int .i64 0, .int .i64 0] from by have h9 := Blk.new (w.alloc (.cells (eV X) 25)) 32 #[.int .i64 0, .int .i64 0, .int .i64 0, .int .i64 0, .int .i64 0, .int .i64 0, .int .i64 0, .int .i64 0, .int .i64 0, .int .i64 0, .int .i64 0, .int .i64 0, .int .i64 0]; simp only [World.size_alloc] at h9; exact h9)
  have HW := Lib.hid (Bw.alloc (Bw.alloc (Bw.refl w) (.cells (eV X) 25)) (.cells #[.int .i64 0, .int .i64 0, .int .i64 0, .int .i64 0, .int .i64 0, .int .i64 0, .int .i64 0, .int .i64 0, .int .i64 0, .int .i64 0, .int .i64 0, .int .i64 0, .int .i64 0] 32))
  have HSZ : Hid ((Tryd.prog.info? 25).map (·.size) = some (eV X).size) := Lib.hid (by kernel_rfl)
  obtain ⟨g, hg⟩ : ∃ g, w.heap.size = g := ⟨_, rfl⟩
  rw [hg] at KX KP
  have HG := Lib.hid hg
  have HCX := Lib.hid (fun i (hi : i < 19) => eV_at X i hi)
  subst hH
  obtain ⟨hx0, hx2, hx3⟩ := hd_bd hE
  have HBX := Lib.hid (fun j hj => ax_bd hE j hj)
  have HM := Lib.hid (fun k hk => mK_bd (X := X) (fun j hj => (ax_bd hE j hj).2.2.2) k hk)
  obtain ⟨C, hC⟩ : ∃ C, C = pgF X 2 := ⟨_, rfl⟩
  have HE0 : Hid (errPg C ≠ 0 → cgE X 2 = 5 ∧ pgV (cgX X 2) = #[.int .i64 0, .int .i64 0, .int .i64 0, .int .i64 0, .int .i64 0, .int .i64 0, .int .i64 0, .int .i64 0, .int .i64 0, .int .i64 0, .int .i64 0, .int .i64 0, .int .i64 0]) := Lib.hid (fun q => by
    have e : cgE X 2 = 5 := by unfold cgE; rw [if_pos hE, if_pos (by decide), ← hC, if_neg q]
    refine ⟨e, ?_⟩
    unfold cgX
    rw [e, if_neg (by decide)]
    rfl)
  have HE1 : Hid (errPg C = 0 → cgE X 2 = 0 ∧ cgX X 2 = C) := Lib.hid (fun q => by
    have e : cgE X 2 = 0 := by unfold cgE; rw [if_pos hE, if_pos (by decide), ← hC, if_pos q]
    refine ⟨e, ?_⟩
    unfold cgX
    rw [e, if_pos rfl, hC])
  have HCC := Lib.hid (show C 0 = X 0 ∧ C 1 = X 2 ∧ C 2 = 33 + (X 3 + 999) / 1000 ∧ C 3 = grQ 2 (mK X 3) from by rw [hC]; exact ⟨rfl, rfl, rfl, rfl⟩)
  have HC3 := Lib.hid (show ∀ i, i < 3 → C (4 + 3 * i) = rn (X (7 + 4 * i)) 4000 ∧ C (4 + 3 * i + 1) = rn (X (7 + 4 * i + 1)) 1000 ∧ C (4 + 3 * i + 2) = rn (X (7 + 4 * i + 2)) 1000 from fun i hi => by
    rw [hC]
    match i, hi with
    | 0, _ => exact ⟨rfl, rfl, rfl⟩
    | 1, _ => exact ⟨rfl, rfl, rfl⟩
    | 2, _ => exact ⟨rfl, rfl, rfl⟩)
  have HMS := Lib.hid (show ∀ k, mK X (k + 1) = mx28 (mK X k) ((X (7 + 4 * k + 3)).natAbs : Int) from fun k => rfl)
  have HM0 := Lib.hid (show mK X 0 = 0 from rfl)
  rw [hE] at CK
  clear hE hC
  generalize hcx : cgX X 2 = CX at *
  generalize hce : cgE X 2 = CE at *
  clear hcx hce
  generalize mK X = M at *
  have PK := Lib.hid (fun W h => PgCheck_any C W h)
  obtain ⟨A, hA⟩ : ∃ A, A = eV X := ⟨_, rfl⟩
  rw [← hA] at CK KX KP HW HSZ HCX ⊢
  clear hA hw
  go_enter Tryd.func8, Tryd.ntmps8
  go_upto_region 1 with fail
  obtain ⟨W0, hW0⟩ : ∃ W0, (w.alloc (.cells A 25)).alloc (.cells #[.int .i64 0, .int .i64 0, .int .i64 0, .int .i64 0, .int .i64 0, .int .i64 0, .int .i64 0, .int .i64 0, .int .i64 0, .int .i64 0, .int .i64 0, .int .i64 0, .int .i64 0] 32) = W0 := ⟨_, rfl⟩
  rw [hW0] at KX KP HW ⊢
  clear hW0 hg
  go_upto_region 2 with (first | ((with_reducible refine at_load 25 (.tmp 2) ?_); refine wpList_load_row rfl 25 _ rfl g rfl 25 A (0, 0) _ KX.out Tryd.underlying25 rfl HSZ.out ?_) | (go_at_call 22; (with_reducible refine Calls.mono (CK.out _) ?_); rintro e1 w1 ⟨rfl, hb1⟩; replace KX := Lib.hid (KX.out.bw hb1); replace KP := Lib.hid (KP.out.bw hb1); replace HW := Lib.hid (HW.out.trans hb1); clear hb1))
  go_upto_region 6 with fail
  have e0 := HCX.out 0 (by omega)
  have e2 := HCX.out 2 (by omega)
  have e3 := HCX.out 3 (by omega)
  generalize X 0 = x0 at *
  generalize X 2 = x2 at *
  generalize X 3 = x3 at *
  have UPA := Lib.hid (fun W => up28_any (33000 + x3) 1000 (by omega) (by decide) W)
  have HP0 : Hid (pgV (pgP C 0) = #[.int .i64 x0, .int .i64 x2, .int .i64 ((33000 + x3 + 1000 - 1) / 1000), .int .i64 0, .int .i64 0, .int .i64 0, .int .i64 0, .int .i64 0, .int .i64 0, .int .i64 0, .int .i64 0, .int .i64 0, .int .i64 0]) := Lib.hid (by
    obtain ⟨a0, a1, a2, _⟩ := HCC.out
    rw [pgP_zero, a0, a1, a2]
    have : 33 + (x3 + 999) / 1000 = (33000 + x3 + 1000 - 1) / 1000 := by omega
    rw [this])
  have HC33 := Lib.hid (HCC.out.2.2.2)
  clear HCC
  have wx3 : 0 ≤ x3 ∧ x3 ≤ 65535 := hx3
  clear hx0 hx2 hx3
  generalize (33000 + x3 + 1000 - 1) / 1000 = q3 at *
  obtain ⟨ub, hub⟩ : ∃ ub, ub = w1 := ⟨_, rfl⟩
  subst hub
  go_cut [7] from 25 (fun s7 wc => ∃ g7, s7 = .pointer (some ⟨g7, 0, none⟩) ∧ ub.heap.size ≤ g7 ∧ Hid (Bw w wc) ∧ Hid (Bw ub wc) ∧ Hid (Blk wc g7 32 (pgV (pgP C 0))))
  case first =>
    refine wp_region_held_drew (S := Bw ub) (by kernel_rfl) (Bw.drew (Bw.refl _)) (fun hS => ?_)
    generalize World.drew _ = wd at hS ⊢
    refine take1 (i := 0) (some 25) rfl rfl (by kernel_rfl) (by kernel_rfl) (by kernel_rfl) (fun _ _ _ _ h => h) rfl hS ?_
    apply Exists.intro
    apply And.intro
    · intro W9 hW9; have y0 := (KX.out.bw hW9).cell e0; have y2 := (KX.out.bw hW9).cell e2; have y3 := (KX.out.bw hW9).cell e3; go_simp; try with_reducible rfl
    simp only [Act.put, List.setIfInBounds_toArray, List.set_cons_zero, List.set_cons_succ]
    refine take1 (i := 1) (some 26) rfl rfl (by kernel_rfl) (by kernel_rfl) (by kernel_rfl) (fun _ _ _ _ h => h) rfl hS ?_
    refine Exists.intro (.int .i64 x0) ?_
    apply And.intro
    · intro W9 hW9; have y0 := (KX.out.bw hW9).cell e0; have y2 := (KX.out.bw hW9).cell e2; have y3 := (KX.out.bw hW9).cell e3; go_simp; (try go_bits); (try with_reducible rfl); (try trivial)
    simp only [Act.put, List.setIfInBounds_toArray, List.set_cons_zero, List.set_cons_succ]
    refine take1 (i := 2) (some 27) rfl rfl (by kernel_rfl) (by kernel_rfl) (by kernel_rfl) (fun _ _ _ _ h => h) rfl hS ?_
    apply Exists.intro
    apply And.intro
    · intro W9 hW9; have y0 := (KX.out.bw hW9).cell e0; have y2 := (KX.out.bw hW9).cell e2; have y3 := (KX.out.bw hW9).cell e3; go_simp; try with_reducible rfl
    simp only [Act.put, List.setIfInBounds_toArray, List.set_cons_zero, List.set_cons_succ]
    refine take1 (i := 3) (some 28) rfl rfl (by kernel_rfl) (by kernel_rfl) (by kernel_rfl) (fun _ _ _ _ h => h) rfl hS ?_
    refine Exists.intro (.int .i64 x2) ?_
    apply And.intro
    · intro W9 hW9; have y0 := (KX.out.bw hW9).cell e0; have y2 := (KX.out.bw hW9).cell e2; have y3 := (KX.out.bw hW9).cell e3; go_simp; (try go_bits); (try with_reducible rfl); (try trivial)
    simp only [Act.put, List.setIfInBounds_toArray, List.set_cons_zero, List.set_cons_succ]
    refine take1 (i := 4) (some 29) rfl rfl (by kernel_rfl) (by kernel_rfl) (by kernel_rfl) (fun _ _ _ _ h => h) rfl hS ?_
    apply Exists.intro
    apply And.intro
    · intro W9 hW9; have y0 := (KX.out.bw hW9).cell e0; have y2 := (KX.out.bw hW9).cell e2; have y3 := (KX.out.bw hW9).cell e3; go_simp; try with_reducible rfl
    simp only [Act.put, List.setIfInBounds_toArray, List.set_cons_zero, List.set_cons_succ]
    refine take1 (i := 5) (some 30) rfl rfl (by kernel_rfl) (by kernel_rfl) (by kernel_rfl) (fun _ _ _ _ h => h) rfl hS ?_
    refine Exists.intro (.int .i64 x3) ?_
    apply And.intro
    · intro W9 hW9; have y0 := (KX.out.bw hW9).cell e0; have y2 := (KX.out.bw hW9).cell e2; have y3 := (KX.out.bw hW9).cell e3; go_simp; (try go_bits); (try with_reducible rfl); (try trivial)
    simp only [Act.put, List.setIfInBounds_toArray, List.set_cons_zero, List.set_cons_succ]
    refine take1 (i := 6) (some 31) rfl rfl (by kernel_rfl) (by kernel_rfl) (by kernel_rfl) (fun _ _ _ _ h => h) rfl hS ?_
    refine Exists.intro (.int .i64 (33000 + x3)) ?_
    apply And.intro
    · intro W9 hW9; have y0 := (KX.out.bw hW9).cell e0; have y2 := (KX.out.bw hW9).cell e2; have y3 := (KX.out.bw hW9).cell e3; go_simp; (try go_bits); (try with_reducible rfl); (try trivial)
    simp only [Act.put, List.setIfInBounds_toArray, List.set_cons_zero, List.set_cons_succ]
    refine wpAnyH_ready (rs := [7, 9]) (by kernel_rfl) (by simp) ?_
    refine AllReadyH.cons rfl (fun K hK => ?_) ?_
    go_simp
    go_wp2_with (go_at_call 24; (with_reducible refine Calls.mono (UPA.out _) ?_); rintro e1 w7 ⟨rfl, hb13⟩)
    refine hK.out _ _ (hS.trans hb13) (fun hS => ?_)
    clear hK K
    clear hb13
    refine take1 (i := 8) (some 33) rfl rfl (by kernel_rfl) (by kernel_rfl) (by kernel_rfl) (fun _ _ _ _ h => h) rfl hS ?_
    refine Exists.intro (.agg #[.int .i64 x0, .int .i64 x2, .int .i64 q3, .int .i64 0, .int .i64 0, .int .i64 0, .int .i64 0, .int .i64 0, .int .i64 0, .int .i64 0, .int .i64 0, .int .i64 0, .int .i64 0]) ?_
    apply And.intro
    · intro W9 hW9; have y0 := (KX.out.bw hW9).cell e0; have y2 := (KX.out.bw hW9).cell e2; have y3 := (KX.out.bw hW9).cell e3; go_simp; (try go_bits); (try with_reducible rfl); (try trivial)
    simp only [Act.put, List.setIfInBounds_toArray, List.set_cons_zero, List.set_cons_succ]
    refine wpAnyH_ready (rs := [9]) (by kernel_rfl) (by simp) ?_
    refine AllReadyH.cons rfl (fun K hK => ?_) ?_
    rw [if_pos (by rfl)]
    refine wp_alloc_new28 32 rfl (some 7) rfl _ (zeroPg _) ?_
    intro g7 w6 hg9 hN hbw
    simp only [Act.put, List.setIfInBounds_toArray, List.set_cons_zero, List.set_cons_succ]
    have K7 := Lib.hid hN
    have H7 := Lib.hid (Nat.le_trans hS.size hg9)
    clear hN
    refine hK.out _ _ (hS.trans hbw) (fun hS => ?_)
    clear hK K
    clear hbw hg9
    refine wpAnyH_ready (rs := [10]) (by kernel_rfl) (by simp) ?_
    refine AllReadyH.cons rfl (fun K hK => ?_) ?_
    rw [if_pos (by rfl)]
    refine wp_store_row0 32 _ _ rfl rfl g7 #[.int .i64 x0, .int .i64 x2, .int .i64 q3, .int .i64 0, .int .i64 0, .int .i64 0, .int .i64 0, .int .i64 0, .int .i64 0, .int .i64 0, .int .i64 0, .int .i64 0, .int .i64 0] rfl rfl 32 #[.int .i64 0, .int .i64 0, .int .i64 0, .int .i64 0, .int .i64 0, .int .i64 0, .int .i64 0, .int .i64 0, .int .i64 0, .int .i64 0, .int .i64 0, .int .i64 0, .int .i64 0] K7.out (by kernel_rfl) (by simp) (by simp [Value.oneCell']) ?_
    replace K7 := Lib.hid (K7.out.row #[.int .i64 x0, .int .i64 x2, .int .i64 q3, .int .i64 0, .int .i64 0, .int .i64 0, .int .i64 0, .int .i64 0, .int .i64 0, .int .i64 0, .int .i64 0, .int .i64 0, .int .i64 0])
    have hst := Bw.setRow hS H7.out #[.int .i64 x0, .int .i64 x2, .int .i64 q3, .int .i64 0, .int .i64 0, .int .i64 0, .int .i64 0, .int .i64 0, .int .i64 0, .int .i64 0, .int .i64 0, .int .i64 0, .int .i64 0]
    refine hK.out _ _ hst (fun hS => ?_)
    clear hK K
    clear hst
    refine wpAnyH_done (by kernel_rfl) ?_ _
    rotate_left
    exact AllReadyH.nil
    exact AllReadyH.nil
    refine AllReadyH.cons rfl (fun K hK => ?_) ?_
    rw [if_pos (by rfl)]
    refine wp_alloc_new28 32 rfl (some 7) rfl _ (zeroPg _) ?_
    intro g7 w6 hg9 hN hbw
    simp only [Act.put, List.setIfInBounds_toArray, List.set_cons_zero, List.set_cons_succ]
    have K7 := Lib.hid hN
    have H7 := Lib.hid (Nat.le_trans hS.size hg9)
    clear hN
    refine hK.out _ _ (hS.trans hbw) (fun hS => ?_)
    clear hK K
    clear hbw hg9
    refine wpAnyH_ready (rs := [7]) (by kernel_rfl) (by simp) ?_
    refine AllReadyH.cons rfl (fun K hK => ?_) ?_
    go_simp
    go_wp2_with (go_at_call 24; (with_reducible refine Calls.mono (UPA.out _) ?_); rintro e1 w7 ⟨rfl, hb13⟩)
    replace K7 := Lib.hid (K7.out.bw hb13)
    refine hK.out _ _ (hS.trans hb13) (fun hS => ?_)
    clear hK K
    clear hb13
    refine take1 (i := 8) (some 33) rfl rfl (by kernel_rfl) (by kernel_rfl) (by kernel_rfl) (fun _ _ _ _ h => h) rfl hS ?_
    refine Exists.intro (.agg #[.int .i64 x0, .int .i64 x2, .int .i64 q3, .int .i64 0, .int .i64 0, .int .i64 0, .int .i64 0, .int .i64 0, .int .i64 0, .int .i64 0, .int .i64 0, .int .i64 0, .int .i64 0]) ?_
    apply And.intro
    · intro W9 hW9; have y0 := (KX.out.bw hW9).cell e0; have y2 := (KX.out.bw hW9).cell e2; have y3 := (KX.out.bw hW9).cell e3; go_simp; (try go_bits); (try with_reducible rfl); (try trivial)
    simp only [Act.put, List.setIfInBounds_toArray, List.set_cons_zero, List.set_cons_succ]
    refine wpAnyH_ready (rs := [10]) (by kernel_rfl) (by simp) ?_
    refine AllReadyH.cons rfl (fun K hK => ?_) ?_
    rw [if_pos (by rfl)]
    refine wp_store_row0 32 _ _ rfl rfl g7 #[.int .i64 x0, .int .i64 x2, .int .i64 q3, .int .i64 0, .int .i64 0, .int .i64 0, .int .i64 0, .int .i64 0, .int .i64 0, .int .i64 0, .int .i64 0, .int .i64 0, .int .i64 0] rfl rfl 32 #[.int .i64 0, .int .i64 0, .int .i64 0, .int .i64 0, .int .i64 0, .int .i64 0, .int .i64 0, .int .i64 0, .int .i64 0, .int .i64 0, .int .i64 0, .int .i64 0, .int .i64 0] K7.out (by kernel_rfl) (by simp) (by simp [Value.oneCell']) ?_
    replace K7 := Lib.hid (K7.out.row #[.int .i64 x0, .int .i64 x2, .int .i64 q3, .int .i64 0, .int .i64 0, .int .i64 0, .int .i64 0, .int .i64 0, .int .i64 0, .int .i64 0, .int .i64 0, .int .i64 0, .int .i64 0])
    have hst := Bw.setRow hS H7.out #[.int .i64 x0, .int .i64 x2, .int .i64 q3, .int .i64 0, .int .i64 0, .int .i64 0, .int .i64 0, .int .i64 0, .int .i64 0, .int .i64 0, .int .i64 0, .int .i64 0, .int .i64 0]
    refine hK.out _ _ hst (fun hS => ?_)
    clear hK K
    clear hst
    refine wpAnyH_done (by kernel_rfl) ?_ _
    rotate_left
    exact AllReadyH.nil
    exact AllReadyH.nil
    exact AllReadyH.nil
    all_goals
      go_wp2
      go_meet
      exact ⟨g7, rfl, H7.out, Lib.hid (HW.out.trans hS), Lib.hid hS, Lib.hid (by rw [HP0.out]; exact K7.out)⟩
  case rest =>
    obtain ⟨g7, rfl, hg7, HWN, HUB, K7⟩ := hcut
    clear e0 e2 e3 HP0 UPA HW
    have HW := HWN
    have HG7 := Lib.hid hg7
    have HGX := Lib.hid (show g + 1 < g7 by have := KP.out.lt; omega)
    replace KX := Lib.hid (KX.out.bw HUB.out)
    replace KP := Lib.hid (KP.out.bw HUB.out)
    clear HUB HWN hg7
    have AX := Lib.hid (fun W => axes28_any g W)
    obtain ⟨uc, huc⟩ : ∃ uc, uc = wc := ⟨_, rfl⟩
    subst huc
    go_wp2_with (go_at_call 23; (with_reducible refine Calls.mono (AX.out _) ?_); rintro e1 w3 ⟨⟨ga, rfl, hga, hpg⟩, hb1⟩; have KA := Lib.hid hpg; have HGA := Lib.hid (show g7 < ga by have := K7.out.lt; omega); replace KX := Lib.hid (KX.out.bw hb1); replace KP := Lib.hid (KP.out.bw hb1); replace K7 := Lib.hid (K7.out.bw hb1); replace HW := Lib.hid (HW.out.trans hb1); clear hb1 hpg hga)
    go_loopg [8, 36] 3 (fun gg s8 s36 wr => ∃ i : Nat, i ≤ 3 ∧ 3 - i ≤ gg ∧ s8 = .int .i64 (M i) ∧ s36 = .int .i64 i ∧ Hid (Bw w wr) ∧ Hid (Blk wr g 25 A) ∧ Hid (Blk wr (g + 1) 32 #[.int .i64 0, .int .i64 0, .int .i64 0, .int .i64 0, .int .i64 0, .int .i64 0, .int .i64 0, .int .i64 0, .int .i64 0, .int .i64 0, .int .i64 0, .int .i64 0, .int .i64 0]) ∧ Hid (Blk wr ga 54 #[.pointer (some ⟨g, 7, none⟩), .pointer (some ⟨g, 11, none⟩), .pointer (some ⟨g, 15, none⟩)]) ∧ Hid (Blk wr g7 32 (pgV (pgP C i))))
    case atStart => exact ⟨0, by omega, by omega, by rw [HM0.out], rfl, HW, KX, KP, KA, K7⟩
    case round =>
      clear KX KP KA K7 HW
      obtain ⟨i, hi, hgg, rfl, rfl, HW, KX, KP, KA, K7⟩ := hrel
      obtain ⟨wb, rfl⟩ : ∃ wb, wb = wr := ⟨_, rfl⟩
      by_cases c3 : i < 3
      case pos =>
        have c3z : (i : Int) < 3 := by omega
        have hi0 : (0 : Int) ≤ i := by omega
        obtain ⟨b0, b1, b2, b3⟩ := HBX.out i c3
        obtain ⟨hc0, hc1, hc2⟩ := HC3.out i c3
        have HSTEP := Lib.hid (pgP_step C i c3)
        rw [hc0, hc1, hc2] at HSTEP
        have HMI := Lib.hid (HMS.out i)
        have hmb := HM.out i (by omega)
        clear hc0 hc1 hc2
        have e0 := HCX.out (7 + 4 * i) (by omega)
        have e1 := HCX.out (7 + 4 * i + 1) (by omega)
        have e2 := HCX.out (7 + 4 * i + 2) (by omega)
        have e3 := HCX.out (7 + 4 * i + 3) (by omega)
        generalize X (7 + 4 * i) = x0 at *
        generalize X (7 + 4 * i + 1) = x1 at *
        generalize X (7 + 4 * i + 2) = x2 at *
        generalize X (7 + 4 * i + 3) = x3 at *
        have RN0 := Lib.hid (fun W => rounded28_any x0 4000 (by omega) (by decide) W)
        have RN1 := Lib.hid (fun W => rounded28_any x1 1000 (by omega) (by decide) W)
        have RN2 := Lib.hid (fun W => rounded28_any x2 1000 (by omega) (by decide) W)
        have SZ := Lib.hid (fun W => size28_any x3 (by omega) W)
        generalize rn x0 4000 = r0 at *
        generalize rn x1 1000 = r1 at *
        generalize rn x2 1000 = r2 at *
        generalize hnx : (x3.natAbs : Int) = nx at *
        clear hnx b0 b1 b2 b3
        generalize M i = mi at *
        have pc := KA.out.cell (ps_at g i c3)
        have HIX := Lib.hid (fun W => ix_pg g7 i c3 W)
        have H7 := Lib.hid (show g < g7 ∧ g7 < ga by have := HGX.out; have := HGA.out; omega)
        go_upto_region 11 with fail
        clear pc
        refine wp_region_held_drew (S := Kx g7 wb) (by kernel_rfl) (Kx.of_bw (Bw.drew (Bw.refl _)) (Nat.le_of_lt K7.out.lt)) (fun hS => ?_)
        replace K7 := Lib.hid (K7.out.bw (Bw.drew (Bw.refl _)))
        generalize World.drew _ = wd at hS K7 ⊢
        refine take1 (i := 0) (some 41) rfl rfl (by kernel_rfl) (by kernel_rfl) (by kernel_rfl) (fun _ _ _ _ h => h) rfl hS ?_
        apply Exists.intro
        apply And.intro
        · intro W9 hW9; have z0 := (hW9.blk KX.out (by have := H7.out; omega)).cell e0; have z1 := (hW9.blk KX.out (by have := H7.out; omega)).cell e1; have z2 := (hW9.blk KX.out (by have := H7.out; omega)).cell e2; have hix := HIX.out W9; go_simp; try with_reducible rfl
        simp only [Act.put, List.setIfInBounds_toArray, List.set_cons_zero, List.set_cons_succ]
        refine take1 (i := 1) (some 42) rfl rfl (by kernel_rfl) (by kernel_rfl) (by kernel_rfl) (fun _ _ _ _ h => h) rfl hS ?_
        apply Exists.intro
        apply And.intro
        · intro W9 hW9; have z0 := (hW9.blk KX.out (by have := H7.out; omega)).cell e0; have z1 := (hW9.blk KX.out (by have := H7.out; omega)).cell e1; have z2 := (hW9.blk KX.out (by have := H7.out; omega)).cell e2; have hix := HIX.out W9; go_simp; try with_reducible rfl
        simp only [Act.put, List.setIfInBounds_toArray, List.set_cons_zero, List.set_cons_succ]
        refine take1 (i := 2) (some 43) rfl rfl (by kernel_rfl) (by kernel_rfl) (by kernel_rfl) (fun _ _ _ _ h => h) rfl hS ?_
        apply Exists.intro
        apply And.intro
        · intro W9 hW9; have z0 := (hW9.blk KX.out (by have := H7.out; omega)).cell e0; have z1 := (hW9.blk KX.out (by have := H7.out; omega)).cell e1; have z2 := (hW9.blk KX.out (by have := H7.out; omega)).cell e2; have hix := HIX.out W9; go_simp; try with_reducible rfl
        simp only [Act.put, List.setIfInBounds_toArray, List.set_cons_zero, List.set_cons_succ]
        refine take1 (i := 3) (some 44) rfl rfl (by kernel_rfl) (by kernel_rfl) (by kernel_rfl) (fun _ _ _ _ h => h) rfl hS ?_
        apply Exists.intro
        apply And.intro
        · intro W9 hW9; have z0 := (hW9.blk KX.out (by have := H7.out; omega)).cell e0; have z1 := (hW9.blk KX.out (by have := H7.out; omega)).cell e1; have z2 := (hW9.blk KX.out (by have := H7.out; omega)).cell e2; have hix := HIX.out W9; go_simp; try with_reducible rfl
        simp only [Act.put, List.setIfInBounds_toArray, List.set_cons_zero, List.set_cons_succ]
        refine take1 (i := 4) (some 45) rfl rfl (by kernel_rfl) (by kernel_rfl) (by kernel_rfl) (fun _ _ _ _ h => h) rfl hS ?_
        apply Exists.intro
        apply And.intro
        · intro W9 hW9; have z0 := (hW9.blk KX.out (by have := H7.out; omega)).cell e0; have z1 := (hW9.blk KX.out (by have := H7.out; omega)).cell e1; have z2 := (hW9.blk KX.out (by have := H7.out; omega)).cell e2; have hix := HIX.out W9; go_simp; try with_reducible rfl
        simp only [Act.put, List.setIfInBounds_toArray, List.set_cons_zero, List.set_cons_succ]
        refine take1 (i := 5) (some 46) rfl rfl (by kernel_rfl) (by kernel_rfl) (by kernel_rfl) (fun _ _ _ _ h => h) rfl hS ?_
        refine Exists.intro (.pointer (some ⟨g7, 4 + 3 * i, none⟩)) ?_
        apply And.intro
        · intro W9 hW9; have z0 := (hW9.blk KX.out (by have := H7.out; omega)).cell e0; have z1 := (hW9.blk KX.out (by have := H7.out; omega)).cell e1; have z2 := (hW9.blk KX.out (by have := H7.out; omega)).cell e2; have hix := HIX.out W9; go_simp; (try go_bits); (try with_reducible rfl); (try trivial)
        simp only [Act.put, List.setIfInBounds_toArray, List.set_cons_zero, List.set_cons_succ]
        refine take1 (i := 6) (some 47) rfl rfl (by kernel_rfl) (by kernel_rfl) (by kernel_rfl) (fun _ _ _ _ h => h) rfl hS ?_
        apply Exists.intro
        apply And.intro
        · intro W9 hW9; have z0 := (hW9.blk KX.out (by have := H7.out; omega)).cell e0; have z1 := (hW9.blk KX.out (by have := H7.out; omega)).cell e1; have z2 := (hW9.blk KX.out (by have := H7.out; omega)).cell e2; have hix := HIX.out W9; go_simp; try with_reducible rfl
        simp only [Act.put, List.setIfInBounds_toArray, List.set_cons_zero, List.set_cons_succ]
        refine take1 (i := 7) (some 48) rfl rfl (by kernel_rfl) (by kernel_rfl) (by kernel_rfl) (fun _ _ _ _ h => h) rfl hS ?_
        apply Exists.intro
        apply And.intro
        · intro W9 hW9; have z0 := (hW9.blk KX.out (by have := H7.out; omega)).cell e0; have z1 := (hW9.blk KX.out (by have := H7.out; omega)).cell e1; have z2 := (hW9.blk KX.out (by have := H7.out; omega)).cell e2; have hix := HIX.out W9; go_simp; try with_reducible rfl
        simp only [Act.put, List.setIfInBounds_toArray, List.set_cons_zero, List.set_cons_succ]
        refine take1 (i := 8) (some 49) rfl rfl (by kernel_rfl) (by kernel_rfl) (by kernel_rfl) (fun _ _ _ _ h => h) rfl hS ?_
        apply Exists.intro
        apply And.intro
        · intro W9 hW9; have z0 := (hW9.blk KX.out (by have := H7.out; omega)).cell e0; have z1 := (hW9.blk KX.out (by have := H7.out; omega)).cell e1; have z2 := (hW9.blk KX.out (by have := H7.out; omega)).cell e2; have hix := HIX.out W9; go_simp; try with_reducible rfl
        simp only [Act.put, List.setIfInBounds_toArray, List.set_cons_zero, List.set_cons_succ]
        refine take1 (i := 9) (some 50) rfl rfl (by kernel_rfl) (by kernel_rfl) (by kernel_rfl) (fun _ _ _ _ h => h) rfl hS ?_
        refine Exists.intro (.int .i64 x0) ?_
        apply And.intro
        · intro W9 hW9; have z0 := (hW9.blk KX.out (by have := H7.out; omega)).cell e0; have z1 := (hW9.blk KX.out (by have := H7.out; omega)).cell e1; have z2 := (hW9.blk KX.out (by have := H7.out; omega)).cell e2; have hix := HIX.out W9; go_simp; (try go_bits); (try with_reducible rfl); (try trivial)
        simp only [Act.put, List.setIfInBounds_toArray, List.set_cons_zero, List.set_cons_succ]
        refine take1 (i := 11) (some 52) rfl rfl (by kernel_rfl) (by kernel_rfl) (by kernel_rfl) (fun _ _ _ _ h => h) rfl hS ?_
        apply Exists.intro
        apply And.intro
        · intro W9 hW9; have z0 := (hW9.blk KX.out (by have := H7.out; omega)).cell e0; have z1 := (hW9.blk KX.out (by have := H7.out; omega)).cell e1; have z2 := (hW9.blk KX.out (by have := H7.out; omega)).cell e2; have hix := HIX.out W9; go_simp; try with_reducible rfl
        simp only [Act.put, List.setIfInBounds_toArray, List.set_cons_zero, List.set_cons_succ]
        refine take1 (i := 12) (some 53) rfl rfl (by kernel_rfl) (by kernel_rfl) (by kernel_rfl) (fun _ _ _ _ h => h) rfl hS ?_
        apply Exists.intro
        apply And.intro
        · intro W9 hW9; have z0 := (hW9.blk KX.out (by have := H7.out; omega)).cell e0; have z1 := (hW9.blk KX.out (by have := H7.out; omega)).cell e1; have z2 := (hW9.blk KX.out (by have := H7.out; omega)).cell e2; have hix := HIX.out W9; go_simp; try with_reducible rfl
        simp only [Act.put, List.setIfInBounds_toArray, List.set_cons_zero, List.set_cons_succ]
        refine take1 (i := 13) (some 54) rfl rfl (by kernel_rfl) (by kernel_rfl) (by kernel_rfl) (fun _ _ _ _ h => h) rfl hS ?_
        apply Exists.intro
        apply And.intro
        · intro W9 hW9; have z0 := (hW9.blk KX.out (by have := H7.out; omega)).cell e0; have z1 := (hW9.blk KX.out (by have := H7.out; omega)).cell e1; have z2 := (hW9.blk KX.out (by have := H7.out; omega)).cell e2; have hix := HIX.out W9; go_simp; try with_reducible rfl
        simp only [Act.put, List.setIfInBounds_toArray, List.set_cons_zero, List.set_cons_succ]
        refine take1 (i := 14) (some 55) rfl rfl (by kernel_rfl) (by kernel_rfl) (by kernel_rfl) (fun _ _ _ _ h => h) rfl hS ?_
        refine Exists.intro (.int .i64 x1) ?_
        apply And.intro
        · intro W9 hW9; have z0 := (hW9.blk KX.out (by have := H7.out; omega)).cell e0; have z1 := (hW9.blk KX.out (by have := H7.out; omega)).cell e1; have z2 := (hW9.blk KX.out (by have := H7.out; omega)).cell e2; have hix := HIX.out W9; go_simp; (try go_bits); (try with_reducible rfl); (try trivial)
        simp only [Act.put, List.setIfInBounds_toArray, List.set_cons_zero, List.set_cons_succ]
        refine take1 (i := 16) (some 57) rfl rfl (by kernel_rfl) (by kernel_rfl) (by kernel_rfl) (fun _ _ _ _ h => h) rfl hS ?_
        apply Exists.intro
        apply And.intro
        · intro W9 hW9; have z0 := (hW9.blk KX.out (by have := H7.out; omega)).cell e0; have z1 := (hW9.blk KX.out (by have := H7.out; omega)).cell e1; have z2 := (hW9.blk KX.out (by have := H7.out; omega)).cell e2; have hix := HIX.out W9; go_simp; try with_reducible rfl
        simp only [Act.put, List.setIfInBounds_toArray, List.set_cons_zero, List.set_cons_succ]
        refine take1 (i := 17) (some 58) rfl rfl (by kernel_rfl) (by kernel_rfl) (by kernel_rfl) (fun _ _ _ _ h => h) rfl hS ?_
        apply Exists.intro
        apply And.intro
        · intro W9 hW9; have z0 := (hW9.blk KX.out (by have := H7.out; omega)).cell e0; have z1 := (hW9.blk KX.out (by have := H7.out; omega)).cell e1; have z2 := (hW9.blk KX.out (by have := H7.out; omega)).cell e2; have hix := HIX.out W9; go_simp; try with_reducible rfl
        simp only [Act.put, List.setIfInBounds_toArray, List.set_cons_zero, List.set_cons_succ]
        refine take1 (i := 18) (some 59) rfl rfl (by kernel_rfl) (by kernel_rfl) (by kernel_rfl) (fun _ _ _ _ h => h) rfl hS ?_
        apply Exists.intro
        apply And.intro
        · intro W9 hW9; have z0 := (hW9.blk KX.out (by have := H7.out; omega)).cell e0; have z1 := (hW9.blk KX.out (by have := H7.out; omega)).cell e1; have z2 := (hW9.blk KX.out (by have := H7.out; omega)).cell e2; have hix := HIX.out W9; go_simp; try with_reducible rfl
        simp only [Act.put, List.setIfInBounds_toArray, List.set_cons_zero, List.set_cons_succ]
        refine take1 (i := 19) (some 60) rfl rfl (by kernel_rfl) (by kernel_rfl) (by kernel_rfl) (fun _ _ _ _ h => h) rfl hS ?_
        refine Exists.intro (.int .i64 x2) ?_
        apply And.intro
        · intro W9 hW9; have z0 := (hW9.blk KX.out (by have := H7.out; omega)).cell e0; have z1 := (hW9.blk KX.out (by have := H7.out; omega)).cell e1; have z2 := (hW9.blk KX.out (by have := H7.out; omega)).cell e2; have hix := HIX.out W9; go_simp; (try go_bits); (try with_reducible rfl); (try trivial)
        simp only [Act.put, List.setIfInBounds_toArray, List.set_cons_zero, List.set_cons_succ]
        refine wpAnyH_ready (rs := [10]) (by kernel_rfl) (by simp) ?_
        refine AllReadyH.cons rfl (fun K hK => ?_) ?_
        go_simp
        go_wp2_with (go_at_call 29; (with_reducible refine Calls.mono (RN0.out _) ?_); rintro e1 wd ⟨rfl, hb13⟩)
        have hle := Nat.le_of_lt K7.out.lt
        replace K7 := Lib.hid (K7.out.bw hb13)
        refine hK.out _ _ (hS.trans (Kx.of_bw hb13 hle)) (fun hS => ?_)
        clear hK K
        clear hb13 hle
        refine wpAnyH_ready (rs := [15]) (by kernel_rfl) (by simp) ?_
        refine AllReadyH.cons rfl (fun K hK => ?_) ?_
        go_simp
        go_wp2_with (go_at_call 29; (with_reducible refine Calls.mono (RN1.out _) ?_); rintro e1 wd ⟨rfl, hb13⟩)
        have hle := Nat.le_of_lt K7.out.lt
        replace K7 := Lib.hid (K7.out.bw hb13)
        refine hK.out _ _ (hS.trans (Kx.of_bw hb13 hle)) (fun hS => ?_)
        clear hK K
        clear hb13 hle
        refine wpAnyH_ready (rs := [20]) (by kernel_rfl) (by simp) ?_
        refine AllReadyH.cons rfl (fun K hK => ?_) ?_
        go_simp
        go_wp2_with (go_at_call 29; (with_reducible refine Calls.mono (RN2.out _) ?_); rintro e1 wd ⟨rfl, hb13⟩)
        have hle := Nat.le_of_lt K7.out.lt
        replace K7 := Lib.hid (K7.out.bw hb13)
        refine hK.out _ _ (hS.trans (Kx.of_bw hb13 hle)) (fun hS => ?_)
        clear hK K
        clear hb13 hle
        refine take1 (i := 21) (some 62) rfl rfl (by kernel_rfl) (by kernel_rfl) (by kernel_rfl) (fun _ _ _ _ h => h) rfl hS ?_
        apply Exists.intro
        apply And.intro
        · intro W9 hW9; have z0 := (hW9.blk KX.out (by have := H7.out; omega)).cell e0; have z1 := (hW9.blk KX.out (by have := H7.out; omega)).cell e1; have z2 := (hW9.blk KX.out (by have := H7.out; omega)).cell e2; have hix := HIX.out W9; go_simp; try with_reducible rfl
        simp only [Act.put, List.setIfInBounds_toArray, List.set_cons_zero, List.set_cons_succ]
        refine take1 (i := 22) (some 63) rfl rfl (by kernel_rfl) (by kernel_rfl) (by kernel_rfl) (fun _ _ _ _ h => h) rfl hS ?_
        apply Exists.intro
        apply And.intro
        · intro W9 hW9; have z0 := (hW9.blk KX.out (by have := H7.out; omega)).cell e0; have z1 := (hW9.blk KX.out (by have := H7.out; omega)).cell e1; have z2 := (hW9.blk KX.out (by have := H7.out; omega)).cell e2; have hix := HIX.out W9; go_simp; try with_reducible rfl
        simp only [Act.put, List.setIfInBounds_toArray, List.set_cons_zero, List.set_cons_succ]
        refine wpAnyH_ready (rs := [23]) (by kernel_rfl) (by simp) ?_
        refine AllReadyH.cons rfl (fun K hK => ?_) ?_
        rw [if_pos (by rfl)]
        have hlt := K7.out.lt
        refine wp_store_at28 22 _ _ rfl g7 (4 + 3 * i) #[.int .i64 r0, .int .i64 r1, .int .i64 r2] rfl rfl 32 _ K7.out (by kernel_rfl) (show 4 + 3 * i + 3 ≤ 13 from by omega) (by simp [Value.oneCell']) ?_
        rw [HSTEP.out]
        simp only [Act.put]
        replace K7 := Lib.hid (K7.out.row (pgV (pgP C (i + 1))))
        have hst := Kx.row hlt (pgV (pgP C (i + 1)))
        refine hK.out _ _ (hS.trans hst) (fun hS => ?_)
        clear hK K
        clear hst hlt
        refine wpAnyH_done (by kernel_rfl) ?_ _
        rotate_left
        exact AllReadyH.nil
        exact AllReadyH.nil
        exact AllReadyH.nil
        exact AllReadyH.nil
        all_goals
          replace HW := Lib.hid (hS.bw HW.out (by have := HG.out; have := H7.out; omega))
          replace KX := Lib.hid (hS.blk KX.out (by have := H7.out; omega))
          replace KP := Lib.hid (hS.blk KP.out (by have := HGX.out; omega))
          replace KA := Lib.hid (hS.blk KA.out (by have := H7.out; omega))
          clear hS HSTEP
          generalize World.setRow wd _ _ = wx at *
          have lc3 := KX.out.cell e3
          go_wp2_with (go_at_call 25; (with_reducible refine Calls.mono (SZ.out _) ?_); rintro e1 w7 ⟨rfl, hb1⟩; replace KX := Lib.hid (KX.out.bw hb1); replace KP := Lib.hid (KP.out.bw hb1); replace KA := Lib.hid (KA.out.bw hb1); replace K7 := Lib.hid (K7.out.bw hb1); replace HW := Lib.hid (HW.out.trans hb1); clear hb1 lc3)
          go_roundg (3 - (i + 1))
          case measure => omega
          case rel => exact ⟨i + 1, by omega, by omega, by rw [HMI.out], by go_num, HW, KX, KP, KA, K7⟩
      case neg =>
        have c3z : ¬ (i : Int) < 3 := by omega
        obtain rfl : i = 3 := by omega
        have hmb := HM.out 3 (by omega)
        have UPB0 := fun S (hS : 0 ≤ S ∧ S ≤ 4000000000000000000) W => up28_any S 67108864000 hS (by decide) W
        generalize M 3 = m at *
        have UPB := Lib.hid (fun W => UPB0 (970142515200000 + 3600 * m * 7200 * 7200) (by omega) W)
        have HGR := Lib.hid (show (970142515200000 + 3600 * m * 7200 * 7200 + 67108864000 - 1) / 67108864000 + 1 = C 3 from by rw [HC33.out]; unfold grQ; omega)
        have hqb : 0 ≤ (970142515200000 + 3600 * m * 7200 * 7200 + 67108864000 - 1) / 67108864000 ∧ (970142515200000 + 3600 * m * 7200 * 7200 + 67108864000 - 1) / 67108864000 ≤ 100000000 := by omega
        clear UPB0
        generalize (970142515200000 + 3600 * m * 7200 * 7200 + 67108864000 - 1) / 67108864000 = gq at *
        go_upto_region 15 with fail
        have l3 := K7.out.cell (show (pgV (pgP C 3))[3]? = some (.int .i64 0) from rfl)
        have f3 := K7.out.frozen 3
        go_upto_region 16 with (go_at_call 24; (with_reducible refine Calls.mono (UPB.out _) ?_); rintro e1 w5 ⟨rfl, hb1⟩; replace f3 := hb1.frozen' l3 f3; replace l3 := hb1.cell' l3; replace K7 := Lib.hid (K7.out.bw hb1); replace KP := Lib.hid (KP.out.bw hb1); replace HW := Lib.hid (HW.out.trans hb1); clear hb1)
        rw [show gq + 1 = C 3 from HGR.out]
        have K8 := Lib.hid (show Blk (w5.setCell ⟨g7, 3, none⟩ (.int .i64 (C 3))) g7 32 (pgV C) from by have h9 := K7.out.set 3 (.int .i64 (C 3)); rw [pgP_three] at h9; exact h9)
        replace KP := Lib.hid (KP.out.set_other (show g + 1 ≠ g7 by have := HGX.out; omega) 3 (.int .i64 (C 3)))
        replace HW := Lib.hid (show Bw w (w5.setCell ⟨g7, 3, none⟩ (.int .i64 (C 3))) from Bw.setCell HW.out (show w.heap.size ≤ g7 by have := HGX.out; have := HG.out; omega) (.int .i64 (C 3)))
        clear K7 l3 f3 UPB HGR hqb
        generalize World.setCell w5 _ _ = w6 at *
        replace HWD := Lib.hid (HWD.out.bw HW.out)
        by_cases c9 : errPg C = 0
        case neg =>
          have HQ := Lib.hid (HE0.out c9)
          have c9z : (errPg C != 0) = true := by simpa using c9
          generalize errPg C = ec at *
          clear c9 HE0 HE1
          go_wp2_with (first | ((with_reducible refine at_load 32 (.tmp 7) ?_); refine wpList_load_row rfl 32 _ rfl g7 rfl 32 (pgV C) (0, 0) _ K8.out Tryd.underlying32 rfl (by kernel_rfl) ?_) | (go_at_call 30; (with_reducible refine Calls.mono (PK.out _ HWD.out) ?_); rintro e1 w7 ⟨rfl, hb1⟩; replace K8 := Lib.hid (K8.out.bw hb1); replace KP := Lib.hid (KP.out.bw hb1); replace HW := Lib.hid (HW.out.trans hb1); clear hb1) | ((with_reducible refine at_store 32 (.tmp 4) (.tmp 91) ?_); refine wpList_store_row rfl 32 (.tmp 4) (.tmp 91) rfl (g + 1) #[.int .i64 0, .int .i64 0, .int .i64 0, .int .i64 0, .int .i64 0, .int .i64 0, .int .i64 0, .int .i64 0, .int .i64 0, .int .i64 0, .int .i64 0, .int .i64 0, .int .i64 0] rfl rfl 32 _ KP.out (by kernel_rfl) rfl (by simp [Value.oneCell', pgV]) ?_))
          have F9 := KP.out.row #[.int .i64 0, .int .i64 0, .int .i64 0, .int .i64 0, .int .i64 0, .int .i64 0, .int .i64 0, .int .i64 0, .int .i64 0, .int .i64 0, .int .i64 0, .int .i64 0, .int .i64 0]
          have B9 := Bw.setRow HW.out (show w.heap.size ≤ g + 1 by have := HG.out; omega) #[.int .i64 0, .int .i64 0, .int .i64 0, .int .i64 0, .int .i64 0, .int .i64 0, .int .i64 0, .int .i64 0, .int .i64 0, .int .i64 0, .int .i64 0, .int .i64 0, .int .i64 0]
          refine bodyPost_ret (v := .tuple #[.agg #[.int .i64 0, .int .i64 0, .int .i64 0, .int .i64 0, .int .i64 0, .int .i64 0, .int .i64 0, .int .i64 0, .int .i64 0, .int .i64 0, .int .i64 0, .int .i64 0, .int .i64 0], .int .i64 5]) ?_ rfl ⟨by rw [HQ.out.1, HQ.out.2], B9⟩
          exact results_two_row (p := 4) (u := 5) rfl _ _ (g + 1) _ rfl (run_loadVar_row _ (g + 1) 32 32 #[.int .i64 0, .int .i64 0, .int .i64 0, .int .i64 0, .int .i64 0, .int .i64 0, .int .i64 0, .int .i64 0, .int .i64 0, .int .i64 0, .int .i64 0, .int .i64 0, .int .i64 0] (0, 0) _ F9 Tryd.underlying32 rfl (by kernel_rfl))
        case pos =>
          have HQ := Lib.hid (HE1.out c9)
          rw [c9] at PK
          clear c9 HE0 HE1
          go_wp2_with (first | ((with_reducible refine at_load 32 (.tmp 7) ?_); refine wpList_load_row rfl 32 _ rfl g7 rfl 32 (pgV C) (0, 0) _ K8.out Tryd.underlying32 rfl (by kernel_rfl) ?_) | (go_at_call 30; (with_reducible refine Calls.mono (PK.out _ HWD.out) ?_); rintro e1 w7 ⟨rfl, hb1⟩; replace K8 := Lib.hid (K8.out.bw hb1); replace KP := Lib.hid (KP.out.bw hb1); replace HW := Lib.hid (HW.out.trans hb1); clear hb1) | ((with_reducible refine at_store 32 (.tmp 4) (.tmp 92) ?_); refine wpList_store_row rfl 32 (.tmp 4) (.tmp 92) rfl (g + 1) (pgV C) rfl rfl 32 _ KP.out (by kernel_rfl) rfl (by simp [Value.oneCell', pgV]) ?_))
          have F9 := KP.out.row (pgV C)
          have B9 := Bw.setRow HW.out (show w.heap.size ≤ g + 1 by have := HG.out; omega) (pgV C)
          refine bodyPost_ret (v := .tuple #[.agg (pgV C), .int .i64 0]) ?_ rfl ⟨by rw [HQ.out.1, HQ.out.2], B9⟩
          exact results_two_row (p := 4) (u := 5) rfl _ _ (g + 1) _ rfl (run_loadVar_row _ (g + 1) 32 32 (pgV C) (0, 0) _ F9 Tryd.underlying32 rfl (by kernel_rfl))
end Go.Proofs.Sky
