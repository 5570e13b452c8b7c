/-
  lemmas for the theorems of this claim. No conditions beyond those written in the statements.
-/
import Derived.Test.YtgeojbmhkmmedaaDoorEA28
set_option linter.unusedVariables false
set_option linter.unusedSimpArgs false
set_option linter.unnecessarySimpa false
namespace Go.Proofs.Sky
open Go Go.RowKit Go.Shelf
set_option maxHeartbeats 4000000
set_option maxRecDepth 8000
/-! chapter 28's cards: the reference's Coarse -/
theorem max3 (a b c : Int) (w : World) : Sem.run Tryd.prog (Builtin.max_ #[3, 3, 3] 3 #[.int .i64 a, .int .i64 b, .int .i64 c]) w = .ok (.int .i64 (mx28 (mx28 a b) c)) w := by
  unfold mx28
  kernel_rfl
theorem mK_three (X : Nat → Int) : mK X 3 = mx28 (mx28 ((X 10).natAbs : Int) ((X 14).natAbs : Int)) ((X 18).natAbs : Int) := by
  show mx28 (mx28 (mx28 0 ((X 10).natAbs : Int)) ((X 14).natAbs : Int)) ((X 18).natAbs : Int) = _
  have : mx28 0 ((X 10).natAbs : Int) = ((X 10).natAbs : Int) := by unfold mx28; split <;> omega
  rw [this]
theorem RCoarse_err (X : Nat → Int) (h : Int) (hE : errE X ≠ 0) (w : World) : Calls Tryd.prog 9 #[.agg (eV X), .int .i64 h] w fun e w' => e = .returned (.tuple #[.agg (pgV (cgX X h)), .int .i64 (cgE X h)]) ∧ Bw w w' := by
  have CK := Lib.hid (fun W => rCheck26_any X W)
  have KX := Lib.hid ((Blk.new w 25 (eV X)).alloc (.cells #[.int .i64 0, .int .i64 0, .int .i64 0, .int .i64 0, .int .i64 0, .int .i64 0, .int .i64 0, .int .i64 0, .int .i64 0, .int .i64 0, .int .i64 0, .int .i64 0, .int .i64 0] 32))
  have KP := Lib.hid (show Blk ((w.alloc (.cells (eV X) 25)).alloc (.cells #[.int .i64 0, .int .i64 0, .int .i64 0, .int .i64 0, .int .i64 0, .int .i64 0, .int .i64 0, .int .i64 0, .int .i64 0, .int .i64 0, .int .i64 0, .int .i64 0, .int .i64 0] 32)) (w.heap.size + 1) 32 #[.int .i64 0, .int .i64 0, .int .i64 0, .int .i64 0, .int .i64 0, .int .i64 0, .int .i64 0, .int .i64 0, .int .i64 0, .int .i64 0, .int .i64 0, .int .i64 0, .int .i64 0] from by have h9 := Blk.new (w.alloc (.cells (eV X) 25)) 32 #[.int .i64 0, .int .i64 0, .int .i64 0, .int .i64 0, .int .i64 0, .int .i64 0, .int .i64 0, .int .i64 0, .int .i64 0, .int .i64 0, .int .i64 0, .int .i64 0, .int .i64 0]; simp only [World.size_alloc] at h9; exact h9)
  have HW := Lib.hid (Bw.alloc (Bw.alloc (Bw.refl w) (.cells (eV X) 25)) (.cells #[.int .i64 0, .int .i64 0, .int .i64 0, .int .i64 0, .int .i64 0, .int .i64 0, .int .i64 0, .int .i64 0, .int .i64 0, .int .i64 0, .int .i64 0, .int .i64 0, .int .i64 0] 32))
  have HSZ : Hid ((Tryd.prog.info? 25).map (·.size) = some (eV X).size) := Lib.hid (by kernel_rfl)
  obtain ⟨g, hg⟩ : ∃ g, w.heap.size = g := ⟨_, rfl⟩
  rw [hg] at KX KP
  have HG := Lib.hid hg
  have HCX := Lib.hid (fun i (hi : i < 19) => eV_at X i hi)
  have HC : Hid (cgE X h = errE X) := Lib.hid (by unfold cgE; rw [if_neg hE])
  have HR : Hid (pgV (cgX X h) = #[.int .i64 0, .int .i64 0, .int .i64 0, .int .i64 0, .int .i64 0, .int .i64 0, .int .i64 0, .int .i64 0, .int .i64 0, .int .i64 0, .int .i64 0, .int .i64 0, .int .i64 0]) := Lib.hid (by unfold cgX; rw [HC.out, if_neg hE]; rfl)
  have HN := Lib.hid hE
  rw [HC.out, HR.out]
  clear hE HC HR
  generalize errE X = er at *
  obtain ⟨A, hA⟩ : ∃ A, A = eV X := ⟨_, rfl⟩
  rw [← hA] at CK KX KP HW HSZ HCX ⊢
  clear hA
  go_enter Tryd.func9, Tryd.ntmps9
  go_upto_region 1 with fail
  obtain ⟨W0, hW0⟩ : ∃ W0, (w.alloc (.cells A 25)).alloc (.cells #[.int .i64 0, .int .i64 0, .int .i64 0, .int .i64 0, .int .i64 0, .int .i64 0, .int .i64 0, .int .i64 0, .int .i64 0, .int .i64 0, .int .i64 0, .int .i64 0, .int .i64 0] 32) = W0 := ⟨_, rfl⟩
  rw [hW0] at KX KP HW ⊢
  clear hW0 hg
  go_upto_region 2 with (first | ((with_reducible refine at_load 25 (.tmp 2) ?_); refine wpList_load_row rfl 25 _ rfl g rfl 25 A (0, 0) _ KX.out Tryd.underlying25 rfl HSZ.out ?_) | (go_at_call 27; (with_reducible refine Calls.mono (CK.out _) ?_); rintro e1 w1 ⟨rfl, hb1⟩; replace KX := Lib.hid (KX.out.bw hb1); replace KP := Lib.hid (KP.out.bw hb1); replace HW := Lib.hid (HW.out.trans hb1); clear hb1))
  have c1z : (er != 0) = true := by simpa using HN.out
  go_wp2_with ((with_reducible refine at_store 32 (.tmp 4) (.tmp 16) ?_); refine wpList_store_row rfl 32 (.tmp 4) (.tmp 16) rfl (g + 1) #[.int .i64 0, .int .i64 0, .int .i64 0, .int .i64 0, .int .i64 0, .int .i64 0, .int .i64 0, .int .i64 0, .int .i64 0, .int .i64 0, .int .i64 0, .int .i64 0, .int .i64 0] rfl rfl 32 _ KP.out (by kernel_rfl) rfl (by simp [Value.oneCell', pgV]) ?_)
  have F9 := KP.out.row #[.int .i64 0, .int .i64 0, .int .i64 0, .int .i64 0, .int .i64 0, .int .i64 0, .int .i64 0, .int .i64 0, .int .i64 0, .int .i64 0, .int .i64 0, .int .i64 0, .int .i64 0]
  have B9 := Bw.setRow HW.out (show w.heap.size ≤ g + 1 by have := HG.out; omega) #[.int .i64 0, .int .i64 0, .int .i64 0, .int .i64 0, .int .i64 0, .int .i64 0, .int .i64 0, .int .i64 0, .int .i64 0, .int .i64 0, .int .i64 0, .int .i64 0, .int .i64 0]
  refine bodyPost_ret (v := .tuple #[.agg #[.int .i64 0, .int .i64 0, .int .i64 0, .int .i64 0, .int .i64 0, .int .i64 0, .int .i64 0, .int .i64 0, .int .i64 0, .int .i64 0, .int .i64 0, .int .i64 0, .int .i64 0], .int .i64 er]) ?_ rfl ⟨rfl, B9⟩
  exact results_two_row (p := 4) (u := 5) rfl _ _ (g + 1) _ rfl (run_loadVar_row _ (g + 1) 32 32 #[.int .i64 0, .int .i64 0, .int .i64 0, .int .i64 0, .int .i64 0, .int .i64 0, .int .i64 0, .int .i64 0, .int .i64 0, .int .i64 0, .int .i64 0, .int .i64 0, .int .i64 0] (0, 0) _ F9 Tryd.underlying32 rfl (by kernel_rfl))
theorem RCoarse_hours (X : Nat → Int) (h : Int) (hE : errE X = 0) (h1 : h ≠ 1) (h2 : h ≠ 2) (w : World) : Calls Tryd.prog 9 #[.agg (eV X), .int .i64 h] w fun e w' => e = .returned (.tuple #[.agg (pgV (cgX X h)), .int .i64 (cgE X h)]) ∧ Bw w w' := by
  have CK := Lib.hid (fun W => rCheck26_any X W)
  have KX := Lib.hid ((Blk.new w 25 (eV X)).alloc (.cells #[.int .i64 0, .int .i64 0, .int .i64 0, .int .i64 0, .int .i64 0, .int .i64 0, .int .i64 0, .int .i64 0, .int .i64 0, .int .i64 0, .int .i64 0, .int .i64 0, .int .i64 0] 32))
  have KP := Lib.hid (show Blk ((w.alloc (.cells (eV X) 25)).alloc (.cells #[.int .i64 0, .int .i64 0, .int .i64 0, .int .i64 0, .int .i64 0, .int .i64 0, .int .i64 0, .int .i64 0, .int .i64 0, .int .i64 0, .int .i64 0, .int .i64 0, .int .i64 0] 32)) (w.heap.size + 1) 32 #[.int .i64 0, .int .i64 0, .int .i64 0, .int .i64 0, .int .i64 0, .int .i64 0, .int .i64 0, .int .i64 0, .int .i64 0, .int .i64 0, .int .i64 0, .int .i64 0, .int .i64 0] from by have h9 := Blk.new (w.alloc (.cells (eV X) 25)) 32 #[.int .i64 0, .int .i64 0, .int .i64 0, .int .i64 0, .int .i64 0, .int .i64 0, .int .i64 0, .int .i64 0, .int .i64 0, .int .i64 0, .int .i64 0, .int .i64 0, .int .i64 0]; simp only [World.size_alloc] at h9; exact h9)
  have HW := Lib.hid (Bw.alloc (Bw.alloc (Bw.refl w) (.cells (eV X) 25)) (.cells #[.int .i64 0, .int .i64 0, .int .i64 0, .int .i64 0, .int .i64 0, .int .i64 0, .int .i64 0, .int .i64 0, .int .i64 0, .int .i64 0, .int .i64 0, .int .i64 0, .int .i64 0] 32))
  have HSZ : Hid ((Tryd.prog.info? 25).map (·.size) = some (eV X).size) := Lib.hid (by kernel_rfl)
  obtain ⟨g, hg⟩ : ∃ g, w.heap.size = g := ⟨_, rfl⟩
  rw [hg] at KX KP
  have HG := Lib.hid hg
  have HCX := Lib.hid (fun i (hi : i < 19) => eV_at X i hi)
  have HC : Hid (cgE X h = 2) := Lib.hid (by unfold cgE; rw [if_pos hE, if_neg (by omega)])
  have HR : Hid (pgV (cgX X h) = #[.int .i64 0, .int .i64 0, .int .i64 0, .int .i64 0, .int .i64 0, .int .i64 0, .int .i64 0, .int .i64 0, .int .i64 0, .int .i64 0, .int .i64 0, .int .i64 0, .int .i64 0]) := Lib.hid (by unfold cgX; rw [HC.out, if_neg (by decide)]; rfl)
  rw [HC.out, HR.out]
  rw [hE] at CK
  clear hE HC HR
  have HN1 := Lib.hid h1
  have HN2 := Lib.hid h2
  clear h1 h2
  obtain ⟨A, hA⟩ : ∃ A, A = eV X := ⟨_, rfl⟩
  rw [← hA] at CK KX KP HW HSZ HCX ⊢
  clear hA
  go_enter Tryd.func9, Tryd.ntmps9
  go_upto_region 1 with fail
  obtain ⟨W0, hW0⟩ : ∃ W0, (w.alloc (.cells A 25)).alloc (.cells #[.int .i64 0, .int .i64 0, .int .i64 0, .int .i64 0, .int .i64 0, .int .i64 0, .int .i64 0, .int .i64 0, .int .i64 0, .int .i64 0, .int .i64 0, .int .i64 0, .int .i64 0] 32) = W0 := ⟨_, rfl⟩
  rw [hW0] at KX KP HW ⊢
  clear hW0 hg
  go_upto_region 2 with (first | ((with_reducible refine at_load 25 (.tmp 2) ?_); refine wpList_load_row rfl 25 _ rfl g rfl 25 A (0, 0) _ KX.out Tryd.underlying25 rfl HSZ.out ?_) | (go_at_call 27; (with_reducible refine Calls.mono (CK.out _) ?_); rintro e1 w1 ⟨rfl, hb1⟩; replace KX := Lib.hid (KX.out.bw hb1); replace KP := Lib.hid (KP.out.bw hb1); replace HW := Lib.hid (HW.out.trans hb1); clear hb1))
  have c1z : (h != 1) = true := by simpa using HN1.out
  have c2z : (h != 2) = true := by simpa using HN2.out
  go_wp2_with ((with_reducible refine at_store 32 (.tmp 4) (.tmp 24) ?_); refine wpList_store_row rfl 32 (.tmp 4) (.tmp 24) rfl (g + 1) #[.int .i64 0, .int .i64 0, .int .i64 0, .int .i64 0, .int .i64 0, .int .i64 0, .int .i64 0, .int .i64 0, .int .i64 0, .int .i64 0, .int .i64 0, .int .i64 0, .int .i64 0] rfl rfl 32 _ KP.out (by kernel_rfl) rfl (by simp [Value.oneCell', pgV]) ?_)
  have F9 := KP.out.row #[.int .i64 0, .int .i64 0, .int .i64 0, .int .i64 0, .int .i64 0, .int .i64 0, .int .i64 0, .int .i64 0, .int .i64 0, .int .i64 0, .int .i64 0, .int .i64 0, .int .i64 0]
  have B9 := Bw.setRow HW.out (show w.heap.size ≤ g + 1 by have := HG.out; omega) #[.int .i64 0, .int .i64 0, .int .i64 0, .int .i64 0, .int .i64 0, .int .i64 0, .int .i64 0, .int .i64 0, .int .i64 0, .int .i64 0, .int .i64 0, .int .i64 0, .int .i64 0]
  refine bodyPost_ret (v := .tuple #[.agg #[.int .i64 0, .int .i64 0, .int .i64 0, .int .i64 0, .int .i64 0, .int .i64 0, .int .i64 0, .int .i64 0, .int .i64 0, .int .i64 0, .int .i64 0, .int .i64 0, .int .i64 0], .int .i64 2]) ?_ rfl ⟨rfl, B9⟩
  exact results_two_row (p := 4) (u := 5) rfl _ _ (g + 1) _ rfl (run_loadVar_row _ (g + 1) 32 32 #[.int .i64 0, .int .i64 0, .int .i64 0, .int .i64 0, .int .i64 0, .int .i64 0, .int .i64 0, .int .i64 0, .int .i64 0, .int .i64 0, .int .i64 0, .int .i64 0, .int .i64 0] (0, 0) _ F9 Tryd.underlying32 rfl (by kernel_rfl))
theorem RCoarse_1 (X : Nat → Int) (h : Int) (hH : h = 1) (hE : errE X = 0) (w : World) : Calls Tryd.prog 9 #[.agg (eV X), .int .i64 h] w fun e w' => e = .returned (.tuple #[.agg (pgV (cgX X h)), .int .i64 (cgE X h)]) ∧ Bw w w' := by
  have CK := Lib.hid (fun W => rCheck26_any X W)
  have KX := Lib.hid ((Blk.new w 25 (eV X)).alloc (.cells #[.int .i64 0, .int .i64 0, .int .i64 0, .int .i64 0, .int .i64 0, .int .i64 0, .int .i64 0, .int .i64 0, .int .i64 0, .int .i64 0, .int .i64 0, .int .i64 0, .int .i64 0] 32))
  have KP := Lib.hid (show Blk ((w.alloc (.cells (eV X) 25)).alloc (.cells #[.int .i64 0, .int .i64 0, .int .i64 0, .int .i64 0, .int .i64 0, .int .i64 0, .int .i64 0, .int .i64 0, .int .i64 0, .int .i64 0, .int .i64 0, .int .i64 0, .int .i64 0] 32)) (w.heap.size + 1) 32 #[.int .i64 0, .int .i64 0, .int .i64 0, .int .i64 0, .int .i64 0, .int .i64 0, .int .i64 0, .int .i64 0, .int .i64 0, .int .i64 0, .int .i64 0, .int .i64 0, .int .i64 0] from by have h9 := Blk.new (w.alloc (.cells (eV X) 25)) 32 #[.int .i64 0, .int .i64 0, .int .i64 0, .int .i64 0, .int .i64 0, .int .i64 0, .int .i64 0, .int .i64 0, .int .i64 0, .int .i64 0, .int .i64 0, .int .i64 0, .int .i64 0]; simp only [World.size_alloc] at h9; exact h9)
  have HW := Lib.hid (Bw.alloc (Bw.alloc (Bw.refl w) (.cells (eV X) 25)) (.cells #[.int .i64 0, .int .i64 0, .int .i64 0, .int .i64 0, .int .i64 0, .int .i64 0, .int .i64 0, .int .i64 0, .int .i64 0, .int .i64 0, .int .i64 0, .int .i64 0, .int .i64 0] 32))
  have HSZ : Hid ((Tryd.prog.info? 25).map (·.size) = some (eV X).size) := Lib.hid (by kernel_rfl)
  obtain ⟨g, hg⟩ : ∃ g, w.heap.size = g := ⟨_, rfl⟩
  rw [hg] at KX KP
  have HG := Lib.hid hg
  have HCX := Lib.hid (fun i (hi : i < 19) => eV_at X i hi)
  subst hH
  have R0 := Lib.hid (fun W (hB : Blk W g 25 (eV X)) => ax_r7 hB)
  have R1 := Lib.hid (fun W (hB : Blk W g 25 (eV X)) => ax_r11 hB)
  have R2 := Lib.hid (fun W (hB : Blk W g 25 (eV X)) => ax_r15 hB)
  obtain ⟨hx0, hx2, hx3⟩ := hd_bd hE
  obtain ⟨a0, a1, a2, a3⟩ := ax_bd hE 0 (by omega)
  obtain ⟨b0, b1, b2, b3⟩ := ax_bd hE 1 (by omega)
  obtain ⟨c0, c1, c2, c3⟩ := ax_bd hE 2 (by omega)
  simp only [Nat.mul_zero, Nat.add_zero, Nat.mul_one, show 7 + 4 * 2 = 15 from rfl, show 7 + 4 = 11 from rfl, show 7 + 1 = 8 from rfl, show 7 + 2 = 9 from rfl, show 7 + 3 = 10 from rfl, show 11 + 1 = 12 from rfl, show 11 + 2 = 13 from rfl, show 11 + 3 = 14 from rfl, show 15 + 1 = 16 from rfl, show 15 + 2 = 17 from rfl, show 15 + 3 = 18 from rfl] at a0 a1 a2 a3 b0 b1 b2 b3 c0 c1 c2 c3
  have AB0 := Lib.hid (fun W => abs28_any (X 10) (by omega) W)
  have AB1 := Lib.hid (fun W => abs28_any (X 14) (by omega) W)
  have AB2 := Lib.hid (fun W => abs28_any (X 18) (by omega) W)
  have CO0 := Lib.hid (fun W => rcoarse28_any (X 7) (X 8) (X 9) (X 10) a0 a1 a2 W)
  have CO1 := Lib.hid (fun W => rcoarse28_any (X 11) (X 12) (X 13) (X 14) b0 b1 b2 W)
  have CO2 := Lib.hid (fun W => rcoarse28_any (X 15) (X 16) (X 17) (X 18) c0 c1 c2 W)
  unfold crV at CO0 CO1 CO2
  have hmb := mK_bd (X := X) (fun j hj => (ax_bd hE j hj).2.2.2) 3 (by omega)
  have HMX := Lib.hid (mK_three X)
  obtain ⟨C, hC⟩ : ∃ C, C = pgF X 1 := ⟨_, rfl⟩
  have HE0 : Hid (errPg C ≠ 0 → cgE X 1 = 5 ∧ pgV (cgX X 1) = #[.int .i64 0, .int .i64 0, .int .i64 0, .int .i64 0, .int .i64 0, .int .i64 0, .int .i64 0, .int .i64 0, .int .i64 0, .int .i64 0, .int .i64 0, .int .i64 0, .int .i64 0]) := Lib.hid (fun q => by
    have e : cgE X 1 = 5 := by unfold cgE; rw [if_pos hE, if_pos (by decide), ← hC, if_neg q]
    refine ⟨e, ?_⟩
    unfold cgX
    rw [e, if_neg (by decide)]
    rfl)
  have HE1 : Hid (errPg C = 0 → cgE X 1 = 0 ∧ cgX X 1 = C) := Lib.hid (fun q => by
    have e : cgE X 1 = 0 := by unfold cgE; rw [if_pos hE, if_pos (by decide), ← hC, if_pos q]
    refine ⟨e, ?_⟩
    unfold cgX
    rw [e, if_pos rfl, hC])
  have HP0 := Lib.hid (show pgV C = #[.int .i64 (X 0), .int .i64 (X 2), .int .i64 (33 + (X 3 + 999) / 1000), .int .i64 (grQ 1 (mK X 3)), .int .i64 (rn (X 7) 4000), .int .i64 (rn (X 8) 1000), .int .i64 (rn (X 9) 1000), .int .i64 (rn (X 11) 4000), .int .i64 (rn (X 12) 1000), .int .i64 (rn (X 13) 1000), .int .i64 (rn (X 15) 4000), .int .i64 (rn (X 16) 1000), .int .i64 (rn (X 17) 1000)] from by rw [hC]; rfl)
  have PK := Lib.hid (fun W => rPgCheck_any C W)
  rw [hE] at CK
  clear hE hC a0 a1 a2 a3 b0 b1 b2 b3 c0 c1 c2 c3
  generalize hcx : cgX X 1 = CX at *
  generalize hce : cgE X 1 = CE at *
  clear hcx hce
  generalize mK X 3 = m at *
  obtain ⟨A, hA⟩ : ∃ A, A = eV X := ⟨_, rfl⟩
  rw [← hA] at CK KX KP HW HSZ HCX R0 R1 R2 ⊢
  clear hA
  go_enter Tryd.func9, Tryd.ntmps9
  go_upto_region 1 with fail
  obtain ⟨W0, hW0⟩ : ∃ W0, (w.alloc (.cells A 25)).alloc (.cells #[.int .i64 0, .int .i64 0, .int .i64 0, .int .i64 0, .int .i64 0, .int .i64 0, .int .i64 0, .int .i64 0, .int .i64 0, .int .i64 0, .int .i64 0, .int .i64 0, .int .i64 0] 32) = W0 := ⟨_, rfl⟩
  rw [hW0] at KX KP HW ⊢
  clear hW0 hg
  go_upto_region 2 with (first | ((with_reducible refine at_load 25 (.tmp 2) ?_); refine wpList_load_row rfl 25 _ rfl g rfl 25 A (0, 0) _ KX.out Tryd.underlying25 rfl HSZ.out ?_) | (go_at_call 27; (with_reducible refine Calls.mono (CK.out _) ?_); rintro e1 w1 ⟨rfl, hb1⟩; replace KX := Lib.hid (KX.out.bw hb1); replace KP := Lib.hid (KP.out.bw hb1); replace HW := Lib.hid (HW.out.trans hb1); clear hb1))
  go_upto_region 7 with fail
  have e0 := HCX.out 0 (by omega)
  have e2 := HCX.out 2 (by omega)
  have e3 := HCX.out 3 (by omega)
  have e10 := HCX.out 10 (by omega)
  have e14 := HCX.out 14 (by omega)
  have e18 := HCX.out 18 (by omega)
  generalize rn (X 7) 4000 = p00 at *
  generalize rn (X 8) 1000 = p01 at *
  generalize rn (X 9) 1000 = p02 at *
  generalize rn (X 11) 4000 = p10 at *
  generalize rn (X 12) 1000 = p11 at *
  generalize rn (X 13) 1000 = p12 at *
  generalize rn (X 15) 4000 = p20 at *
  generalize rn (X 16) 1000 = p21 at *
  generalize rn (X 17) 1000 = p22 at *
  generalize X 0 = x0 at *
  generalize X 2 = x2 at *
  generalize X 3 = x3 at *
  generalize X 7 = y00 at *
  generalize X 8 = y01 at *
  generalize X 9 = y02 at *
  generalize X 10 = y03 at *
  generalize X 11 = y10 at *
  generalize X 12 = y11 at *
  generalize X 13 = y12 at *
  generalize X 14 = y13 at *
  generalize X 15 = y20 at *
  generalize X 16 = y21 at *
  generalize X 17 = y22 at *
  generalize X 18 = y23 at *
  generalize (y03.natAbs : Int) = n0 at *
  generalize (y13.natAbs : Int) = n1 at *
  generalize (y23.natAbs : Int) = n2 at *
  obtain ⟨ua, hua⟩ : ∃ ua, ua = w1 := ⟨_, rfl⟩
  subst hua
  refine wp_region_held_drew (S := Bw ua) (by kernel_rfl) (Bw.drew (Bw.refl _)) (fun hS => ?_)
  generalize World.drew _ = wd at hS ⊢
  refine take1 (i := 0) (some 27) rfl rfl (by kernel_rfl) (by kernel_rfl) (by kernel_rfl) (fun _ _ _ _ h => h) rfl hS ?_
  apply Exists.intro
  apply And.intro
  · intro W9 hW9; have y0 := (KX.out.bw hW9).cell e10; have y2 := (KX.out.bw hW9).cell e14; have y3 := (KX.out.bw hW9).cell e18; go_simp; try with_reducible rfl
  simp only [Act.put, List.setIfInBounds_toArray, List.set_cons_zero, List.set_cons_succ]
  refine take1 (i := 1) (some 28) rfl rfl (by kernel_rfl) (by kernel_rfl) (by kernel_rfl) (fun _ _ _ _ h => h) rfl hS ?_
  apply Exists.intro
  apply And.intro
  · intro W9 hW9; have y0 := (KX.out.bw hW9).cell e10; have y2 := (KX.out.bw hW9).cell e14; have y3 := (KX.out.bw hW9).cell e18; go_simp; try with_reducible rfl
  simp only [Act.put, List.setIfInBounds_toArray, List.set_cons_zero, List.set_cons_succ]
  refine take1 (i := 2) (some 29) rfl rfl (by kernel_rfl) (by kernel_rfl) (by kernel_rfl) (fun _ _ _ _ h => h) rfl hS ?_
  refine Exists.intro (.int .i64 y03) ?_
  apply And.intro
  · intro W9 hW9; have y0 := (KX.out.bw hW9).cell e10; have y2 := (KX.out.bw hW9).cell e14; have y3 := (KX.out.bw hW9).cell e18; go_simp; (try go_bits); (try with_reducible rfl); (try trivial)
  simp only [Act.put, List.setIfInBounds_toArray, List.set_cons_zero, List.set_cons_succ]
  refine take1 (i := 4) (some 31) rfl rfl (by kernel_rfl) (by kernel_rfl) (by kernel_rfl) (fun _ _ _ _ h => h) rfl hS ?_
  apply Exists.intro
  apply And.intro
  · intro W9 hW9; have y0 := (KX.out.bw hW9).cell e10; have y2 := (KX.out.bw hW9).cell e14; have y3 := (KX.out.bw hW9).cell e18; go_simp; try with_reducible rfl
  simp only [Act.put, List.setIfInBounds_toArray, List.set_cons_zero, List.set_cons_succ]
  refine take1 (i := 5) (some 32) rfl rfl (by kernel_rfl) (by kernel_rfl) (by kernel_rfl) (fun _ _ _ _ h => h) rfl hS ?_
  apply Exists.intro
  apply And.intro
  · intro W9 hW9; have y0 := (KX.out.bw hW9).cell e10; have y2 := (KX.out.bw hW9).cell e14; have y3 := (KX.out.bw hW9).cell e18; go_simp; try with_reducible rfl
  simp only [Act.put, List.setIfInBounds_toArray, List.set_cons_zero, List.set_cons_succ]
  refine take1 (i := 6) (some 33) rfl rfl (by kernel_rfl) (by kernel_rfl) (by kernel_rfl) (fun _ _ _ _ h => h) rfl hS ?_
  refine Exists.intro (.int .i64 y13) ?_
  apply And.intro
  · intro W9 hW9; have y0 := (KX.out.bw hW9).cell e10; have y2 := (KX.out.bw hW9).cell e14; have y3 := (KX.out.bw hW9).cell e18; go_simp; (try go_bits); (try with_reducible rfl); (try trivial)
  simp only [Act.put, List.setIfInBounds_toArray, List.set_cons_zero, List.set_cons_succ]
  refine take1 (i := 8) (some 35) rfl rfl (by kernel_rfl) (by kernel_rfl) (by kernel_rfl) (fun _ _ _ _ h => h) rfl hS ?_
  apply Exists.intro
  apply And.intro
  · intro W9 hW9; have y0 := (KX.out.bw hW9).cell e10; have y2 := (KX.out.bw hW9).cell e14; have y3 := (KX.out.bw hW9).cell e18; go_simp; try with_reducible rfl
  simp only [Act.put, List.setIfInBounds_toArray, List.set_cons_zero, List.set_cons_succ]
  refine take1 (i := 9) (some 36) rfl rfl (by kernel_rfl) (by kernel_rfl) (by kernel_rfl) (fun _ _ _ _ h => h) rfl hS ?_
  apply Exists.intro
  apply And.intro
  · intro W9 hW9; have y0 := (KX.out.bw hW9).cell e10; have y2 := (KX.out.bw hW9).cell e14; have y3 := (KX.out.bw hW9).cell e18; go_simp; try with_reducible rfl
  simp only [Act.put, List.setIfInBounds_toArray, List.set_cons_zero, List.set_cons_succ]
  refine take1 (i := 10) (some 37) rfl rfl (by kernel_rfl) (by kernel_rfl) (by kernel_rfl) (fun _ _ _ _ h => h) rfl hS ?_
  refine Exists.intro (.int .i64 y23) ?_
  apply And.intro
  · intro W9 hW9; have y0 := (KX.out.bw hW9).cell e10; have y2 := (KX.out.bw hW9).cell e14; have y3 := (KX.out.bw hW9).cell e18; go_simp; (try go_bits); (try with_reducible rfl); (try trivial)
  simp only [Act.put, List.setIfInBounds_toArray, List.set_cons_zero, List.set_cons_succ]
  refine wpAnyH_ready (rs := [3]) (by kernel_rfl) (by simp) ?_
  refine AllReadyH.cons rfl (fun K hK => ?_) ?_
  go_simp
  go_wp2_with (go_at_call 31; (with_reducible refine Calls.mono (AB0.out _) ?_); rintro e1 w7 ⟨rfl, hb13⟩)
  refine hK.out _ _ (hS.trans hb13) (fun hS => ?_)
  clear hK K
  clear hb13
  refine wpAnyH_ready (rs := [7]) (by kernel_rfl) (by simp) ?_
  refine AllReadyH.cons rfl (fun K hK => ?_) ?_
  go_simp
  go_wp2_with (go_at_call 31; (with_reducible refine Calls.mono (AB1.out _) ?_); rintro e1 w7 ⟨rfl, hb13⟩)
  refine hK.out _ _ (hS.trans hb13) (fun hS => ?_)
  clear hK K
  clear hb13
  refine wpAnyH_ready (rs := [11]) (by kernel_rfl) (by simp) ?_
  refine AllReadyH.cons rfl (fun K hK => ?_) ?_
  go_simp
  go_wp2_with (go_at_call 31; (with_reducible refine Calls.mono (AB2.out _) ?_); rintro e1 w7 ⟨rfl, hb13⟩)
  refine hK.out _ _ (hS.trans hb13) (fun hS => ?_)
  clear hK K
  clear hb13
  refine wpAnyH_ready (rs := [12]) (by kernel_rfl) (by simp) ?_
  refine AllReadyH.cons rfl (fun K hK => ?_) ?_
  have hmx := fun W => max3 n0 n1 n2 W
  go_simp
  refine hK.out _ _ hS (fun hS => ?_)
  clear hK K
  clear hmx
  refine take1 (i := 13) (some 8) rfl rfl (by kernel_rfl) (by kernel_rfl) (by kernel_rfl) (fun _ _ _ _ h => h) rfl hS ?_
  apply Exists.intro
  apply And.intro
  · intro W9 hW9; have y0 := (KX.out.bw hW9).cell e10; have y2 := (KX.out.bw hW9).cell e14; have y3 := (KX.out.bw hW9).cell e18; go_simp; try with_reducible rfl
  simp only [Act.put, List.setIfInBounds_toArray, List.set_cons_zero, List.set_cons_succ]
  refine wpAnyH_done (by kernel_rfl) ?_ _
  rotate_left
  exact AllReadyH.nil
  exact AllReadyH.nil
  exact AllReadyH.nil
  exact AllReadyH.nil
  replace HW := Lib.hid (HW.out.trans hS)
  replace KX := Lib.hid (KX.out.bw hS)
  replace KP := Lib.hid (KP.out.bw hS)
  have hmm := HMX.out.symm
  rw [hmm]
  clear hS hmm HMX AB0 AB1 AB2 e10 e14 e18
  have hq1 : (x3 + 999).tdiv 1000 = (x3 + 999) / 1000 := Int.tdiv_eq_ediv_of_nonneg (by omega)
  have hqb : 0 ≤ (x3 + 999) / 1000 ∧ (x3 + 999) / 1000 ≤ 100 := by omega
  have wx3 : 0 ≤ x3 ∧ x3 ≤ 65535 := hx3
  clear hx0 hx2 hx3
  generalize (x3 + 999) / 1000 = q1 at *
  obtain ⟨N, hN⟩ : ∃ N : Int, N = 545536344064000 + 3600 * m * 3600 * 3600 := ⟨_, rfl⟩
  have hNb : 0 ≤ N ∧ N ≤ 4000000000000000000 := by omega
  have hq4 : (N + 67108864000 - 1).tdiv 67108864000 = (N + 67108864000 - 1) / 67108864000 := Int.tdiv_eq_ediv_of_nonneg (by omega)
  have HQ4 := Lib.hid (show grQ 1 m = (N + 67108864000 - 1) / 67108864000 from by rw [hN]; unfold grQ; omega)
  rw [HQ4.out] at HP0
  have hq4b : 0 ≤ (N + 67108864000 - 1) / 67108864000 ∧ (N + 67108864000 - 1) / 67108864000 ≤ 100000000 := by omega
  generalize (N + 67108864000 - 1) / 67108864000 = q4 at *
  go_upto_region 10 with fail
  rw [← hN]
  clear hN HQ4 hmb
  obtain ⟨ub, hub⟩ : ∃ ub, ub = w7 := ⟨_, rfl⟩
  subst hub
  go_cut [11] from 54 (fun s11 wc => ∃ g11, s11 = .pointer (some ⟨g11, 0, none⟩) ∧ ub.heap.size ≤ g11 ∧ Hid (Bw w wc) ∧ Hid (Bw ub wc) ∧ Hid (Blk wc g11 32 (pgV C)))
  case first =>
    refine wp_region_held_drew (S := Bw ub) (by kernel_rfl) (Bw.drew (Bw.refl _)) (fun hS => ?_)
    generalize World.drew _ = wd at hS ⊢
    refine take1 (i := 0) (some 54) rfl rfl (by kernel_rfl) (by kernel_rfl) (by kernel_rfl) (fun _ _ _ _ h => h) rfl hS ?_
    apply Exists.intro
    apply And.intro
    · intro W9 hW9; have y0 := (KX.out.bw hW9).cell e0; have y2 := (KX.out.bw hW9).cell e2; have y3 := (KX.out.bw hW9).cell e3; go_simp; try with_reducible rfl
    simp only [Act.put, List.setIfInBounds_toArray, List.set_cons_zero, List.set_cons_succ]
    refine take1 (i := 1) (some 55) rfl rfl (by kernel_rfl) (by kernel_rfl) (by kernel_rfl) (fun _ _ _ _ h => h) rfl hS ?_
    refine Exists.intro (.int .i64 x0) ?_
    apply And.intro
    · intro W9 hW9; have y0 := (KX.out.bw hW9).cell e0; have y2 := (KX.out.bw hW9).cell e2; have y3 := (KX.out.bw hW9).cell e3; go_simp; (try go_bits); (try with_reducible rfl); (try trivial)
    simp only [Act.put, List.setIfInBounds_toArray, List.set_cons_zero, List.set_cons_succ]
    refine take1 (i := 2) (some 56) rfl rfl (by kernel_rfl) (by kernel_rfl) (by kernel_rfl) (fun _ _ _ _ h => h) rfl hS ?_
    apply Exists.intro
    apply And.intro
    · intro W9 hW9; have y0 := (KX.out.bw hW9).cell e0; have y2 := (KX.out.bw hW9).cell e2; have y3 := (KX.out.bw hW9).cell e3; go_simp; try with_reducible rfl
    simp only [Act.put, List.setIfInBounds_toArray, List.set_cons_zero, List.set_cons_succ]
    refine take1 (i := 3) (some 57) rfl rfl (by kernel_rfl) (by kernel_rfl) (by kernel_rfl) (fun _ _ _ _ h => h) rfl hS ?_
    refine Exists.intro (.int .i64 x2) ?_
    apply And.intro
    · intro W9 hW9; have y0 := (KX.out.bw hW9).cell e0; have y2 := (KX.out.bw hW9).cell e2; have y3 := (KX.out.bw hW9).cell e3; go_simp; (try go_bits); (try with_reducible rfl); (try trivial)
    simp only [Act.put, List.setIfInBounds_toArray, List.set_cons_zero, List.set_cons_succ]
    refine take1 (i := 4) (some 58) rfl rfl (by kernel_rfl) (by kernel_rfl) (by kernel_rfl) (fun _ _ _ _ h => h) rfl hS ?_
    apply Exists.intro
    apply And.intro
    · intro W9 hW9; have y0 := (KX.out.bw hW9).cell e0; have y2 := (KX.out.bw hW9).cell e2; have y3 := (KX.out.bw hW9).cell e3; go_simp; try with_reducible rfl
    simp only [Act.put, List.setIfInBounds_toArray, List.set_cons_zero, List.set_cons_succ]
    refine take1 (i := 5) (some 59) rfl rfl (by kernel_rfl) (by kernel_rfl) (by kernel_rfl) (fun _ _ _ _ h => h) rfl hS ?_
    refine Exists.intro (.int .i64 x3) ?_
    apply And.intro
    · intro W9 hW9; have y0 := (KX.out.bw hW9).cell e0; have y2 := (KX.out.bw hW9).cell e2; have y3 := (KX.out.bw hW9).cell e3; go_simp; (try go_bits); (try with_reducible rfl); (try trivial)
    simp only [Act.put, List.setIfInBounds_toArray, List.set_cons_zero, List.set_cons_succ]
    refine take1 (i := 6) (some 60) rfl rfl (by kernel_rfl) (by kernel_rfl) (by kernel_rfl) (fun _ _ _ _ h => h) rfl hS ?_
    refine Exists.intro (.int .i64 (x3 + 999)) ?_
    apply And.intro
    · intro W9 hW9; have y0 := (KX.out.bw hW9).cell e0; have y2 := (KX.out.bw hW9).cell e2; have y3 := (KX.out.bw hW9).cell e3; go_simp; (try go_bits); (try with_reducible rfl); (try trivial)
    simp only [Act.put, List.setIfInBounds_toArray, List.set_cons_zero, List.set_cons_succ]
    refine take1 (i := 7) (some 61) rfl rfl (by kernel_rfl) (by kernel_rfl) (by kernel_rfl) (fun _ _ _ _ h => h) rfl hS ?_
    refine Exists.intro (.int .i64 q1) ?_
    apply And.intro
    · intro W9 hW9; have y0 := (KX.out.bw hW9).cell e0; have y2 := (KX.out.bw hW9).cell e2; have y3 := (KX.out.bw hW9).cell e3; go_simp; (try go_bits); (try with_reducible rfl); (try trivial)
    simp only [Act.put, List.setIfInBounds_toArray, List.set_cons_zero, List.set_cons_succ]
    refine take1 (i := 8) (some 62) rfl rfl (by kernel_rfl) (by kernel_rfl) (by kernel_rfl) (fun _ _ _ _ h => h) rfl hS ?_
    refine Exists.intro (.int .i64 (33 + q1)) ?_
    apply And.intro
    · intro W9 hW9; have y0 := (KX.out.bw hW9).cell e0; have y2 := (KX.out.bw hW9).cell e2; have y3 := (KX.out.bw hW9).cell e3; go_simp; (try go_bits); (try with_reducible rfl); (try trivial)
    simp only [Act.put, List.setIfInBounds_toArray, List.set_cons_zero, List.set_cons_succ]
    refine take1 (i := 9) (some 63) rfl rfl (by kernel_rfl) (by kernel_rfl) (by kernel_rfl) (fun _ _ _ _ h => h) rfl hS ?_
    apply Exists.intro
    apply And.intro
    · intro W9 hW9; have y0 := (KX.out.bw hW9).cell e0; have y2 := (KX.out.bw hW9).cell e2; have y3 := (KX.out.bw hW9).cell e3; go_simp; try with_reducible rfl
    simp only [Act.put, List.setIfInBounds_toArray, List.set_cons_zero, List.set_cons_succ]
    refine take1 (i := 10) (some 64) rfl rfl (by kernel_rfl) (by kernel_rfl) (by kernel_rfl) (fun _ _ _ _ h => h) rfl hS ?_
    apply Exists.intro
    apply And.intro
    · intro W9 hW9; have y0 := (KX.out.bw hW9).cell e0; have y2 := (KX.out.bw hW9).cell e2; have y3 := (KX.out.bw hW9).cell e3; go_simp; try with_reducible rfl
    simp only [Act.put, List.setIfInBounds_toArray, List.set_cons_zero, List.set_cons_succ]
    refine take1 (i := 11) (some 65) rfl rfl (by kernel_rfl) (by kernel_rfl) (by kernel_rfl) (fun _ _ _ _ h => h) rfl hS ?_
    refine Exists.intro (.int .i64 (N + 67108864000)) ?_
    apply And.intro
    · intro W9 hW9; have y0 := (KX.out.bw hW9).cell e0; have y2 := (KX.out.bw hW9).cell e2; have y3 := (KX.out.bw hW9).cell e3; go_simp; (try go_bits); (try with_reducible rfl); (try trivial)
    simp only [Act.put, List.setIfInBounds_toArray, List.set_cons_zero, List.set_cons_succ]
    refine take1 (i := 12) (some 66) rfl rfl (by kernel_rfl) (by kernel_rfl) (by kernel_rfl) (fun _ _ _ _ h => h) rfl hS ?_
    refine Exists.intro (.int .i64 (N + 67108864000 - 1)) ?_
    apply And.intro
    · intro W9 hW9; have y0 := (KX.out.bw hW9).cell e0; have y2 := (KX.out.bw hW9).cell e2; have y3 := (KX.out.bw hW9).cell e3; go_simp; (try go_bits); (try with_reducible rfl); (try trivial)
    simp only [Act.put, List.setIfInBounds_toArray, List.set_cons_zero, List.set_cons_succ]
    refine take1 (i := 13) (some 67) rfl rfl (by kernel_rfl) (by kernel_rfl) (by kernel_rfl) (fun _ _ _ _ h => h) rfl hS ?_
    apply Exists.intro
    apply And.intro
    · intro W9 hW9; have y0 := (KX.out.bw hW9).cell e0; have y2 := (KX.out.bw hW9).cell e2; have y3 := (KX.out.bw hW9).cell e3; go_simp; try with_reducible rfl
    simp only [Act.put, List.setIfInBounds_toArray, List.set_cons_zero, List.set_cons_succ]
    refine take1 (i := 14) (some 68) rfl rfl (by kernel_rfl) (by kernel_rfl) (by kernel_rfl) (fun _ _ _ _ h => h) rfl hS ?_
    refine Exists.intro (.int .i64 q4) ?_
    apply And.intro
    · intro W9 hW9; have y0 := (KX.out.bw hW9).cell e0; have y2 := (KX.out.bw hW9).cell e2; have y3 := (KX.out.bw hW9).cell e3; go_simp; (try go_bits); (try with_reducible rfl); (try trivial)
    simp only [Act.put, List.setIfInBounds_toArray, List.set_cons_zero, List.set_cons_succ]
    refine take1 (i := 15) (some 69) rfl rfl (by kernel_rfl) (by kernel_rfl) (by kernel_rfl) (fun _ _ _ _ h => h) rfl hS ?_
    apply Exists.intro
    apply And.intro
    · intro W9 hW9; have y0 := (KX.out.bw hW9).cell e0; have y2 := (KX.out.bw hW9).cell e2; have y3 := (KX.out.bw hW9).cell e3; go_simp; try with_reducible rfl
    simp only [Act.put, List.setIfInBounds_toArray, List.set_cons_zero, List.set_cons_succ]
    refine take1 (i := 16) (some 70) rfl rfl (by kernel_rfl) (by kernel_rfl) (by kernel_rfl) (fun _ _ _ _ h => h) rfl hS ?_
    refine Exists.intro (.agg #[.int .i64 y00, .int .i64 y01, .int .i64 y02, .int .i64 y03]) ?_
    apply And.intro
    · intro W9 hW9; have y0 := (KX.out.bw hW9).cell e0; have y2 := (KX.out.bw hW9).cell e2; have y3 := (KX.out.bw hW9).cell e3; exact run_load_ax _ rfl g 7 rfl (R0.out _ (KX.out.bw hW9))
    simp only [Act.put, List.setIfInBounds_toArray, List.set_cons_zero, List.set_cons_succ]
    refine take1 (i := 18) (some 72) rfl rfl (by kernel_rfl) (by kernel_rfl) (by kernel_rfl) (fun _ _ _ _ h => h) rfl hS ?_
    apply Exists.intro
    apply And.intro
    · intro W9 hW9; have y0 := (KX.out.bw hW9).cell e0; have y2 := (KX.out.bw hW9).cell e2; have y3 := (KX.out.bw hW9).cell e3; go_simp; try with_reducible rfl
    simp only [Act.put, List.setIfInBounds_toArray, List.set_cons_zero, List.set_cons_succ]
    refine take1 (i := 19) (some 73) rfl rfl (by kernel_rfl) (by kernel_rfl) (by kernel_rfl) (fun _ _ _ _ h => h) rfl hS ?_
    refine Exists.intro (.agg #[.int .i64 y10, .int .i64 y11, .int .i64 y12, .int .i64 y13]) ?_
    apply And.intro
    · intro W9 hW9; have y0 := (KX.out.bw hW9).cell e0; have y2 := (KX.out.bw hW9).cell e2; have y3 := (KX.out.bw hW9).cell e3; exact run_load_ax _ rfl g 11 rfl (R1.out _ (KX.out.bw hW9))
    simp only [Act.put, List.setIfInBounds_toArray, List.set_cons_zero, List.set_cons_succ]
    refine take1 (i := 21) (some 75) rfl rfl (by kernel_rfl) (by kernel_rfl) (by kernel_rfl) (fun _ _ _ _ h => h) rfl hS ?_
    apply Exists.intro
    apply And.intro
    · intro W9 hW9; have y0 := (KX.out.bw hW9).cell e0; have y2 := (KX.out.bw hW9).cell e2; have y3 := (KX.out.bw hW9).cell e3; go_simp; try with_reducible rfl
    simp only [Act.put, List.setIfInBounds_toArray, List.set_cons_zero, List.set_cons_succ]
    refine take1 (i := 22) (some 76) rfl rfl (by kernel_rfl) (by kernel_rfl) (by kernel_rfl) (fun _ _ _ _ h => h) rfl hS ?_
    refine Exists.intro (.agg #[.int .i64 y20, .int .i64 y21, .int .i64 y22, .int .i64 y23]) ?_
    apply And.intro
    · intro W9 hW9; have y0 := (KX.out.bw hW9).cell e0; have y2 := (KX.out.bw hW9).cell e2; have y3 := (KX.out.bw hW9).cell e3; exact run_load_ax _ rfl g 15 rfl (R2.out _ (KX.out.bw hW9))
    simp only [Act.put, List.setIfInBounds_toArray, List.set_cons_zero, List.set_cons_succ]
    refine wpAnyH_ready (rs := [17, 25]) (by kernel_rfl) (by simp) ?_
    refine AllReadyH.cons rfl (fun K hK => ?_) ?_
    go_simp
    go_wp2_with (go_at_call 32; (with_reducible refine Calls.mono (CO0.out _) ?_); rintro e1 w7 ⟨rfl, hb13⟩)
    refine hK.out _ _ (hS.trans hb13) (fun hS => ?_)
    clear hK K
    clear hb13
    refine wpAnyH_ready (rs := [20, 25]) (by kernel_rfl) (by simp) ?_
    refine AllReadyH.cons rfl (fun K hK => ?_) ?_
    go_simp
    go_wp2_with (go_at_call 32; (with_reducible refine Calls.mono (CO1.out _) ?_); rintro e1 w7 ⟨rfl, hb13⟩)
    refine hK.out _ _ (hS.trans hb13) (fun hS => ?_)
    clear hK K
    clear hb13
    refine wpAnyH_ready (rs := [23, 25]) (by kernel_rfl) (by simp) ?_
    refine AllReadyH.cons rfl (fun K hK => ?_) ?_
    go_simp
    go_wp2_with (go_at_call 32; (with_reducible refine Calls.mono (CO2.out _) ?_); rintro e1 w7 ⟨rfl, hb13⟩)
    refine hK.out _ _ (hS.trans hb13) (fun hS => ?_)
    clear hK K
    clear hb13
    refine take1 (i := 24) (some 78) rfl rfl (by kernel_rfl) (by kernel_rfl) (by kernel_rfl) (fun _ _ _ _ h => h) rfl hS ?_
    refine Exists.intro (.agg #[.int .i64 x0, .int .i64 x2, .int .i64 (33 + q1), .int .i64 q4, .int .i64 p00, .int .i64 p01, .int .i64 p02, .int .i64 p10, .int .i64 p11, .int .i64 p12, .int .i64 p20, .int .i64 p21, .int .i64 p22]) ?_
    apply And.intro
    · intro W9 hW9; have y0 := (KX.out.bw hW9).cell e0; have y2 := (KX.out.bw hW9).cell e2; have y3 := (KX.out.bw hW9).cell e3; go_simp; (try go_bits); (try with_reducible rfl); (try trivial)
    simp only [Act.put, List.setIfInBounds_toArray, List.set_cons_zero, List.set_cons_succ]
    refine wpAnyH_ready (rs := [25]) (by kernel_rfl) (by simp) ?_
    refine AllReadyH.cons rfl (fun K hK => ?_) ?_
    rw [if_pos (by rfl)]
    refine wp_alloc_new28 32 rfl (some 11) rfl _ (zeroPg _) ?_
    intro g11 w6 hg9 hN hbw
    simp only [Act.put, List.setIfInBounds_toArray, List.set_cons_zero, List.set_cons_succ]
    have K11 := Lib.hid hN
    have H11 := Lib.hid (Nat.le_trans hS.size hg9)
    clear hN
    refine hK.out _ _ (hS.trans hbw) (fun hS => ?_)
    clear hK K
    clear hbw hg9
    refine wpAnyH_ready (rs := [26]) (by kernel_rfl) (by simp) ?_
    refine AllReadyH.cons rfl (fun K hK => ?_) ?_
    rw [if_pos (by rfl)]
    refine wp_store_row0 32 _ _ rfl rfl g11 #[.int .i64 x0, .int .i64 x2, .int .i64 (33 + q1), .int .i64 q4, .int .i64 p00, .int .i64 p01, .int .i64 p02, .int .i64 p10, .int .i64 p11, .int .i64 p12, .int .i64 p20, .int .i64 p21, .int .i64 p22] rfl rfl 32 #[.int .i64 0, .int .i64 0, .int .i64 0, .int .i64 0, .int .i64 0, .int .i64 0, .int .i64 0, .int .i64 0, .int .i64 0, .int .i64 0, .int .i64 0, .int .i64 0, .int .i64 0] K11.out (by kernel_rfl) (by simp) (by simp [Value.oneCell']) ?_
    replace K11 := Lib.hid (K11.out.row #[.int .i64 x0, .int .i64 x2, .int .i64 (33 + q1), .int .i64 q4, .int .i64 p00, .int .i64 p01, .int .i64 p02, .int .i64 p10, .int .i64 p11, .int .i64 p12, .int .i64 p20, .int .i64 p21, .int .i64 p22])
    have hst := Bw.setRow hS H11.out #[.int .i64 x0, .int .i64 x2, .int .i64 (33 + q1), .int .i64 q4, .int .i64 p00, .int .i64 p01, .int .i64 p02, .int .i64 p10, .int .i64 p11, .int .i64 p12, .int .i64 p20, .int .i64 p21, .int .i64 p22]
    refine hK.out _ _ hst (fun hS => ?_)
    clear hK K
    clear hst
    refine wpAnyH_done (by kernel_rfl) ?_ _
    rotate_left
    exact AllReadyH.nil
    exact AllReadyH.nil
    refine AllReadyH.cons rfl (fun K hK => ?_) ?_
    rw [if_pos (by rfl)]
    refine wp_alloc_new28 32 rfl (some 11) rfl _ (zeroPg _) ?_
    intro g11 w6 hg9 hN hbw
    simp only [Act.put, List.setIfInBounds_toArray, List.set_cons_zero, List.set_cons_succ]
    have K11 := Lib.hid hN
    have H11 := Lib.hid (Nat.le_trans hS.size hg9)
    clear hN
    refine hK.out _ _ (hS.trans hbw) (fun hS => ?_)
    clear hK K
    clear hbw hg9
    refine wpAnyH_ready (rs := [23]) (by kernel_rfl) (by simp) ?_
    refine AllReadyH.cons rfl (fun K hK => ?_) ?_
    go_simp
    go_wp2_with (go_at_call 32; (with_reducible refine Calls.mono (CO2.out _) ?_); rintro e1 w7 ⟨rfl, hb13⟩)
    replace K11 := Lib.hid (K11.out.bw hb13)
    refine hK.out _ _ (hS.trans hb13) (fun hS => ?_)
    clear hK K
    clear hb13
    refine take1 (i := 24) (some 78) rfl rfl (by kernel_rfl) (by kernel_rfl) (by kernel_rfl) (fun _ _ _ _ h => h) rfl hS ?_
    refine Exists.intro (.agg #[.int .i64 x0, .int .i64 x2, .int .i64 (33 + q1), .int .i64 q4, .int .i64 p00, .int .i64 p01, .int .i64 p02, .int .i64 p10, .int .i64 p11, .int .i64 p12, .int .i64 p20, .int .i64 p21, .int .i64 p22]) ?_
    apply And.intro
    · intro W9 hW9; have y0 := (KX.out.bw hW9).cell e0; have y2 := (KX.out.bw hW9).cell e2; have y3 := (KX.out.bw hW9).cell e3; go_simp; (try go_bits); (try with_reducible rfl); (try trivial)
    simp only [Act.put, List.setIfInBounds_toArray, List.set_cons_zero, List.set_cons_succ]
    refine wpAnyH_ready (rs := [26]) (by kernel_rfl) (by simp) ?_
    refine AllReadyH.cons rfl (fun K hK => ?_) ?_
    rw [if_pos (by rfl)]
    refine wp_store_row0 32 _ _ rfl rfl g11 #[.int .i64 x0, .int .i64 x2, .int .i64 (33 + q1), .int .i64 q4, .int .i64 p00, .int .i64 p01, .int .i64 p02, .int .i64 p10, .int .i64 p11, .int .i64 p12, .int .i64 p20, .int .i64 p21, .int .i64 p22] rfl rfl 32 #[.int .i64 0, .int .i64 0, .int .i64 0, .int .i64 0, .int .i64 0, .int .i64 0, .int .i64 0, .int .i64 0, .int .i64 0, .int .i64 0, .int .i64 0, .int .i64 0, .int .i64 0] K11.out (by kernel_rfl) (by simp) (by simp [Value.oneCell']) ?_
    replace K11 := Lib.hid (K11.out.row #[.int .i64 x0, .int .i64 x2, .int .i64 (33 + q1), .int .i64 q4, .int .i64 p00, .int .i64 p01, .int .i64 p02, .int .i64 p10, .int .i64 p11, .int .i64 p12, .int .i64 p20, .int .i64 p21, .int .i64 p22])
    have hst := Bw.setRow hS H11.out #[.int .i64 x0, .int .i64 x2, .int .i64 (33 + q1), .int .i64 q4, .int .i64 p00, .int .i64 p01, .int .i64 p02, .int .i64 p10, .int .i64 p11, .int .i64 p12, .int .i64 p20, .int .i64 p21, .int .i64 p22]
    refine hK.out _ _ hst (fun hS => ?_)
    clear hK K
    clear hst
    refine wpAnyH_done (by kernel_rfl) ?_ _
    rotate_left
    exact AllReadyH.nil
    exact AllReadyH.nil
    exact AllReadyH.nil
    refine AllReadyH.cons rfl (fun K hK => ?_) ?_
    rw [if_pos (by rfl)]
    refine wp_alloc_new28 32 rfl (some 11) rfl _ (zeroPg _) ?_
    intro g11 w6 hg9 hN hbw
    simp only [Act.put, List.setIfInBounds_toArray, List.set_cons_zero, List.set_cons_succ]
    have K11 := Lib.hid hN
    have H11 := Lib.hid (Nat.le_trans hS.size hg9)
    clear hN
    refine hK.out _ _ (hS.trans hbw) (fun hS => ?_)
    clear hK K
    clear hbw hg9
    refine wpAnyH_ready (rs := [20]) (by kernel_rfl) (by simp) ?_
    refine AllReadyH.cons rfl (fun K hK => ?_) ?_
    go_simp
    go_wp2_with (go_at_call 32; (with_reducible refine Calls.mono (CO1.out _) ?_); rintro e1 w7 ⟨rfl, hb13⟩)
    replace K11 := Lib.hid (K11.out.bw hb13)
    refine hK.out _ _ (hS.trans hb13) (fun hS => ?_)
    clear hK K
    clear hb13
    refine wpAnyH_ready (rs := [23]) (by kernel_rfl) (by simp) ?_
    refine AllReadyH.cons rfl (fun K hK => ?_) ?_
    go_simp
    go_wp2_with (go_at_call 32; (with_reducible refine Calls.mono (CO2.out _) ?_); rintro e1 w7 ⟨rfl, hb13⟩)
    replace K11 := Lib.hid (K11.out.bw hb13)
    refine hK.out _ _ (hS.trans hb13) (fun hS => ?_)
    clear hK K
    clear hb13
    refine take1 (i := 24) (some 78) rfl rfl (by kernel_rfl) (by kernel_rfl) (by kernel_rfl) (fun _ _ _ _ h => h) rfl hS ?_
    refine Exists.intro (.agg #[.int .i64 x0, .int .i64 x2, .int .i64 (33 + q1), .int .i64 q4, .int .i64 p00, .int .i64 p01, .int .i64 p02, .int .i64 p10, .int .i64 p11, .int .i64 p12, .int .i64 p20, .int .i64 p21, .int .i64 p22]) ?_
    apply And.intro
    · intro W9 hW9; have y0 := (KX.out.bw hW9).cell e0; have y2 := (KX.out.bw hW9).cell e2; have y3 := (KX.out.bw hW9).cell e3; go_simp; (try go_bits); (try with_reducible rfl); (try trivial)
    simp only [Act.put, List.setIfInBounds_toArray, List.set_cons_zero, List.set_cons_succ]
    refine wpAnyH_ready (rs := [26]) (by kernel_rfl) (by simp) ?_
    refine AllReadyH.cons rfl (fun K hK => ?_) ?_
    rw [if_pos (by rfl)]
    refine wp_store_row0 32 _ _ rfl rfl g11 #[.int .i64 x0, .int .i64 x2, .int .i64 (33 + q1), .int .i64 q4, .int .i64 p00, .int .i64 p01, .int .i64 p02, .int .i64 p10, .int .i64 p11, .int .i64 p12, .int .i64 p20, .int .i64 p21, .int .i64 p22] rfl rfl 32 #[.int .i64 0, .int .i64 0, .int .i64 0, .int .i64 0, .int .i64 0, .int .i64 0, .int .i64 0, .int .i64 0, .int .i64 0, .int .i64 0, .int .i64 0, .int .i64 0, .int .i64 0] K11.out (by kernel_rfl) (by simp) (by simp [Value.oneCell']) ?_
    replace K11 := Lib.hid (K11.out.row #[.int .i64 x0, .int .i64 x2, .int .i64 (33 + q1), .int .i64 q4, .int .i64 p00, .int .i64 p01, .int .i64 p02, .int .i64 p10, .int .i64 p11, .int .i64 p12, .int .i64 p20, .int .i64 p21, .int .i64 p22])
    have hst := Bw.setRow hS H11.out #[.int .i64 x0, .int .i64 x2, .int .i64 (33 + q1), .int .i64 q4, .int .i64 p00, .int .i64 p01, .int .i64 p02, .int .i64 p10, .int .i64 p11, .int .i64 p12, .int .i64 p20, .int .i64 p21, .int .i64 p22]
    refine hK.out _ _ hst (fun hS => ?_)
    clear hK K
    clear hst
    refine wpAnyH_done (by kernel_rfl) ?_ _
    rotate_left
    exact AllReadyH.nil
    exact AllReadyH.nil
    exact AllReadyH.nil
    exact AllReadyH.nil
    refine AllReadyH.cons rfl (fun K hK => ?_) ?_
    rw [if_pos (by rfl)]
    refine wp_alloc_new28 32 rfl (some 11) rfl _ (zeroPg _) ?_
    intro g11 w6 hg9 hN hbw
    simp only [Act.put, List.setIfInBounds_toArray, List.set_cons_zero, List.set_cons_succ]
    have K11 := Lib.hid hN
    have H11 := Lib.hid (Nat.le_trans hS.size hg9)
    clear hN
    refine hK.out _ _ (hS.trans hbw) (fun hS => ?_)
    clear hK K
    clear hbw hg9
    refine wpAnyH_ready (rs := [17]) (by kernel_rfl) (by simp) ?_
    refine AllReadyH.cons rfl (fun K hK => ?_) ?_
    go_simp
    go_wp2_with (go_at_call 32; (with_reducible refine Calls.mono (CO0.out _) ?_); rintro e1 w7 ⟨rfl, hb13⟩)
    replace K11 := Lib.hid (K11.out.bw hb13)
    refine hK.out _ _ (hS.trans hb13) (fun hS => ?_)
    clear hK K
    clear hb13
    refine wpAnyH_ready (rs := [20]) (by kernel_rfl) (by simp) ?_
    refine AllReadyH.cons rfl (fun K hK => ?_) ?_
    go_simp
    go_wp2_with (go_at_call 32; (with_reducible refine Calls.mono (CO1.out _) ?_); rintro e1 w7 ⟨rfl, hb13⟩)
    replace K11 := Lib.hid (K11.out.bw hb13)
    refine hK.out _ _ (hS.trans hb13) (fun hS => ?_)
    clear hK K
    clear hb13
    refine wpAnyH_ready (rs := [23]) (by kernel_rfl) (by simp) ?_
    refine AllReadyH.cons rfl (fun K hK => ?_) ?_
    go_simp
    go_wp2_with (go_at_call 32; (with_reducible refine Calls.mono (CO2.out _) ?_); rintro e1 w7 ⟨rfl, hb13⟩)
    replace K11 := Lib.hid (K11.out.bw hb13)
    refine hK.out _ _ (hS.trans hb13) (fun hS => ?_)
    clear hK K
    clear hb13
    refine take1 (i := 24) (some 78) rfl rfl (by kernel_rfl) (by kernel_rfl) (by kernel_rfl) (fun _ _ _ _ h => h) rfl hS ?_
    refine Exists.intro (.agg #[.int .i64 x0, .int .i64 x2, .int .i64 (33 + q1), .int .i64 q4, .int .i64 p00, .int .i64 p01, .int .i64 p02, .int .i64 p10, .int .i64 p11, .int .i64 p12, .int .i64 p20, .int .i64 p21, .int .i64 p22]) ?_
    apply And.intro
    · intro W9 hW9; have y0 := (KX.out.bw hW9).cell e0; have y2 := (KX.out.bw hW9).cell e2; have y3 := (KX.out.bw hW9).cell e3; go_simp; (try go_bits); (try with_reducible rfl); (try trivial)
    simp only [Act.put, List.setIfInBounds_toArray, List.set_cons_zero, List.set_cons_succ]
    refine wpAnyH_ready (rs := [26]) (by kernel_rfl) (by simp) ?_
    refine AllReadyH.cons rfl (fun K hK => ?_) ?_
    rw [if_pos (by rfl)]
    refine wp_store_row0 32 _ _ rfl rfl g11 #[.int .i64 x0, .int .i64 x2, .int .i64 (33 + q1), .int .i64 q4, .int .i64 p00, .int .i64 p01, .int .i64 p02, .int .i64 p10, .int .i64 p11, .int .i64 p12, .int .i64 p20, .int .i64 p21, .int .i64 p22] rfl rfl 32 #[.int .i64 0, .int .i64 0, .int .i64 0, .int .i64 0, .int .i64 0, .int .i64 0, .int .i64 0, .int .i64 0, .int .i64 0, .int .i64 0, .int .i64 0, .int .i64 0, .int .i64 0] K11.out (by kernel_rfl) (by simp) (by simp [Value.oneCell']) ?_
    replace K11 := Lib.hid (K11.out.row #[.int .i64 x0, .int .i64 x2, .int .i64 (33 + q1), .int .i64 q4, .int .i64 p00, .int .i64 p01, .int .i64 p02, .int .i64 p10, .int .i64 p11, .int .i64 p12, .int .i64 p20, .int .i64 p21, .int .i64 p22])
    have hst := Bw.setRow hS H11.out #[.int .i64 x0, .int .i64 x2, .int .i64 (33 + q1), .int .i64 q4, .int .i64 p00, .int .i64 p01, .int .i64 p02, .int .i64 p10, .int .i64 p11, .int .i64 p12, .int .i64 p20, .int .i64 p21, .int .i64 p22]
    refine hK.out _ _ hst (fun hS => ?_)
    clear hK K
    clear hst
    refine wpAnyH_done (by kernel_rfl) ?_ _
    rotate_left
    exact AllReadyH.nil
    exact AllReadyH.nil
    exact AllReadyH.nil
    exact AllReadyH.nil
    exact AllReadyH.nil
    all_goals
      go_wp2
      go_meet
      exact ⟨g11, rfl, H11.out, Lib.hid (HW.out.trans hS), Lib.hid hS, Lib.hid (by rw [HP0.out]; exact K11.out)⟩
  case rest =>
    obtain ⟨g11, rfl, hg11, HWN, HUB, K8⟩ := hcut
    clear e0 e2 e3 HP0 HW CO0 CO1 CO2 R0 R1 R2 hq1 hq4 hqb hNb wx3 KX
    have HW := HWN
    have HGX := Lib.hid (show g + 1 < g11 by have := KP.out.lt; omega)
    replace KP := Lib.hid (KP.out.bw HUB.out)
    clear HUB HWN hg11
    by_cases c9 : errPg C = 0
    case neg =>
      have HQ := Lib.hid (HE0.out c9)
      have c9z : (errPg C != 0) = true := by simpa using c9
      generalize errPg C = ec at *
      clear c9 HE0 HE1
      go_wp2_with (first | ((with_reducible refine at_load 32 (.tmp 11) ?_); refine wpList_load_row rfl 32 _ rfl g11 rfl 32 (pgV C) (0, 0) _ K8.out Tryd.underlying32 rfl (by kernel_rfl) ?_) | (go_at_call 33; (with_reducible refine Calls.mono (PK.out _) ?_); rintro e1 w7 ⟨rfl, hb1⟩; replace K8 := Lib.hid (K8.out.bw hb1); replace KP := Lib.hid (KP.out.bw hb1); replace HW := Lib.hid (HW.out.trans hb1); clear hb1) | ((with_reducible refine at_store 32 (.tmp 4) (.tmp 82) ?_); refine wpList_store_row rfl 32 (.tmp 4) (.tmp 82) rfl (g + 1) #[.int .i64 0, .int .i64 0, .int .i64 0, .int .i64 0, .int .i64 0, .int .i64 0, .int .i64 0, .int .i64 0, .int .i64 0, .int .i64 0, .int .i64 0, .int .i64 0, .int .i64 0] rfl rfl 32 _ KP.out (by kernel_rfl) rfl (by simp [Value.oneCell', pgV]) ?_))
      have F9 := KP.out.row #[.int .i64 0, .int .i64 0, .int .i64 0, .int .i64 0, .int .i64 0, .int .i64 0, .int .i64 0, .int .i64 0, .int .i64 0, .int .i64 0, .int .i64 0, .int .i64 0, .int .i64 0]
      have B9 := Bw.setRow HW.out (show w.heap.size ≤ g + 1 by have := HG.out; omega) #[.int .i64 0, .int .i64 0, .int .i64 0, .int .i64 0, .int .i64 0, .int .i64 0, .int .i64 0, .int .i64 0, .int .i64 0, .int .i64 0, .int .i64 0, .int .i64 0, .int .i64 0]
      refine bodyPost_ret (v := .tuple #[.agg #[.int .i64 0, .int .i64 0, .int .i64 0, .int .i64 0, .int .i64 0, .int .i64 0, .int .i64 0, .int .i64 0, .int .i64 0, .int .i64 0, .int .i64 0, .int .i64 0, .int .i64 0], .int .i64 5]) ?_ rfl ⟨by rw [HQ.out.1, HQ.out.2], B9⟩
      exact results_two_row (p := 4) (u := 5) rfl _ _ (g + 1) _ rfl (run_loadVar_row _ (g + 1) 32 32 #[.int .i64 0, .int .i64 0, .int .i64 0, .int .i64 0, .int .i64 0, .int .i64 0, .int .i64 0, .int .i64 0, .int .i64 0, .int .i64 0, .int .i64 0, .int .i64 0, .int .i64 0] (0, 0) _ F9 Tryd.underlying32 rfl (by kernel_rfl))
    case pos =>
      have HQ := Lib.hid (HE1.out c9)
      rw [c9] at PK
      clear c9 HE0 HE1
      go_wp2_with (first | ((with_reducible refine at_load 32 (.tmp 11) ?_); refine wpList_load_row rfl 32 _ rfl g11 rfl 32 (pgV C) (0, 0) _ K8.out Tryd.underlying32 rfl (by kernel_rfl) ?_) | (go_at_call 33; (with_reducible refine Calls.mono (PK.out _) ?_); rintro e1 w7 ⟨rfl, hb1⟩; replace K8 := Lib.hid (K8.out.bw hb1); replace KP := Lib.hid (KP.out.bw hb1); replace HW := Lib.hid (HW.out.trans hb1); clear hb1) | ((with_reducible refine at_store 32 (.tmp 4) (.tmp 83) ?_); refine wpList_store_row rfl 32 (.tmp 4) (.tmp 83) rfl (g + 1) (pgV C) rfl rfl 32 _ KP.out (by kernel_rfl) rfl (by simp [Value.oneCell', pgV]) ?_))
      have F9 := KP.out.row (pgV C)
      have B9 := Bw.setRow HW.out (show w.heap.size ≤ g + 1 by have := HG.out; omega) (pgV C)
      refine bodyPost_ret (v := .tuple #[.agg (pgV C), .int .i64 0]) ?_ rfl ⟨by rw [HQ.out.1, HQ.out.2], B9⟩
      exact results_two_row (p := 4) (u := 5) rfl _ _ (g + 1) _ rfl (run_loadVar_row _ (g + 1) 32 32 (pgV C) (0, 0) _ F9 Tryd.underlying32 rfl (by kernel_rfl))
theorem RCoarse_2 (X : Nat → Int) (h : Int) (hH : h = 2) (hE : errE X = 0) (w : World) : Calls Tryd.prog 9 #[.agg (eV X), .int .i64 h] w fun e w' => e = .returned (.tuple #[.agg (pgV (cgX X h)), .int .i64 (cgE X h)]) ∧ Bw w w' := by
  have CK := Lib.hid (fun W => rCheck26_any X W)
  have KX := Lib.hid ((Blk.new w 25 (eV X)).alloc (.cells #[.int .i64 0, .int .i64 0, .int .i64 0, .int .i64 0, .int .i64 0, .int .i64 0, .int .i64 0, .int .i64 0, .int .i64 0, .int .i64 0, .int .i64 0, .int .i64 0, .int .i64 0] 32))
  have KP := Lib.hid (show Blk ((w.alloc (.cells (eV X) 25)).alloc (.cells #[.int .i64 0, .int .i64 0, .int .i64 0, .int .i64 0, .int .i64 0, .int .i64 0, .int .i64 0, .int .i64 0, .int .i64 0, .int .i64 0, .int .i64 0, .int .i64 0, .int .i64 0] 32)) (w.heap.size + 1) 32 #[.int .i64 0, .int .i64 0, .int .i64 0, .int .i64 0, .int .i64 0, .int .i64 0, .int .i64 0, .int .i64 0, .int .i64 0, .int .i64 0, .int .i64 0, .int .i64 0, .int .i64 0] from by have h9 := Blk.new (w.alloc (.cells (eV X) 25)) 32 #[.int .i64 0, .int .i64 0, .int .i64 0, .int .i64 0, .int .i64 0, .int .i64 0, .int .i64 0, .int .i64 0, .int .i64 0, .int .i64 0, .int .i64 0, .int .i64 0, .int .i64 0]; simp only [World.size_alloc] at h9; exact h9)
  have HW := Lib.hid (Bw.alloc (Bw.alloc (Bw.refl w) (.cells (eV X) 25)) (.cells #[.int .i64 0, .int .i64 0, .int .i64 0, .int .i64 0, .int .i64 0, .int .i64 0, .int .i64 0, .int .i64 0, .int .i64 0, .int .i64 0, .int .i64 0, .int .i64 0, .int .i64 0] 32))
  have HSZ : Hid ((Tryd.prog.info? 25).map (·.size) = some (eV X).size) := Lib.hid (by kernel_rfl)
  obtain ⟨g, hg⟩ : ∃ g, w.heap.size = g := ⟨_, rfl⟩
  rw [hg] at KX KP
  have HG := Lib.hid hg
  have HCX := Lib.hid (fun i (hi : i < 19) => eV_at X i hi)
  subst hH
  have R0 := Lib.hid (fun W (hB : Blk W g 25 (eV X)) => ax_r7 hB)
  have R1 := Lib.hid (fun W (hB : Blk W g 25 (eV X)) => ax_r11 hB)
  have R2 := Lib.hid (fun W (hB : Blk W g 25 (eV X)) => ax_r15 hB)
  obtain ⟨hx0, hx2, hx3⟩ := hd_bd hE
  obtain ⟨a0, a1, a2, a3⟩ := ax_bd hE 0 (by omega)
  obtain ⟨b0, b1, b2, b3⟩ := ax_bd hE 1 (by omega)
  obtain ⟨c0, c1, c2, c3⟩ := ax_bd hE 2 (by omega)
  simp only [Nat.mul_zero, Nat.add_zero, Nat.mul_one, show 7 + 4 * 2 = 15 from rfl, show 7 + 4 = 11 from rfl, show 7 + 1 = 8 from rfl, show 7 + 2 = 9 from rfl, show 7 + 3 = 10 from rfl, show 11 + 1 = 12 from rfl, show 11 + 2 = 13 from rfl, show 11 + 3 = 14 from rfl, show 15 + 1 = 16 from rfl, show 15 + 2 = 17 from rfl, show 15 + 3 = 18 from rfl] at a0 a1 a2 a3 b0 b1 b2 b3 c0 c1 c2 c3
  have AB0 := Lib.hid (fun W => abs28_any (X 10) (by omega) W)
  have AB1 := Lib.hid (fun W => abs28_any (X 14) (by omega) W)
  have AB2 := Lib.hid (fun W => abs28_any (X 18) (by omega) W)
  have CO0 := Lib.hid (fun W => rcoarse28_any (X 7) (X 8) (X 9) (X 10) a0 a1 a2 W)
  have CO1 := Lib.hid (fun W => rcoarse28_any (X 11) (X 12) (X 13) (X 14) b0 b1 b2 W)
  have CO2 := Lib.hid (fun W => rcoarse28_any (X 15) (X 16) (X 17) (X 18) c0 c1 c2 W)
  unfold crV at CO0 CO1 CO2
  have hmb := mK_bd (X := X) (fun j hj => (ax_bd hE j hj).2.2.2) 3 (by omega)
  have HMX := Lib.hid (mK_three X)
  obtain ⟨C, hC⟩ : ∃ C, C = pgF X 2 := ⟨_, rfl⟩
  have HE0 : Hid (errPg C ≠ 0 → cgE X 2 = 5 ∧ pgV (cgX X 2) = #[.int .i64 0, .int .i64 0, .int .i64 0, .int .i64 0, .int .i64 0, .int .i64 0, .int .i64 0, .int .i64 0, .int .i64 0, .int .i64 0, .int .i64 0, .int .i64 0, .int .i64 0]) := Lib.hid (fun q => by
    have e : cgE X 2 = 5 := by unfold cgE; rw [if_pos hE, if_pos (by decide), ← hC, if_neg q]
    refine ⟨e, ?_⟩
    unfold cgX
    rw [e, if_neg (by decide)]
    rfl)
  have HE1 : Hid (errPg C = 0 → cgE X 2 = 0 ∧ cgX X 2 = C) := Lib.hid (fun q => by
    have e : cgE X 2 = 0 := by unfold cgE; rw [if_pos hE, if_pos (by decide), ← hC, if_pos q]
    refine ⟨e, ?_⟩
    unfold cgX
    rw [e, if_pos rfl, hC])
  have HP0 := Lib.hid (show pgV C = #[.int .i64 (X 0), .int .i64 (X 2), .int .i64 (33 + (X 3 + 999) / 1000), .int .i64 (grQ 2 (mK X 3)), .int .i64 (rn (X 7) 4000), .int .i64 (rn (X 8) 1000), .int .i64 (rn (X 9) 1000), .int .i64 (rn (X 11) 4000), .int .i64 (rn (X 12) 1000), .int .i64 (rn (X 13) 1000), .int .i64 (rn (X 15) 4000), .int .i64 (rn (X 16) 1000), .int .i64 (rn (X 17) 1000)] from by rw [hC]; rfl)
  have PK := Lib.hid (fun W => rPgCheck_any C W)
  rw [hE] at CK
  clear hE hC a0 a1 a2 a3 b0 b1 b2 b3 c0 c1 c2 c3
  generalize hcx : cgX X 2 = CX at *
  generalize hce : cgE X 2 = CE at *
  clear hcx hce
  generalize mK X 3 = m at *
  obtain ⟨A, hA⟩ : ∃ A, A = eV X := ⟨_, rfl⟩
  rw [← hA] at CK KX KP HW HSZ HCX R0 R1 R2 ⊢
  clear hA
  go_enter Tryd.func9, Tryd.ntmps9
  go_upto_region 1 with fail
  obtain ⟨W0, hW0⟩ : ∃ W0, (w.alloc (.cells A 25)).alloc (.cells #[.int .i64 0, .int .i64 0, .int .i64 0, .int .i64 0, .int .i64 0, .int .i64 0, .int .i64 0, .int .i64 0, .int .i64 0, .int .i64 0, .int .i64 0, .int .i64 0, .int .i64 0] 32) = W0 := ⟨_, rfl⟩
  rw [hW0] at KX KP HW ⊢
  clear hW0 hg
  go_upto_region 2 with (first | ((with_reducible refine at_load 25 (.tmp 2) ?_); refine wpList_load_row rfl 25 _ rfl g rfl 25 A (0, 0) _ KX.out Tryd.underlying25 rfl HSZ.out ?_) | (go_at_call 27; (with_reducible refine Calls.mono (CK.out _) ?_); rintro e1 w1 ⟨rfl, hb1⟩; replace KX := Lib.hid (KX.out.bw hb1); replace KP := Lib.hid (KP.out.bw hb1); replace HW := Lib.hid (HW.out.trans hb1); clear hb1))
  go_upto_region 7 with fail
  have e0 := HCX.out 0 (by omega)
  have e2 := HCX.out 2 (by omega)
  have e3 := HCX.out 3 (by omega)
  have e10 := HCX.out 10 (by omega)
  have e14 := HCX.out 14 (by omega)
  have e18 := HCX.out 18 (by omega)
  generalize rn (X 7) 4000 = p00 at *
  generalize rn (X 8) 1000 = p01 at *
  generalize rn (X 9) 1000 = p02 at *
  generalize rn (X 11) 4000 = p10 at *
  generalize rn (X 12) 1000 = p11 at *
  generalize rn (X 13) 1000 = p12 at *
  generalize rn (X 15) 4000 = p20 at *
  generalize rn (X 16) 1000 = p21 at *
  generalize rn (X 17) 1000 = p22 at *
  generalize X 0 = x0 at *
  generalize X 2 = x2 at *
  generalize X 3 = x3 at *
  generalize X 7 = y00 at *
  generalize X 8 = y01 at *
  generalize X 9 = y02 at *
  generalize X 10 = y03 at *
  generalize X 11 = y10 at *
  generalize X 12 = y11 at *
  generalize X 13 = y12 at *
  generalize X 14 = y13 at *
  generalize X 15 = y20 at *
  generalize X 16 = y21 at *
  generalize X 17 = y22 at *
  generalize X 18 = y23 at *
  generalize (y03.natAbs : Int) = n0 at *
  generalize (y13.natAbs : Int) = n1 at *
  generalize (y23.natAbs : Int) = n2 at *
  obtain ⟨ua, hua⟩ : ∃ ua, ua = w1 := ⟨_, rfl⟩
  subst hua
  refine wp_region_held_drew (S := Bw ua) (by kernel_rfl) (Bw.drew (Bw.refl _)) (fun hS => ?_)
  generalize World.drew _ = wd at hS ⊢
  refine take1 (i := 0) (some 27) rfl rfl (by kernel_rfl) (by kernel_rfl) (by kernel_rfl) (fun _ _ _ _ h => h) rfl hS ?_
  apply Exists.intro
  apply And.intro
  · intro W9 hW9; have y0 := (KX.out.bw hW9).cell e10; have y2 := (KX.out.bw hW9).cell e14; have y3 := (KX.out.bw hW9).cell e18; go_simp; try with_reducible rfl
  simp only [Act.put, List.setIfInBounds_toArray, List.set_cons_zero, List.set_cons_succ]
  refine take1 (i := 1) (some 28) rfl rfl (by kernel_rfl) (by kernel_rfl) (by kernel_rfl) (fun _ _ _ _ h => h) rfl hS ?_
  apply Exists.intro
  apply And.intro
  · intro W9 hW9; have y0 := (KX.out.bw hW9).cell e10; have y2 := (KX.out.bw hW9).cell e14; have y3 := (KX.out.bw hW9).cell e18; go_simp; try with_reducible rfl
  simp only [Act.put, List.setIfInBounds_toArray, List.set_cons_zero, List.set_cons_succ]
  refine take1 (i := 2) (some 29) rfl rfl (by kernel_rfl) (by kernel_rfl) (by kernel_rfl) (fun _ _ _ _ h => h) rfl hS ?_
  refine Exists.intro (.int .i64 y03) ?_
  apply And.intro
  · intro W9 hW9; have y0 := (KX.out.bw hW9).cell e10; have y2 := (KX.out.bw hW9).cell e14; have y3 := (KX.out.bw hW9).cell e18; go_simp; (try go_bits); (try with_reducible rfl); (try trivial)
  simp only [Act.put, List.setIfInBounds_toArray, List.set_cons_zero, List.set_cons_succ]
  refine take1 (i := 4) (some 31) rfl rfl (by kernel_rfl) (by kernel_rfl) (by kernel_rfl) (fun _ _ _ _ h => h) rfl hS ?_
  apply Exists.intro
  apply And.intro
  · intro W9 hW9; have y0 := (KX.out.bw hW9).cell e10; have y2 := (KX.out.bw hW9).cell e14; have y3 := (KX.out.bw hW9).cell e18; go_simp; try with_reducible rfl
  simp only [Act.put, List.setIfInBounds_toArray, List.set_cons_zero, List.set_cons_succ]
  refine take1 (i := 5) (some 32) rfl rfl (by kernel_rfl) (by kernel_rfl) (by kernel_rfl) (fun _ _ _ _ h => h) rfl hS ?_
  apply Exists.intro
  apply And.intro
  · intro W9 hW9; have y0 := (KX.out.bw hW9).cell e10; have y2 := (KX.out.bw hW9).cell e14; have y3 := (KX.out.bw hW9).cell e18; go_simp; try with_reducible rfl
  simp only [Act.put, List.setIfInBounds_toArray, List.set_cons_zero, List.set_cons_succ]
  refine take1 (i := 6) (some 33) rfl rfl (by kernel_rfl) (by kernel_rfl) (by kernel_rfl) (fun _ _ _ _ h => h) rfl hS ?_
  refine Exists.intro (.int .i64 y13) ?_
  apply And.intro
  · intro W9 hW9; have y0 := (KX.out.bw hW9).cell e10; have y2 := (KX.out.bw hW9).cell e14; have y3 := (KX.out.bw hW9).cell e18; go_simp; (try go_bits); (try with_reducible rfl); (try trivial)
  simp only [Act.put, List.setIfInBounds_toArray, List.set_cons_zero, List.set_cons_succ]
  refine take1 (i := 8) (some 35) rfl rfl (by kernel_rfl) (by kernel_rfl) (by kernel_rfl) (fun _ _ _ _ h => h) rfl hS ?_
  apply Exists.intro
  apply And.intro
  · intro W9 hW9; have y0 := (KX.out.bw hW9).cell e10; have y2 := (KX.out.bw hW9).cell e14; have y3 := (KX.out.bw hW9).cell e18; go_simp; try with_reducible rfl
  simp only [Act.put, List.setIfInBounds_toArray, List.set_cons_zero, List.set_cons_succ]
  refine take1 (i := 9) (some 36) rfl rfl (by kernel_rfl) (by kernel_rfl) (by kernel_rfl) (fun _ _ _ _ h => h) rfl hS ?_
  apply Exists.intro
  apply And.intro
  · intro W9 hW9; have y0 := (KX.out.bw hW9).cell e10; have y2 := (KX.out.bw hW9).cell e14; have y3 := (KX.out.bw hW9).cell e18; go_simp; try with_reducible rfl
  simp only [Act.put, List.setIfInBounds_toArray, List.set_cons_zero, List.set_cons_succ]
  refine take1 (i := 10) (some 37) rfl rfl (by kernel_rfl) (by kernel_rfl) (by kernel_rfl) (fun _ _ _ _ h => h) rfl hS ?_
  refine Exists.intro (.int .i64 y23) ?_
  apply And.intro
  · intro W9 hW9; have y0 := (KX.out.bw hW9).cell e10; have y2 := (KX.out.bw hW9).cell e14; have y3 := (KX.out.bw hW9).cell e18; go_simp; (try go_bits); (try with_reducible rfl); (try trivial)
  simp only [Act.put, List.setIfInBounds_toArray, List.set_cons_zero, List.set_cons_succ]
  refine wpAnyH_ready (rs := [3]) (by kernel_rfl) (by simp) ?_
  refine AllReadyH.cons rfl (fun K hK => ?_) ?_
  go_simp
  go_wp2_with (go_at_call 31; (with_reducible refine Calls.mono (AB0.out _) ?_); rintro e1 w7 ⟨rfl, hb13⟩)
  refine hK.out _ _ (hS.trans hb13) (fun hS => ?_)
  clear hK K
  clear hb13
  refine wpAnyH_ready (rs := [7]) (by kernel_rfl) (by simp) ?_
  refine AllReadyH.cons rfl (fun K hK => ?_) ?_
  go_simp
  go_wp2_with (go_at_call 31; (with_reducible refine Calls.mono (AB1.out _) ?_); rintro e1 w7 ⟨rfl, hb13⟩)
  refine hK.out _ _ (hS.trans hb13) (fun hS => ?_)
  clear hK K
  clear hb13
  refine wpAnyH_ready (rs := [11]) (by kernel_rfl) (by simp) ?_
  refine AllReadyH.cons rfl (fun K hK => ?_) ?_
  go_simp
  go_wp2_with (go_at_call 31; (with_reducible refine Calls.mono (AB2.out _) ?_); rintro e1 w7 ⟨rfl, hb13⟩)
  refine hK.out _ _ (hS.trans hb13) (fun hS => ?_)
  clear hK K
  clear hb13
  refine wpAnyH_ready (rs := [12]) (by kernel_rfl) (by simp) ?_
  refine AllReadyH.cons rfl (fun K hK => ?_) ?_
  have hmx := fun W => max3 n0 n1 n2 W
  go_simp
  refine hK.out _ _ hS (fun hS => ?_)
  clear hK K
  clear hmx
  refine take1 (i := 13) (some 8) rfl rfl (by kernel_rfl) (by kernel_rfl) (by kernel_rfl) (fun _ _ _ _ h => h) rfl hS ?_
  apply Exists.intro
  apply And.intro
  · intro W9 hW9; have y0 := (KX.out.bw hW9).cell e10; have y2 := (KX.out.bw hW9).cell e14; have y3 := (KX.out.bw hW9).cell e18; go_simp; try with_reducible rfl
  simp only [Act.put, List.setIfInBounds_toArray, List.set_cons_zero, List.set_cons_succ]
  refine wpAnyH_done (by kernel_rfl) ?_ _
  rotate_left
  exact AllReadyH.nil
  exact AllReadyH.nil
  exact AllReadyH.nil
  exact AllReadyH.nil
  replace HW := Lib.hid (HW.out.trans hS)
  replace KX := Lib.hid (KX.out.bw hS)
  replace KP := Lib.hid (KP.out.bw hS)
  have hmm := HMX.out.symm
  rw [hmm]
  clear hS hmm HMX AB0 AB1 AB2 e10 e14 e18
  have hq1 : (x3 + 999).tdiv 1000 = (x3 + 999) / 1000 := Int.tdiv_eq_ediv_of_nonneg (by omega)
  have hqb : 0 ≤ (x3 + 999) / 1000 ∧ (x3 + 999) / 1000 ≤ 100 := by omega
  have wx3 : 0 ≤ x3 ∧ x3 ≤ 65535 := hx3
  clear hx0 hx2 hx3
  generalize (x3 + 999) / 1000 = q1 at *
  obtain ⟨N, hN⟩ : ∃ N : Int, N = 970209624064000 + 3600 * m * 7200 * 7200 := ⟨_, rfl⟩
  have hNb : 0 ≤ N ∧ N ≤ 4000000000000000000 := by omega
  have hq4 : (N + 67108864000 - 1).tdiv 67108864000 = (N + 67108864000 - 1) / 67108864000 := Int.tdiv_eq_ediv_of_nonneg (by omega)
  have HQ4 := Lib.hid (show grQ 2 m = (N + 67108864000 - 1) / 67108864000 from by rw [hN]; unfold grQ; omega)
  rw [HQ4.out] at HP0
  have hq4b : 0 ≤ (N + 67108864000 - 1) / 67108864000 ∧ (N + 67108864000 - 1) / 67108864000 ≤ 100000000 := by omega
  generalize (N + 67108864000 - 1) / 67108864000 = q4 at *
  go_upto_region 10 with fail
  rw [← hN]
  clear hN HQ4 hmb
  obtain ⟨ub, hub⟩ : ∃ ub, ub = w7 := ⟨_, rfl⟩
  subst hub
  go_cut [11] from 54 (fun s11 wc => ∃ g11, s11 = .pointer (some ⟨g11, 0, none⟩) ∧ ub.heap.size ≤ g11 ∧ Hid (Bw w wc) ∧ Hid (Bw ub wc) ∧ Hid (Blk wc g11 32 (pgV C)))
  case first =>
    refine wp_region_held_drew (S := Bw ub) (by kernel_rfl) (Bw.drew (Bw.refl _)) (fun hS => ?_)
    generalize World.drew _ = wd at hS ⊢
    refine take1 (i := 0) (some 54) rfl rfl (by kernel_rfl) (by kernel_rfl) (by kernel_rfl) (fun _ _ _ _ h => h) rfl hS ?_
    apply Exists.intro
    apply And.intro
    · intro W9 hW9; have y0 := (KX.out.bw hW9).cell e0; have y2 := (KX.out.bw hW9).cell e2; have y3 := (KX.out.bw hW9).cell e3; go_simp; try with_reducible rfl
    simp only [Act.put, List.setIfInBounds_toArray, List.set_cons_zero, List.set_cons_succ]
    refine take1 (i := 1) (some 55) rfl rfl (by kernel_rfl) (by kernel_rfl) (by kernel_rfl) (fun _ _ _ _ h => h) rfl hS ?_
    refine Exists.intro (.int .i64 x0) ?_
    apply And.intro
    · intro W9 hW9; have y0 := (KX.out.bw hW9).cell e0; have y2 := (KX.out.bw hW9).cell e2; have y3 := (KX.out.bw hW9).cell e3; go_simp; (try go_bits); (try with_reducible rfl); (try trivial)
    simp only [Act.put, List.setIfInBounds_toArray, List.set_cons_zero, List.set_cons_succ]
    refine take1 (i := 2) (some 56) rfl rfl (by kernel_rfl) (by kernel_rfl) (by kernel_rfl) (fun _ _ _ _ h => h) rfl hS ?_
    apply Exists.intro
    apply And.intro
    · intro W9 hW9; have y0 := (KX.out.bw hW9).cell e0; have y2 := (KX.out.bw hW9).cell e2; have y3 := (KX.out.bw hW9).cell e3; go_simp; try with_reducible rfl
    simp only [Act.put, List.setIfInBounds_toArray, List.set_cons_zero, List.set_cons_succ]
    refine take1 (i := 3) (some 57) rfl rfl (by kernel_rfl) (by kernel_rfl) (by kernel_rfl) (fun _ _ _ _ h => h) rfl hS ?_
    refine Exists.intro (.int .i64 x2) ?_
    apply And.intro
    · intro W9 hW9; have y0 := (KX.out.bw hW9).cell e0; have y2 := (KX.out.bw hW9).cell e2; have y3 := (KX.out.bw hW9).cell e3; go_simp; (try go_bits); (try with_reducible rfl); (try trivial)
    simp only [Act.put, List.setIfInBounds_toArray, List.set_cons_zero, List.set_cons_succ]
    refine take1 (i := 4) (some 58) rfl rfl (by kernel_rfl) (by kernel_rfl) (by kernel_rfl) (fun _ _ _ _ h => h) rfl hS ?_
    apply Exists.intro
    apply And.intro
    · intro W9 hW9; have y0 := (KX.out.bw hW9).cell e0; have y2 := (KX.out.bw hW9).cell e2; have y3 := (KX.out.bw hW9).cell e3; go_simp; try with_reducible rfl
    simp only [Act.put, List.setIfInBounds_toArray, List.set_cons_zero, List.set_cons_succ]
    refine take1 (i := 5) (some 59) rfl rfl (by kernel_rfl) (by kernel_rfl) (by kernel_rfl) (fun _ _ _ _ h => h) rfl hS ?_
    refine Exists.intro (.int .i64 x3) ?_
    apply And.intro
    · intro W9 hW9; have y0 := (KX.out.bw hW9).cell e0; have y2 := (KX.out.bw hW9).cell e2; have y3 := (KX.out.bw hW9).cell e3; go_simp; (try go_bits); (try with_reducible rfl); (try trivial)
    simp only [Act.put, List.setIfInBounds_toArray, List.set_cons_zero, List.set_cons_succ]
    refine take1 (i := 6) (some 60) rfl rfl (by kernel_rfl) (by kernel_rfl) (by kernel_rfl) (fun _ _ _ _ h => h) rfl hS ?_
    refine Exists.intro (.int .i64 (x3 + 999)) ?_
    apply And.intro
    · intro W9 hW9; have y0 := (KX.out.bw hW9).cell e0; have y2 := (KX.out.bw hW9).cell e2; have y3 := (KX.out.bw hW9).cell e3; go_simp; (try go_bits); (try with_reducible rfl); (try trivial)
    simp only [Act.put, List.setIfInBounds_toArray, List.set_cons_zero, List.set_cons_succ]
    refine take1 (i := 7) (some 61) rfl rfl (by kernel_rfl) (by kernel_rfl) (by kernel_rfl) (fun _ _ _ _ h => h) rfl hS ?_
    refine Exists.intro (.int .i64 q1) ?_
    apply And.intro
    · intro W9 hW9; have y0 := (KX.out.bw hW9).cell e0; have y2 := (KX.out.bw hW9).cell e2; have y3 := (KX.out.bw hW9).cell e3; go_simp; (try go_bits); (try with_reducible rfl); (try trivial)
    simp only [Act.put, List.setIfInBounds_toArray, List.set_cons_zero, List.set_cons_succ]
    refine take1 (i := 8) (some 62) rfl rfl (by kernel_rfl) (by kernel_rfl) (by kernel_rfl) (fun _ _ _ _ h => h) rfl hS ?_
    refine Exists.intro (.int .i64 (33 + q1)) ?_
    apply And.intro
    · intro W9 hW9; have y0 := (KX.out.bw hW9).cell e0; have y2 := (KX.out.bw hW9).cell e2; have y3 := (KX.out.bw hW9).cell e3; go_simp; (try go_bits); (try with_reducible rfl); (try trivial)
    simp only [Act.put, List.setIfInBounds_toArray, List.set_cons_zero, List.set_cons_succ]
    refine take1 (i := 9) (some 63) rfl rfl (by kernel_rfl) (by kernel_rfl) (by kernel_rfl) (fun _ _ _ _ h => h) rfl hS ?_
    apply Exists.intro
    apply And.intro
    · intro W9 hW9; have y0 := (KX.out.bw hW9).cell e0; have y2 := (KX.out.bw hW9).cell e2; have y3 := (KX.out.bw hW9).cell e3; go_simp; try with_reducible rfl
    simp only [Act.put, List.setIfInBounds_toArray, List.set_cons_zero, List.set_cons_succ]
    refine take1 (i := 10) (some 64) rfl rfl (by kernel_rfl) (by kernel_rfl) (by kernel_rfl) (fun _ _ _ _ h => h) rfl hS ?_
    apply Exists.intro
    apply And.intro
    · intro W9 hW9; have y0 := (KX.out.bw hW9).cell e0; have y2 := (KX.out.bw hW9).cell e2; have y3 := (KX.out.bw hW9).cell e3; go_simp; try with_reducible rfl
    simp only [Act.put, List.setIfInBounds_toArray, List.set_cons_zero, List.set_cons_succ]
    refine take1 (i := 11) (some 65) rfl rfl (by kernel_rfl) (by kernel_rfl) (by kernel_rfl) (fun _ _ _ _ h => h) rfl hS ?_
    refine Exists.intro (.int .i64 (N + 67108864000)) ?_
    apply And.intro
    · intro W9 hW9; have y0 := (KX.out.bw hW9).cell e0; have y2 := (KX.out.bw hW9).cell e2; have y3 := (KX.out.bw hW9).cell e3; go_simp; (try go_bits); (try with_reducible rfl); (try trivial)
    simp only [Act.put, List.setIfInBounds_toArray, List.set_cons_zero, List.set_cons_succ]
    refine take1 (i := 12) (some 66) rfl rfl (by kernel_rfl) (by kernel_rfl) (by kernel_rfl) (fun _ _ _ _ h => h) rfl hS ?_
    refine Exists.intro (.int .i64 (N + 67108864000 - 1)) ?_
    apply And.intro
    · intro W9 hW9; have y0 := (KX.out.bw hW9).cell e0; have y2 := (KX.out.bw hW9).cell e2; have y3 := (KX.out.bw hW9).cell e3; go_simp; (try go_bits); (try with_reducible rfl); (try trivial)
    simp only [Act.put, List.setIfInBounds_toArray, List.set_cons_zero, List.set_cons_succ]
    refine take1 (i := 13) (some 67) rfl rfl (by kernel_rfl) (by kernel_rfl) (by kernel_rfl) (fun _ _ _ _ h => h) rfl hS ?_
    apply Exists.intro
    apply And.intro
    · intro W9 hW9; have y0 := (KX.out.bw hW9).cell e0; have y2 := (KX.out.bw hW9).cell e2; have y3 := (KX.out.bw hW9).cell e3; go_simp; try with_reducible rfl
    simp only [Act.put, List.setIfInBounds_toArray, List.set_cons_zero, List.set_cons_succ]
    refine take1 (i := 14) (some 68) rfl rfl (by kernel_rfl) (by kernel_rfl) (by kernel_rfl) (fun _ _ _ _ h => h) rfl hS ?_
    refine Exists.intro (.int .i64 q4) ?_
    apply And.intro
    · intro W9 hW9; have y0 := (KX.out.bw hW9).cell e0; have y2 := (KX.out.bw hW9).cell e2; have y3 := (KX.out.bw hW9).cell e3; go_simp; (try go_bits); (try with_reducible rfl); (try trivial)
    simp only [Act.put, List.setIfInBounds_toArray, List.set_cons_zero, List.set_cons_succ]
    refine take1 (i := 15) (some 69) rfl rfl (by kernel_rfl) (by kernel_rfl) (by kernel_rfl) (fun _ _ _ _ h => h) rfl hS ?_
    apply Exists.intro
    apply And.intro
    · intro W9 hW9; have y0 := (KX.out.bw hW9).cell e0; have y2 := (KX.out.bw hW9).cell e2; have y3 := (KX.out.bw hW9).cell e3; go_simp; try with_reducible rfl
    simp only [Act.put, List.setIfInBounds_toArray, List.set_cons_zero, List.set_cons_succ]
    refine take1 (i := 16) (some 70) rfl rfl (by kernel_rfl) (by kernel_rfl) (by kernel_rfl) (fun _ _ _ _ h => h) rfl hS ?_
    refine Exists.intro (.agg #[.int .i64 y00, .int .i64 y01, .int .i64 y02, .int .i64 y03]) ?_
    apply And.intro
    · intro W9 hW9; have y0 := (KX.out.bw hW9).cell e0; have y2 := (KX.out.bw hW9).cell e2; have y3 := (KX.out.bw hW9).cell e3; exact run_load_ax _ rfl g 7 rfl (R0.out _ (KX.out.bw hW9))
    simp only [Act.put, List.setIfInBounds_toArray, List.set_cons_zero, List.set_cons_succ]
    refine take1 (i := 18) (some 72) rfl rfl (by kernel_rfl) (by kernel_rfl) (by kernel_rfl) (fun _ _ _ _ h => h) rfl hS ?_
    apply Exists.intro
    apply And.intro
    · intro W9 hW9; have y0 := (KX.out.bw hW9).cell e0; have y2 := (KX.out.bw hW9).cell e2; have y3 := (KX.out.bw hW9).cell e3; go_simp; try with_reducible rfl
    simp only [Act.put, List.setIfInBounds_toArray, List.set_cons_zero, List.set_cons_succ]
    refine take1 (i := 19) (some 73) rfl rfl (by kernel_rfl) (by kernel_rfl) (by kernel_rfl) (fun _ _ _ _ h => h) rfl hS ?_
    refine Exists.intro (.agg #[.int .i64 y10, .int .i64 y11, .int .i64 y12, .int .i64 y13]) ?_
    apply And.intro
    · intro W9 hW9; have y0 := (KX.out.bw hW9).cell e0; have y2 := (KX.out.bw hW9).cell e2; have y3 := (KX.out.bw hW9).cell e3; exact run_load_ax _ rfl g 11 rfl (R1.out _ (KX.out.bw hW9))
    simp only [Act.put, List.setIfInBounds_toArray, List.set_cons_zero, List.set_cons_succ]
    refine take1 (i := 21) (some 75) rfl rfl (by kernel_rfl) (by kernel_rfl) (by kernel_rfl) (fun _ _ _ _ h => h) rfl hS ?_
    apply Exists.intro
    apply And.intro
    · intro W9 hW9; have y0 := (KX.out.bw hW9).cell e0; have y2 := (KX.out.bw hW9).cell e2; have y3 := (KX.out.bw hW9).cell e3; go_simp; try with_reducible rfl
    simp only [Act.put, List.setIfInBounds_toArray, List.set_cons_zero, List.set_cons_succ]
    refine take1 (i := 22) (some 76) rfl rfl (by kernel_rfl) (by kernel_rfl) (by kernel_rfl) (fun _ _ _ _ h => h) rfl hS ?_
    refine Exists.intro (.agg #[.int .i64 y20, .int .i64 y21, .int .i64 y22, .int .i64 y23]) ?_
    apply And.intro
    · intro W9 hW9; have y0 := (KX.out.bw hW9).cell e0; have y2 := (KX.out.bw hW9).cell e2; have y3 := (KX.out.bw hW9).cell e3; exact run_load_ax _ rfl g 15 rfl (R2.out _ (KX.out.bw hW9))
    simp only [Act.put, List.setIfInBounds_toArray, List.set_cons_zero, List.set_cons_succ]
    refine wpAnyH_ready (rs := [17, 25]) (by kernel_rfl) (by simp) ?_
    refine AllReadyH.cons rfl (fun K hK => ?_) ?_
    go_simp
    go_wp2_with (go_at_call 32; (with_reducible refine Calls.mono (CO0.out _) ?_); rintro e1 w7 ⟨rfl, hb13⟩)
    refine hK.out _ _ (hS.trans hb13) (fun hS => ?_)
    clear hK K
    clear hb13
    refine wpAnyH_ready (rs := [20, 25]) (by kernel_rfl) (by simp) ?_
    refine AllReadyH.cons rfl (fun K hK => ?_) ?_
    go_simp
    go_wp2_with (go_at_call 32; (with_reducible refine Calls.mono (CO1.out _) ?_); rintro e1 w7 ⟨rfl, hb13⟩)
    refine hK.out _ _ (hS.trans hb13) (fun hS => ?_)
    clear hK K
    clear hb13
    refine wpAnyH_ready (rs := [23, 25]) (by kernel_rfl) (by simp) ?_
    refine AllReadyH.cons rfl (fun K hK => ?_) ?_
    go_simp
    go_wp2_with (go_at_call 32; (with_reducible refine Calls.mono (CO2.out _) ?_); rintro e1 w7 ⟨rfl, hb13⟩)
    refine hK.out _ _ (hS.trans hb13) (fun hS => ?_)
    clear hK K
    clear hb13
    refine take1 (i := 24) (some 78) rfl rfl (by kernel_rfl) (by kernel_rfl) (by kernel_rfl) (fun _ _ _ _ h => h) rfl hS ?_
    refine Exists.intro (.agg #[.int .i64 x0, .int .i64 x2, .int .i64 (33 + q1), .int .i64 q4, .int .i64 p00, .int .i64 p01, .int .i64 p02, .int .i64 p10, .int .i64 p11, .int .i64 p12, .int .i64 p20, .int .i64 p21, .int .i64 p22]) ?_
    apply And.intro
    · intro W9 hW9; have y0 := (KX.out.bw hW9).cell e0; have y2 := (KX.out.bw hW9).cell e2; have y3 := (KX.out.bw hW9).cell e3; go_simp; (try go_bits); (try with_reducible rfl); (try trivial)
    simp only [Act.put, List.setIfInBounds_toArray, List.set_cons_zero, List.set_cons_succ]
    refine wpAnyH_ready (rs := [25]) (by kernel_rfl) (by simp) ?_
    refine AllReadyH.cons rfl (fun K hK => ?_) ?_
    rw [if_pos (by rfl)]
    refine wp_alloc_new28 32 rfl (some 11) rfl _ (zeroPg _) ?_
    intro g11 w6 hg9 hN hbw
    simp only [Act.put, List.setIfInBounds_toArray, List.set_cons_zero, List.set_cons_succ]
    have K11 := Lib.hid hN
    have H11 := Lib.hid (Nat.le_trans hS.size hg9)
    clear hN
    refine hK.out _ _ (hS.trans hbw) (fun hS => ?_)
    clear hK K
    clear hbw hg9
    refine wpAnyH_ready (rs := [26]) (by kernel_rfl) (by simp) ?_
    refine AllReadyH.cons rfl (fun K hK => ?_) ?_
    rw [if_pos (by rfl)]
    refine wp_store_row0 32 _ _ rfl rfl g11 #[.int .i64 x0, .int .i64 x2, .int .i64 (33 + q1), .int .i64 q4, .int .i64 p00, .int .i64 p01, .int .i64 p02, .int .i64 p10, .int .i64 p11, .int .i64 p12, .int .i64 p20, .int .i64 p21, .int .i64 p22] rfl rfl 32 #[.int .i64 0, .int .i64 0, .int .i64 0, .int .i64 0, .int .i64 0, .int .i64 0, .int .i64 0, .int .i64 0, .int .i64 0, .int .i64 0, .int .i64 0, .int .i64 0, .int .i64 0] K11.out (by kernel_rfl) (by simp) (by simp [Value.oneCell']) ?_
    replace K11 := Lib.hid (K11.out.row #[.int .i64 x0, .int .i64 x2, .int .i64 (33 + q1), .int .i64 q4, .int .i64 p00, .int .i64 p01, .int .i64 p02, .int .i64 p10, .int .i64 p11, .int .i64 p12, .int .i64 p20, .int .i64 p21, .int .i64 p22])
    have hst := Bw.setRow hS H11.out #[.int .i64 x0, .int .i64 x2, .int .i64 (33 + q1), .int .i64 q4, .int .i64 p00, .int .i64 p01, .int .i64 p02, .int .i64 p10, .int .i64 p11, .int .i64 p12, .int .i64 p20, .int .i64 p21, .int .i64 p22]
    refine hK.out _ _ hst (fun hS => ?_)
    clear hK K
    clear hst
    refine wpAnyH_done (by kernel_rfl) ?_ _
    rotate_left
    exact AllReadyH.nil
    exact AllReadyH.nil
    refine AllReadyH.cons rfl (fun K hK => ?_) ?_
    rw [if_pos (by rfl)]
    refine wp_alloc_new28 32 rfl (some 11) rfl _ (zeroPg _) ?_
    intro g11 w6 hg9 hN hbw
    simp only [Act.put, List.setIfInBounds_toArray, List.set_cons_zero, List.set_cons_succ]
    have K11 := Lib.hid hN
    have H11 := Lib.hid (Nat.le_trans hS.size hg9)
    clear hN
    refine hK.out _ _ (hS.trans hbw) (fun hS => ?_)
    clear hK K
    clear hbw hg9
    refine wpAnyH_ready (rs := [23]) (by kernel_rfl) (by simp) ?_
    refine AllReadyH.cons rfl (fun K hK => ?_) ?_
    go_simp
    go_wp2_with (go_at_call 32; (with_reducible refine Calls.mono (CO2.out _) ?_); rintro e1 w7 ⟨rfl, hb13⟩)
    replace K11 := Lib.hid (K11.out.bw hb13)
    refine hK.out _ _ (hS.trans hb13) (fun hS => ?_)
    clear hK K
    clear hb13
    refine take1 (i := 24) (some 78) rfl rfl (by kernel_rfl) (by kernel_rfl) (by kernel_rfl) (fun _ _ _ _ h => h) rfl hS ?_
    refine Exists.intro (.agg #[.int .i64 x0, .int .i64 x2, .int .i64 (33 + q1), .int .i64 q4, .int .i64 p00, .int .i64 p01, .int .i64 p02, .int .i64 p10, .int .i64 p11, .int .i64 p12, .int .i64 p20, .int .i64 p21, .int .i64 p22]) ?_
    apply And.intro
    · intro W9 hW9; have y0 := (KX.out.bw hW9).cell e0; have y2 := (KX.out.bw hW9).cell e2; have y3 := (KX.out.bw hW9).cell e3; go_simp; (try go_bits); (try with_reducible rfl); (try trivial)
    simp only [Act.put, List.setIfInBounds_toArray, List.set_cons_zero, List.set_cons_succ]
    refine wpAnyH_ready (rs := [26]) (by kernel_rfl) (by simp) ?_
    refine AllReadyH.cons rfl (fun K hK => ?_) ?_
    rw [if_pos (by rfl)]
    refine wp_store_row0 32 _ _ rfl rfl g11 #[.int .i64 x0, .int .i64 x2, .int .i64 (33 + q1), .int .i64 q4, .int .i64 p00, .int .i64 p01, .int .i64 p02, .int .i64 p10, .int .i64 p11, .int .i64 p12, .int .i64 p20, .int .i64 p21, .int .i64 p22] rfl rfl 32 #[.int .i64 0, .int .i64 0, .int .i64 0, .int .i64 0, .int .i64 0, .int .i64 0, .int .i64 0, .int .i64 0, .int .i64 0, .int .i64 0, .int .i64 0, .int .i64 0, .int .i64 0] K11.out (by kernel_rfl) (by simp) (by simp [Value.oneCell']) ?_
    replace K11 := Lib.hid (K11.out.row #[.int .i64 x0, .int .i64 x2, .int .i64 (33 + q1), .int .i64 q4, .int .i64 p00, .int .i64 p01, .int .i64 p02, .int .i64 p10, .int .i64 p11, .int .i64 p12, .int .i64 p20, .int .i64 p21, .int .i64 p22])
    have hst := Bw.setRow hS H11.out #[.int .i64 x0, .int .i64 x2, .int .i64 (33 + q1), .int .i64 q4, .int .i64 p00, .int .i64 p01, .int .i64 p02, .int .i64 p10, .int .i64 p11, .int .i64 p12, .int .i64 p20, .int .i64 p21, .int .i64 p22]
    refine hK.out _ _ hst (fun hS => ?_)
    clear hK K
    clear hst
    refine wpAnyH_done (by kernel_rfl) ?_ _
    rotate_left
    exact AllReadyH.nil
    exact AllReadyH.nil
    exact AllReadyH.nil
    refine AllReadyH.cons rfl (fun K hK => ?_) ?_
    rw [if_pos (by rfl)]
    refine wp_alloc_new28 32 rfl (some 11) rfl _ (zeroPg _) ?_
    intro g11 w6 hg9 hN hbw
    simp only [Act.put, List.setIfInBounds_toArray, List.set_cons_zero, List.set_cons_succ]
    have K11 := Lib.hid hN
    have H11 := Lib.hid (Nat.le_trans hS.size hg9)
    clear hN
    refine hK.out _ _ (hS.trans hbw) (fun hS => ?_)
    clear hK K
    clear hbw hg9
    refine wpAnyH_ready (rs := [20]) (by kernel_rfl) (by simp) ?_
    refine AllReadyH.cons rfl (fun K hK => ?_) ?_
    go_simp
    go_wp2_with (go_at_call 32; (with_reducible refine Calls.mono (CO1.out _) ?_); rintro e1 w7 ⟨rfl, hb13⟩)
    replace K11 := Lib.hid (K11.out.bw hb13)
    refine hK.out _ _ (hS.trans hb13) (fun hS => ?_)
    clear hK K
    clear hb13
    refine wpAnyH_ready (rs := [23]) (by kernel_rfl) (by simp) ?_
    refine AllReadyH.cons rfl (fun K hK => ?_) ?_
    go_simp
    go_wp2_with (go_at_call 32; (with_reducible refine Calls.mono (CO2.out _) ?_); rintro e1 w7 ⟨rfl, hb13⟩)
    replace K11 := Lib.hid (K11.out.bw hb13)
    refine hK.out _ _ (hS.trans hb13) (fun hS => ?_)
    clear hK K
    clear hb13
    refine take1 (i := 24) (some 78) rfl rfl (by kernel_rfl) (by kernel_rfl) (by kernel_rfl) (fun _ _ _ _ h => h) rfl hS ?_
    refine Exists.intro (.agg #[.int .i64 x0, .int .i64 x2, .int .i64 (33 + q1), .int .i64 q4, .int .i64 p00, .int .i64 p01, .int .i64 p02, .int .i64 p10, .int .i64 p11, .int .i64 p12, .int .i64 p20, .int .i64 p21, .int .i64 p22]) ?_
    apply And.intro
    · intro W9 hW9; have y0 := (KX.out.bw hW9).cell e0; have y2 := (KX.out.bw hW9).cell e2; have y3 := (KX.out.bw hW9).cell e3; go_simp; (try go_bits); (try with_reducible rfl); (try trivial)
    simp only [Act.put, List.setIfInBounds_toArray, List.set_cons_zero, List.set_cons_succ]
    refine wpAnyH_ready (rs := [26]) (by kernel_rfl) (by simp) ?_
    refine AllReadyH.cons rfl (fun K hK => ?_) ?_
    rw [if_pos (by rfl)]
    refine wp_store_row0 32 _ _ rfl rfl g11 #[.int .i64 x0, .int .i64 x2, .int .i64 (33 + q1), .int .i64 q4, .int .i64 p00, .int .i64 p01, .int .i64 p02, .int .i64 p10, .int .i64 p11, .int .i64 p12, .int .i64 p20, .int .i64 p21, .int .i64 p22] rfl rfl 32 #[.int .i64 0, .int .i64 0, .int .i64 0, .int .i64 0, .int .i64 0, .int .i64 0, .int .i64 0, .int .i64 0, .int .i64 0, .int .i64 0, .int .i64 0, .int .i64 0, .int .i64 0] K11.out (by kernel_rfl) (by simp) (by simp [Value.oneCell']) ?_
    replace K11 := Lib.hid (K11.out.row #[.int .i64 x0, .int .i64 x2, .int .i64 (33 + q1), .int .i64 q4, .int .i64 p00, .int .i64 p01, .int .i64 p02, .int .i64 p10, .int .i64 p11, .int .i64 p12, .int .i64 p20, .int .i64 p21, .int .i64 p22])
    have hst := Bw.setRow hS H11.out #[.int .i64 x0, .int .i64 x2, .int .i64 (33 + q1), .int .i64 q4, .int .i64 p00, .int .i64 p01, .int .i64 p02, .int .i64 p10, .int .i64 p11, .int .i64 p12, .int .i64 p20, .int .i64 p21, .int .i64 p22]
    refine hK.out _ _ hst (fun hS => ?_)
    clear hK K
    clear hst
    refine wpAnyH_done (by kernel_rfl) ?_ _
    rotate_left
    exact AllReadyH.nil
    exact AllReadyH.nil
    exact AllReadyH.nil
    exact AllReadyH.nil
    refine AllReadyH.cons rfl (fun K hK => ?_) ?_
    rw [if_pos (by rfl)]
    refine wp_alloc_new28 32 rfl (some 11) rfl _ (zeroPg _) ?_
    intro g11 w6 hg9 hN hbw
    simp only [Act.put, List.setIfInBounds_toArray, List.set_cons_zero, List.set_cons_succ]
    have K11 := Lib.hid hN
    have H11 := Lib.hid (Nat.le_trans hS.size hg9)
    clear hN
    refine hK.out _ _ (hS.trans hbw) (fun hS => ?_)
    clear hK K
    clear hbw hg9
    refine wpAnyH_ready (rs := [17]) (by kernel_rfl) (by simp) ?_
    refine AllReadyH.cons rfl (fun K hK => ?_) ?_
    go_simp
    go_wp2_with (go_at_call 32; (with_reducible refine Calls.mono (CO0.out _) ?_); rintro e1 w7 ⟨rfl, hb13⟩)
    replace K11 := Lib.hid (K11.out.bw hb13)
    refine hK.out _ _ (hS.trans hb13) (fun hS => ?_)
    clear hK K
    clear hb13
    refine wpAnyH_ready (rs := [20]) (by kernel_rfl) (by simp) ?_
    refine AllReadyH.cons rfl (fun K hK => ?_) ?_
    go_simp
    go_wp2_with (go_at_call 32; (with_reducible refine Calls.mono (CO1.out _) ?_); rintro e1 w7 ⟨rfl, hb13⟩)
    replace K11 := Lib.hid (K11.out.bw hb13)
    refine hK.out _ _ (hS.trans hb13) (fun hS => ?_)
    clear hK K
    clear hb13
    refine wpAnyH_ready (rs := [23]) (by kernel_rfl) (by simp) ?_
    refine AllReadyH.cons rfl (fun K hK => ?_) ?_
    go_simp
    go_wp2_with (go_at_call 32; (with_reducible refine Calls.mono (CO2.out _) ?_); rintro e1 w7 ⟨rfl, hb13⟩)
    replace K11 := Lib.hid (K11.out.bw hb13)
    refine hK.out _ _ (hS.trans hb13) (fun hS => ?_)
    clear hK K
    clear hb13
    refine take1 (i := 24) (some 78) rfl rfl (by kernel_rfl) (by kernel_rfl) (by kernel_rfl) (fun _ _ _ _ h => h) rfl hS ?_
    refine Exists.intro (.agg #[.int .i64 x0, .int .i64 x2, .int .i64 (33 + q1), .int .i64 q4, .int .i64 p00, .int .i64 p01, .int .i64 p02, .int .i64 p10, .int .i64 p11, .int .i64 p12, .int .i64 p20, .int .i64 p21, .int .i64 p22]) ?_
    apply And.intro
    · intro W9 hW9; have y0 := (KX.out.bw hW9).cell e0; have y2 := (KX.out.bw hW9).cell e2; have y3 := (KX.out.bw hW9).cell e3; go_simp; (try go_bits); (try with_reducible rfl); (try trivial)
    simp only [Act.put, List.setIfInBounds_toArray, List.set_cons_zero, List.set_cons_succ]
    refine wpAnyH_ready (rs := [26]) (by kernel_rfl) (by simp) ?_
    refine AllReadyH.cons rfl (fun K hK => ?_) ?_
    rw [if_pos (by rfl)]
    refine wp_store_row0 32 _ _ rfl rfl g11 #[.int .i64 x0, .int .i64 x2, .int .i64 (33 + q1), .int .i64 q4, .int .i64 p00, .int .i64 p01, .int .i64 p02, .int .i64 p10, .int .i64 p11, .int .i64 p12, .int .i64 p20, .int .i64 p21, .int .i64 p22] rfl rfl 32 #[.int .i64 0, .int .i64 0, .int .i64 0, .int .i64 0, .int .i64 0, .int .i64 0, .int .i64 0, .int .i64 0, .int .i64 0, .int .i64 0, .int .i64 0, .int .i64 0, .int .i64 0] K11.out (by kernel_rfl) (by simp) (by simp [Value.oneCell']) ?_
    replace K11 := Lib.hid (K11.out.row #[.int .i64 x0, .int .i64 x2, .int .i64 (33 + q1), .int .i64 q4, .int .i64 p00, .int .i64 p01, .int .i64 p02, .int .i64 p10, .int .i64 p11, .int .i64 p12, .int .i64 p20, .int .i64 p21, .int .i64 p22])
    have hst := Bw.setRow hS H11.out #[.int .i64 x0, .int .i64 x2, .int .i64 (33 + q1), .int .i64 q4, .int .i64 p00, .int .i64 p01, .int .i64 p02, .int .i64 p10, .int .i64 p11, .int .i64 p12, .int .i64 p20, .int .i64 p21, .int .i64 p22]
    refine hK.out _ _ hst (fun hS => ?_)
    clear hK K
    clear hst
    refine wpAnyH_done (by kernel_rfl) ?_ _
    rotate_left
    exact AllReadyH.nil
    exact AllReadyH.nil
    exact AllReadyH.nil
    exact AllReadyH.nil
    exact AllReadyH.nil
    all_goals
      go_wp2
      go_meet
      exact ⟨g11, rfl, H11.out, Lib.hid (HW.out.trans hS), Lib.hid hS, Lib.hid (by rw [HP0.out]; exact K11.out)⟩
  case rest =>
    obtain ⟨g11, rfl, hg11, HWN, HUB, K8⟩ := hcut
    clear e0 e2 e3 HP0 HW CO0 CO1 CO2 R0 R1 R2 hq1 hq4 hqb hNb wx3 KX
    have HW := HWN
    have HGX := Lib.hid (show g + 1 < g11 by have := KP.out.lt; omega)
    replace KP := Lib.hid (KP.out.bw HUB.out)
    clear HUB HWN hg11
    by_cases c9 : errPg C = 0
    case neg =>
      have HQ := Lib.hid (HE0.out c9)
      have c9z : (errPg C != 0) = true := by simpa using c9
      generalize errPg C = ec at *
      clear c9 HE0 HE1
      go_wp2_with (first | ((with_reducible refine at_load 32 (.tmp 11) ?_); refine wpList_load_row rfl 32 _ rfl g11 rfl 32 (pgV C) (0, 0) _ K8.out Tryd.underlying32 rfl (by kernel_rfl) ?_) | (go_at_call 33; (with_reducible refine Calls.mono (PK.out _) ?_); rintro e1 w7 ⟨rfl, hb1⟩; replace K8 := Lib.hid (K8.out.bw hb1); replace KP := Lib.hid (KP.out.bw hb1); replace HW := Lib.hid (HW.out.trans hb1); clear hb1) | ((with_reducible refine at_store 32 (.tmp 4) (.tmp 82) ?_); refine wpList_store_row rfl 32 (.tmp 4) (.tmp 82) rfl (g + 1) #[.int .i64 0, .int .i64 0, .int .i64 0, .int .i64 0, .int .i64 0, .int .i64 0, .int .i64 0, .int .i64 0, .int .i64 0, .int .i64 0, .int .i64 0, .int .i64 0, .int .i64 0] rfl rfl 32 _ KP.out (by kernel_rfl) rfl (by simp [Value.oneCell', pgV]) ?_))
      have F9 := KP.out.row #[.int .i64 0, .int .i64 0, .int .i64 0, .int .i64 0, .int .i64 0, .int .i64 0, .int .i64 0, .int .i64 0, .int .i64 0, .int .i64 0, .int .i64 0, .int .i64 0, .int .i64 0]
      have B9 := Bw.setRow HW.out (show w.heap.size ≤ g + 1 by have := HG.out; omega) #[.int .i64 0, .int .i64 0, .int .i64 0, .int .i64 0, .int .i64 0, .int .i64 0, .int .i64 0, .int .i64 0, .int .i64 0, .int .i64 0, .int .i64 0, .int .i64 0, .int .i64 0]
      refine bodyPost_ret (v := .tuple #[.agg #[.int .i64 0, .int .i64 0, .int .i64 0, .int .i64 0, .int .i64 0, .int .i64 0, .int .i64 0, .int .i64 0, .int .i64 0, .int .i64 0, .int .i64 0, .int .i64 0, .int .i64 0], .int .i64 5]) ?_ rfl ⟨by rw [HQ.out.1, HQ.out.2], B9⟩
      exact results_two_row (p := 4) (u := 5) rfl _ _ (g + 1) _ rfl (run_loadVar_row _ (g + 1) 32 32 #[.int .i64 0, .int .i64 0, .int .i64 0, .int .i64 0, .int .i64 0, .int .i64 0, .int .i64 0, .int .i64 0, .int .i64 0, .int .i64 0, .int .i64 0, .int .i64 0, .int .i64 0] (0, 0) _ F9 Tryd.underlying32 rfl (by kernel_rfl))
    case pos =>
      have HQ := Lib.hid (HE1.out c9)
      rw [c9] at PK
      clear c9 HE0 HE1
      go_wp2_with (first | ((with_reducible refine at_load 32 (.tmp 11) ?_); refine wpList_load_row rfl 32 _ rfl g11 rfl 32 (pgV C) (0, 0) _ K8.out Tryd.underlying32 rfl (by kernel_rfl) ?_) | (go_at_call 33; (with_reducible refine Calls.mono (PK.out _) ?_); rintro e1 w7 ⟨rfl, hb1⟩; replace K8 := Lib.hid (K8.out.bw hb1); replace KP := Lib.hid (KP.out.bw hb1); replace HW := Lib.hid (HW.out.trans hb1); clear hb1) | ((with_reducible refine at_store 32 (.tmp 4) (.tmp 83) ?_); refine wpList_store_row rfl 32 (.tmp 4) (.tmp 83) rfl (g + 1) (pgV C) rfl rfl 32 _ KP.out (by kernel_rfl) rfl (by simp [Value.oneCell', pgV]) ?_))
      have F9 := KP.out.row (pgV C)
      have B9 := Bw.setRow HW.out (show w.heap.size ≤ g + 1 by have := HG.out; omega) (pgV C)
      refine bodyPost_ret (v := .tuple #[.agg (pgV C), .int .i64 0]) ?_ rfl ⟨by rw [HQ.out.1, HQ.out.2], B9⟩
      exact results_two_row (p := 4) (u := 5) rfl _ _ (g + 1) _ rfl (run_loadVar_row _ (g + 1) 32 32 (pgV C) (0, 0) _ F9 Tryd.underlying32 rfl (by kernel_rfl))
theorem RCoarse28_any (X : Nat → Int) (h : Int) (w : World) : Calls Tryd.prog 9 #[.agg (eV X), .int .i64 h] w fun e w' => e = .returned (.tuple #[.agg (pgV (cgX X h)), .int .i64 (cgE X h)]) ∧ Bw w w' := by
  by_cases hE : errE X = 0
  · by_cases h1 : h = 1
    · exact RCoarse_1 X h h1 hE w
    · by_cases h2 : h = 2
      · exact RCoarse_2 X h h2 hE w
      · exact RCoarse_hours X h hE h1 h2 w
  · exact RCoarse_err X h hE w
theorem Coarse28_any (X : Nat → Int) (h : Int) (w : World) (hw : WdAt w) : Calls Tryd.prog 8 #[.agg (eV X), .int .i64 h] w fun e w' => e = .returned (.tuple #[.agg (pgV (cgX X h)), .int .i64 (cgE X h)]) ∧ Bw w w' := by
  by_cases hE : errE X = 0
  · by_cases h1 : h = 1
    · exact Coarse_1 X h h1 hE w hw
    · by_cases h2 : h = 2
      · exact Coarse_2 X h h2 hE w hw
      · exact Coarse_hours X h hE h1 h2 w hw
  · exact Coarse_err X h hE w hw
end Go.Proofs.Sky
