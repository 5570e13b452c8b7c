/-
  lemmas for the theorems of this claim. No conditions beyond those written in the statements.
-/
import Derived.Test.YtgeojbmhkmmedaaM28
import Derived.Test.YtgeojbmhkmmedaaP28
set_option linter.unusedVariables false
set_option linter.unusedSimpArgs false
set_option linter.unnecessarySimpa false
namespace Go.Proofs.Sky
open Go Go.RowKit Go.Shelf
set_option maxHeartbeats 4000000
set_option maxRecDepth 8000
/-! chapter 28: Speed, the walk -/
/-- the bound of the velocity of an axis -/
def spQ (c1 c2 c3 : Int) : Int := ((c1.natAbs : Int) * 67108864 + 2 * (c2.natAbs : Int) * 7200 * 65536 + 3 * (c3.natAbs : Int) * 7200 * 7200 + 67108864 - 1) / 67108864
def spE (X : Nat → Int) (j : Nat) : Int := if errE X = 0 then spQ (X (7 + 4 * j + 1)) (X (7 + 4 * j + 2)) (X (7 + 4 * j + 3)) else 0
theorem Speed28_any (X : Nat → Int) (w : World) : Calls Try.prog 17 #[.agg (eV X)] w fun e w' => e = .returned (.tuple #[.agg (l3V (spE X)), .int .i64 (errE X)]) ∧ Bw w w' := by
  have CK := Lib.hid (fun W => ECheck_any X W)
  have KX := Lib.hid ((Blk.new w 25 (eV X)).alloc (.cells #[.int .i64 0, .int .i64 0, .int .i64 0] 27))
  have KP := Lib.hid (show Blk ((w.alloc (.cells (eV X) 25)).alloc (.cells #[.int .i64 0, .int .i64 0, .int .i64 0] 27)) (w.heap.size + 1) 27 #[.int .i64 0, .int .i64 0, .int .i64 0] from by have h9 := Blk.new (w.alloc (.cells (eV X) 25)) 27 #[.int .i64 0, .int .i64 0, .int .i64 0]; simp only [World.size_alloc] at h9; exact h9)
  have HW := Lib.hid (Bw.alloc (Bw.alloc (Bw.refl w) (.cells (eV X) 25)) (.cells #[.int .i64 0, .int .i64 0, .int .i64 0] 27))
  have HSZ : Hid ((Try.prog.info? 25).map (·.size) = some (eV X).size) := Lib.hid (by kernel_rfl)
  have HRA := Lib.hid (fun W g i hi (hB : Blk W g 25 (eV X)) => rdI_ax hB i hi)
  obtain ⟨g, hg⟩ : ∃ g, w.heap.size = g := ⟨_, rfl⟩
  rw [hg] at KX KP
  have HG := Lib.hid hg
  have HBD := Lib.hid (fun (h : errE X = 0) j hj => ax_bd h j hj)
  have HPS := Lib.hid (show ∀ j, spE X j = if errE X = 0 then spQ (X (7 + 4 * j + 1)) (X (7 + 4 * j + 2)) (X (7 + 4 * j + 3)) else 0 from fun j => rfl)
  generalize spE X = PSF at *
  generalize errE X = er at *
  have HCX := Lib.hid (fun i (hi : i < 19) => eV_at X i hi)
  obtain ⟨A, hA⟩ : ∃ A, A = eV X := ⟨_, rfl⟩
  rw [← hA] at CK KX KP HW HSZ HRA HCX ⊢
  clear hA
  go_enter Try.func17, Try.ntmps17
  go_upto_region 1 with fail
  obtain ⟨W0, hW0⟩ : ∃ W0, (w.alloc (.cells A 25)).alloc (.cells #[.int .i64 0, .int .i64 0, .int .i64 0] 27) = W0 := ⟨_, rfl⟩
  rw [hW0] at KX KP HW ⊢
  clear hW0 hg
  go_upto_region 2 with (first | ((with_reducible refine at_load 25 (.tmp 1) ?_); refine wpList_load_row rfl 25 _ rfl g rfl 25 A (0, 0) _ KX.out Try.underlying25 rfl HSZ.out ?_) | (go_at_call 37; (with_reducible refine Calls.mono (CK.out _) ?_); rintro e1 w1 ⟨rfl, hb1⟩; replace KX := Lib.hid (KX.out.bw hb1); replace KP := Lib.hid (KP.out.bw hb1); replace HW := Lib.hid (HW.out.trans hb1); clear hb1))
  by_cases c1 : er = 0
  case neg =>
    have c1z : (er != 0) = true := by simpa using c1
    have HR := Lib.hid (show l3V PSF = #[.int .i64 0, .int .i64 0, .int .i64 0] from l3V_congr (y := fun _ => 0) (fun j hj => by rw [HPS.out j, if_neg c1]))
    clear c1
    go_wp2_with ((with_reducible refine at_store 27 (.tmp 2) (.tmp 12) ?_); refine wpList_store_row rfl 27 (.tmp 2) (.tmp 12) rfl (g + 1) #[.int .i64 0, .int .i64 0, .int .i64 0] rfl rfl 27 _ KP.out (by kernel_rfl) rfl (by simp [Value.oneCell', l3V]) ?_)
    have F9 := KP.out.row #[.int .i64 0, .int .i64 0, .int .i64 0]
    have B9 := Bw.setRow HW.out (show w.heap.size ≤ g + 1 by have := HG.out; omega) #[.int .i64 0, .int .i64 0, .int .i64 0]
    refine bodyPost_ret (v := .tuple #[.agg #[.int .i64 0, .int .i64 0, .int .i64 0], .int .i64 er]) ?_ rfl ⟨by rw [HR.out], B9⟩
    exact results_two_row (p := 2) (u := 3) rfl _ _ (g + 1) _ rfl (run_loadVar_row _ (g + 1) 27 27 #[.int .i64 0, .int .i64 0, .int .i64 0] (0, 0) _ F9 Try.underlying27 rfl (by kernel_rfl))
  have HBX := Lib.hid (HBD.out c1)
  subst c1
  have HPJ := Lib.hid (show ∀ j, PSF j = spQ (X (7 + 4 * j + 1)) (X (7 + 4 * j + 2)) (X (7 + 4 * j + 3)) from fun j => by rw [HPS.out j, if_pos rfl])
  clear HBD HPS CK
  have AX := Lib.hid (fun W => axes28_any g W)
  have HG8 := Lib.hid (show g + 1 < w1.heap.size from KP.out.lt)
  have KL := Lib.hid (show Blk (w1.alloc (.cells #[.int .i64 0, .int .i64 0, .int .i64 0] 22)) w1.heap.size 22 (l3V (fun _ => 0)) from Blk.new w1 22 #[.int .i64 0, .int .i64 0, .int .i64 0])
  have hb8 := Bw.alloc (Bw.refl w1) (.cells #[.int .i64 0, .int .i64 0, .int .i64 0] 22)
  replace KX := Lib.hid (KX.out.bw hb8); replace KP := Lib.hid (KP.out.bw hb8); replace HW := Lib.hid (HW.out.trans hb8)
  obtain ⟨g8, hg8⟩ : ∃ g8, w1.heap.size = g8 := ⟨_, rfl⟩
  rw [hg8] at KL HG8
  clear hb8
  go_upto_region 5 with fail
  obtain ⟨W2, hW2⟩ : ∃ W2, w1.alloc (.cells #[.int .i64 0, .int .i64 0, .int .i64 0] 22) = W2 := ⟨_, rfl⟩
  rw [hW2] at KX KP HW KL ⊢
  clear hW2 hg8
  go_wp2_with (go_at_call 21; (with_reducible refine Calls.mono (AX.out _) ?_); rintro e1 w3 ⟨⟨ga, rfl, hga, hpg⟩, hb1⟩; have KA := Lib.hid hpg; have HGA := Lib.hid (show g8 < ga by have := KL.out.lt; omega); replace KX := Lib.hid (KX.out.bw hb1); replace KP := Lib.hid (KP.out.bw hb1); replace KL := Lib.hid (KL.out.bw hb1); replace HW := Lib.hid (HW.out.trans hb1); clear hb1 hpg hga)
  go_loopg [16] 3 (fun gg s23 wr => ∃ i : Nat, i ≤ 3 ∧ 3 - i ≤ gg ∧ s23 = .int .i64 i ∧ Hid (Bw w wr) ∧ Hid (Blk wr g 25 A) ∧ Hid (Blk wr (g + 1) 27 #[.int .i64 0, .int .i64 0, .int .i64 0]) ∧ Hid (Blk wr ga 47 #[.pointer (some ⟨g, 7, none⟩), .pointer (some ⟨g, 11, none⟩), .pointer (some ⟨g, 15, none⟩)]) ∧ ∃ L, Hid (Blk wr g8 22 (l3V L)) ∧ Hid (∀ j, j < i → L j = PSF j))
  case atStart => exact ⟨0, by omega, by omega, rfl, HW, KX, KP, KA, fun _ => 0, KL, Lib.hid (fun j hj => absurd hj (by omega))⟩
  case round =>
    clear KX KP KA KL HW
    obtain ⟨i, hi, hgg, rfl, HW, KX, KP, KA, L, KL, HL⟩ := hrel
    obtain ⟨wb, rfl⟩ : ∃ wb, wb = wr := ⟨_, rfl⟩
    by_cases c3 : i < 3
    case neg =>
      have c3z : ¬ (i : Int) < 3 := by omega
      obtain rfl : i = 3 := by omega
      have PTC : Hid (∀ W, Calls Try.prog 25 #[.agg (l3V PSF)] W fun e w' => e = .returned (.agg (l3V PSF)) ∧ Bw W w') := Lib.hid (fun W => point28_any (PSF 0) (PSF 1) (PSF 2) W)
      rw [l3V_congr (fun j hj => HL.out j hj)] at KL
      go_wp2_with (first | ((with_reducible refine at_load 22 (.tmp 5) ?_); refine wpList_load_row rfl 22 _ rfl g8 rfl 22 (l3V PSF) (0, 0) _ KL.out Try.underlying22 rfl (by kernel_rfl) ?_) | (go_at_call 25; (with_reducible refine Calls.mono (PTC.out _) ?_); rintro e1 w7 ⟨rfl, hb1⟩; replace KP := Lib.hid (KP.out.bw hb1); replace HW := Lib.hid (HW.out.trans hb1); clear hb1) | ((with_reducible refine at_store 27 (.tmp 2) (.tmp 50) ?_); refine wpList_store_row rfl 27 (.tmp 2) (.tmp 50) rfl (g + 1) (l3V PSF) rfl rfl 27 _ KP.out (by kernel_rfl) rfl (by simp [Value.oneCell', l3V]) ?_))
      have F9 := KP.out.row (l3V PSF)
      have B9 := Bw.setRow HW.out (show w.heap.size ≤ g + 1 by have := HG.out; omega) (l3V PSF)
      refine bodyPost_ret (v := .tuple #[.agg (l3V PSF), .int .i64 0]) ?_ rfl ⟨rfl, B9⟩
      exact results_two_row (p := 2) (u := 3) rfl _ _ (g + 1) _ rfl (run_loadVar_row _ (g + 1) 27 27 (l3V PSF) (0, 0) _ F9 Try.underlying27 rfl (by kernel_rfl))
    case pos =>
      have c3z : (i : Int) < 3 := by omega
      have hi0 : (0 : Int) ≤ i := by omega
      obtain ⟨b0, b1, b2, b3⟩ := HBX.out i c3
      have HPI := Lib.hid (show PSF i = spQ (X (7 + 4 * i + 1)) (X (7 + 4 * i + 2)) (X (7 + 4 * i + 3)) from HPJ.out i)
      have e1 := HCX.out (7 + 4 * i + 1) (by omega)
      have e2 := HCX.out (7 + 4 * i + 2) (by omega)
      have e3 := HCX.out (7 + 4 * i + 3) (by omega)
      generalize X (7 + 4 * i + 1) = x1 at *
      generalize X (7 + 4 * i + 2) = x2 at *
      generalize X (7 + 4 * i + 3) = x3 at *
      have SZ1 := Lib.hid (fun W => size28_any x1 (by omega) W)
      have SZ2 := Lib.hid (fun W => size28_any x2 (by omega) W)
      have SZ3 := Lib.hid (fun W => size28_any x3 (by omega) W)
      have UPC0 := fun S (hS : 0 ≤ S ∧ S ≤ 4000000000000000000) W => up28_any S 67108864 hS (by decide) W
      unfold spQ at HPI
      obtain ⟨n1, hn1⟩ : ∃ n1, n1 = x1.natAbs := ⟨_, rfl⟩
      obtain ⟨n2, hn2⟩ : ∃ n2, n2 = x2.natAbs := ⟨_, rfl⟩
      obtain ⟨n3, hn3⟩ : ∃ n3, n3 = x3.natAbs := ⟨_, rfl⟩
      rw [← hn1] at HPI SZ1 b1
      rw [← hn2] at HPI SZ2 b2
      rw [← hn3] at HPI SZ3 b3
      clear hn1 hn2 hn3 b0
      obtain ⟨S, hSe⟩ : ∃ S : Int, S = (n1 : Int) * 67108864 + 2 * (n2 : Int) * 7200 * 65536 + 3 * (n3 : Int) * 7200 * 7200 := ⟨_, rfl⟩
      have UPC := Lib.hid (fun W => UPC0 S (by omega) W)
      rw [← hSe] at HPI
      have hSz : (n1 : Int) * 67108864 + 2 * (n2 : Int) * 7200 * 65536 + 3 * (n3 : Int) * 7200 * 7200 = S := hSe.symm
      have hws : IntKind.i64.wrap S = S := by rw [IntKind.wrap_i64]; omega
      clear hSe UPC0
      have z1 : (0 : Int) ≤ n1 ∧ (n1 : Int) ≤ 8388608 := by omega
      have z2 : (0 : Int) ≤ n2 ∧ (n2 : Int) ≤ 2097152 := by omega
      have z3 : (0 : Int) ≤ n3 ∧ (n3 : Int) ≤ 8388608 := by omega
      clear b1 b2 b3
      obtain ⟨CQ, hCQ⟩ : ∃ CQ, CQ = (S + 67108864 - 1) / 67108864 := ⟨_, rfl⟩
      rw [← hCQ] at HPI UPC
      clear hCQ
      have pc := KA.out.cell (ps_at g i c3)
      go_upto_region 8 with fail
      clear pc
      refine wp_region_held_drew (S := Kx g8 wb) (by kernel_rfl) (Kx.of_bw (Bw.drew (Bw.refl _)) (Nat.le_of_lt KL.out.lt)) (fun hS => ?_)
      replace KL := Lib.hid (KL.out.bw (Bw.drew (Bw.refl _)))
      generalize World.drew _ = wd at hS KL ⊢
      refine take1 (i := 0) (some 21) rfl rfl (by kernel_rfl) (by kernel_rfl) (by kernel_rfl) (fun _ _ _ _ h => h) rfl hS ?_
      apply Exists.intro
      apply And.intro
      · intro W9 hW9; have y1 := (hW9.blk KX.out (by have := HG8.out; omega)).cell e1; have y2 := (hW9.blk KX.out (by have := HG8.out; omega)).cell e2; have y3 := (hW9.blk KX.out (by have := HG8.out; omega)).cell e3; go_simp; try with_reducible rfl
      simp only [Act.put, List.setIfInBounds_toArray, List.set_cons_zero, List.set_cons_succ]
      refine take1 (i := 1) (some 22) rfl rfl (by kernel_rfl) (by kernel_rfl) (by kernel_rfl) (fun _ _ _ _ h => h) rfl hS ?_
      apply Exists.intro
      apply And.intro
      · intro W9 hW9; have y1 := (hW9.blk KX.out (by have := HG8.out; omega)).cell e1; have y2 := (hW9.blk KX.out (by have := HG8.out; omega)).cell e2; have y3 := (hW9.blk KX.out (by have := HG8.out; omega)).cell e3; go_simp; try with_reducible rfl
      simp only [Act.put, List.setIfInBounds_toArray, List.set_cons_zero, List.set_cons_succ]
      refine take1 (i := 2) (some 23) rfl rfl (by kernel_rfl) (by kernel_rfl) (by kernel_rfl) (fun _ _ _ _ h => h) rfl hS ?_
      apply Exists.intro
      apply And.intro
      · intro W9 hW9; have y1 := (hW9.blk KX.out (by have := HG8.out; omega)).cell e1; have y2 := (hW9.blk KX.out (by have := HG8.out; omega)).cell e2; have y3 := (hW9.blk KX.out (by have := HG8.out; omega)).cell e3; go_simp; try with_reducible rfl
      simp only [Act.put, List.setIfInBounds_toArray, List.set_cons_zero, List.set_cons_succ]
      refine take1 (i := 3) (some 24) rfl rfl (by kernel_rfl) (by kernel_rfl) (by kernel_rfl) (fun _ _ _ _ h => h) rfl hS ?_
      apply Exists.intro
      apply And.intro
      · intro W9 hW9; have y1 := (hW9.blk KX.out (by have := HG8.out; omega)).cell e1; have y2 := (hW9.blk KX.out (by have := HG8.out; omega)).cell e2; have y3 := (hW9.blk KX.out (by have := HG8.out; omega)).cell e3; go_simp; try with_reducible rfl
      simp only [Act.put, List.setIfInBounds_toArray, List.set_cons_zero, List.set_cons_succ]
      refine take1 (i := 4) (some 25) rfl rfl (by kernel_rfl) (by kernel_rfl) (by kernel_rfl) (fun _ _ _ _ h => h) rfl hS ?_
      refine Exists.intro (.int .i64 x1) ?_
      apply And.intro
      · intro W9 hW9; have y1 := (hW9.blk KX.out (by have := HG8.out; omega)).cell e1; have y2 := (hW9.blk KX.out (by have := HG8.out; omega)).cell e2; have y3 := (hW9.blk KX.out (by have := HG8.out; omega)).cell e3; go_simp; (try go_bits); (try with_reducible rfl); (try trivial)
      simp only [Act.put, List.setIfInBounds_toArray, List.set_cons_zero, List.set_cons_succ]
      refine take1 (i := 7) (some 28) rfl rfl (by kernel_rfl) (by kernel_rfl) (by kernel_rfl) (fun _ _ _ _ h => h) rfl hS ?_
      apply Exists.intro
      apply And.intro
      · intro W9 hW9; have y1 := (hW9.blk KX.out (by have := HG8.out; omega)).cell e1; have y2 := (hW9.blk KX.out (by have := HG8.out; omega)).cell e2; have y3 := (hW9.blk KX.out (by have := HG8.out; omega)).cell e3; go_simp; try with_reducible rfl
      simp only [Act.put, List.setIfInBounds_toArray, List.set_cons_zero, List.set_cons_succ]
      refine take1 (i := 8) (some 29) rfl rfl (by kernel_rfl) (by kernel_rfl) (by kernel_rfl) (fun _ _ _ _ h => h) rfl hS ?_
      apply Exists.intro
      apply And.intro
      · intro W9 hW9; have y1 := (hW9.blk KX.out (by have := HG8.out; omega)).cell e1; have y2 := (hW9.blk KX.out (by have := HG8.out; omega)).cell e2; have y3 := (hW9.blk KX.out (by have := HG8.out; omega)).cell e3; go_simp; try with_reducible rfl
      simp only [Act.put, List.setIfInBounds_toArray, List.set_cons_zero, List.set_cons_succ]
      refine take1 (i := 9) (some 30) rfl rfl (by kernel_rfl) (by kernel_rfl) (by kernel_rfl) (fun _ _ _ _ h => h) rfl hS ?_
      apply Exists.intro
      apply And.intro
      · intro W9 hW9; have y1 := (hW9.blk KX.out (by have := HG8.out; omega)).cell e1; have y2 := (hW9.blk KX.out (by have := HG8.out; omega)).cell e2; have y3 := (hW9.blk KX.out (by have := HG8.out; omega)).cell e3; go_simp; try with_reducible rfl
      simp only [Act.put, List.setIfInBounds_toArray, List.set_cons_zero, List.set_cons_succ]
      refine take1 (i := 10) (some 31) rfl rfl (by kernel_rfl) (by kernel_rfl) (by kernel_rfl) (fun _ _ _ _ h => h) rfl hS ?_
      refine Exists.intro (.int .i64 x2) ?_
      apply And.intro
      · intro W9 hW9; have y1 := (hW9.blk KX.out (by have := HG8.out; omega)).cell e1; have y2 := (hW9.blk KX.out (by have := HG8.out; omega)).cell e2; have y3 := (hW9.blk KX.out (by have := HG8.out; omega)).cell e3; go_simp; (try go_bits); (try with_reducible rfl); (try trivial)
      simp only [Act.put, List.setIfInBounds_toArray, List.set_cons_zero, List.set_cons_succ]
      refine take1 (i := 16) (some 37) rfl rfl (by kernel_rfl) (by kernel_rfl) (by kernel_rfl) (fun _ _ _ _ h => h) rfl hS ?_
      apply Exists.intro
      apply And.intro
      · intro W9 hW9; have y1 := (hW9.blk KX.out (by have := HG8.out; omega)).cell e1; have y2 := (hW9.blk KX.out (by have := HG8.out; omega)).cell e2; have y3 := (hW9.blk KX.out (by have := HG8.out; omega)).cell e3; go_simp; try with_reducible rfl
      simp only [Act.put, List.setIfInBounds_toArray, List.set_cons_zero, List.set_cons_succ]
      refine take1 (i := 17) (some 38) rfl rfl (by kernel_rfl) (by kernel_rfl) (by kernel_rfl) (fun _ _ _ _ h => h) rfl hS ?_
      apply Exists.intro
      apply And.intro
      · intro W9 hW9; have y1 := (hW9.blk KX.out (by have := HG8.out; omega)).cell e1; have y2 := (hW9.blk KX.out (by have := HG8.out; omega)).cell e2; have y3 := (hW9.blk KX.out (by have := HG8.out; omega)).cell e3; go_simp; try with_reducible rfl
      simp only [Act.put, List.setIfInBounds_toArray, List.set_cons_zero, List.set_cons_succ]
      refine take1 (i := 18) (some 39) rfl rfl (by kernel_rfl) (by kernel_rfl) (by kernel_rfl) (fun _ _ _ _ h => h) rfl hS ?_
      apply Exists.intro
      apply And.intro
      · intro W9 hW9; have y1 := (hW9.blk KX.out (by have := HG8.out; omega)).cell e1; have y2 := (hW9.blk KX.out (by have := HG8.out; omega)).cell e2; have y3 := (hW9.blk KX.out (by have := HG8.out; omega)).cell e3; go_simp; try with_reducible rfl
      simp only [Act.put, List.setIfInBounds_toArray, List.set_cons_zero, List.set_cons_succ]
      refine take1 (i := 19) (some 40) rfl rfl (by kernel_rfl) (by kernel_rfl) (by kernel_rfl) (fun _ _ _ _ h => h) rfl hS ?_
      refine Exists.intro (.int .i64 x3) ?_
      apply And.intro
      · intro W9 hW9; have y1 := (hW9.blk KX.out (by have := HG8.out; omega)).cell e1; have y2 := (hW9.blk KX.out (by have := HG8.out; omega)).cell e2; have y3 := (hW9.blk KX.out (by have := HG8.out; omega)).cell e3; go_simp; (try go_bits); (try with_reducible rfl); (try trivial)
      simp only [Act.put, List.setIfInBounds_toArray, List.set_cons_zero, List.set_cons_succ]
      refine wpAnyH_ready (rs := [5]) (by kernel_rfl) (by simp) ?_
      refine AllReadyH.cons rfl (fun K hK => ?_) ?_
      go_simp
      go_wp2_with (go_at_call 39; (with_reducible refine Calls.mono (SZ1.out _) ?_); rintro e1 wd ⟨rfl, hb13⟩)
      have hle := Nat.le_of_lt KL.out.lt
      replace KL := Lib.hid (KL.out.bw hb13)
      refine hK.out _ _ (hS.trans (Kx.of_bw hb13 hle)) (fun hS => ?_)
      clear hK K
      clear hb13 hle
      refine take1 (i := 6) (some 27) rfl rfl (by kernel_rfl) (by kernel_rfl) (by kernel_rfl) (fun _ _ _ _ h => h) rfl hS ?_
      refine Exists.intro (.int .i64 ((n1 : Int) * 67108864)) ?_
      apply And.intro
      · intro W9 hW9; have y1 := (hW9.blk KX.out (by have := HG8.out; omega)).cell e1; have y2 := (hW9.blk KX.out (by have := HG8.out; omega)).cell e2; have y3 := (hW9.blk KX.out (by have := HG8.out; omega)).cell e3; go_simp; (try go_bits); (try with_reducible rfl); (try trivial)
      simp only [Act.put, List.setIfInBounds_toArray, List.set_cons_zero, List.set_cons_succ]
      refine wpAnyH_ready (rs := [11]) (by kernel_rfl) (by simp) ?_
      refine AllReadyH.cons rfl (fun K hK => ?_) ?_
      go_simp
      go_wp2_with (go_at_call 39; (with_reducible refine Calls.mono (SZ2.out _) ?_); rintro e1 wd ⟨rfl, hb13⟩)
      have hle := Nat.le_of_lt KL.out.lt
      replace KL := Lib.hid (KL.out.bw hb13)
      refine hK.out _ _ (hS.trans (Kx.of_bw hb13 hle)) (fun hS => ?_)
      clear hK K
      clear hb13 hle
      refine take1 (i := 12) (some 33) rfl rfl (by kernel_rfl) (by kernel_rfl) (by kernel_rfl) (fun _ _ _ _ h => h) rfl hS ?_
      refine Exists.intro (.int .i64 (2 * (n2 : Int))) ?_
      apply And.intro
      · intro W9 hW9; have y1 := (hW9.blk KX.out (by have := HG8.out; omega)).cell e1; have y2 := (hW9.blk KX.out (by have := HG8.out; omega)).cell e2; have y3 := (hW9.blk KX.out (by have := HG8.out; omega)).cell e3; go_simp; (try go_bits); (try with_reducible rfl); (try trivial)
      simp only [Act.put, List.setIfInBounds_toArray, List.set_cons_zero, List.set_cons_succ]
      refine take1 (i := 13) (some 34) rfl rfl (by kernel_rfl) (by kernel_rfl) (by kernel_rfl) (fun _ _ _ _ h => h) rfl hS ?_
      refine Exists.intro (.int .i64 (2 * (n2 : Int) * 7200)) ?_
      apply And.intro
      · intro W9 hW9; have y1 := (hW9.blk KX.out (by have := HG8.out; omega)).cell e1; have y2 := (hW9.blk KX.out (by have := HG8.out; omega)).cell e2; have y3 := (hW9.blk KX.out (by have := HG8.out; omega)).cell e3; go_simp; (try go_bits); (try with_reducible rfl); (try trivial)
      simp only [Act.put, List.setIfInBounds_toArray, List.set_cons_zero, List.set_cons_succ]
      refine take1 (i := 14) (some 35) rfl rfl (by kernel_rfl) (by kernel_rfl) (by kernel_rfl) (fun _ _ _ _ h => h) rfl hS ?_
      refine Exists.intro (.int .i64 (2 * (n2 : Int) * 7200 * 65536)) ?_
      apply And.intro
      · intro W9 hW9; have y1 := (hW9.blk KX.out (by have := HG8.out; omega)).cell e1; have y2 := (hW9.blk KX.out (by have := HG8.out; omega)).cell e2; have y3 := (hW9.blk KX.out (by have := HG8.out; omega)).cell e3; go_simp; (try go_bits); (try with_reducible rfl); (try trivial)
      simp only [Act.put, List.setIfInBounds_toArray, List.set_cons_zero, List.set_cons_succ]
      refine take1 (i := 15) (some 36) rfl rfl (by kernel_rfl) (by kernel_rfl) (by kernel_rfl) (fun _ _ _ _ h => h) rfl hS ?_
      refine Exists.intro (.int .i64 ((n1 : Int) * 67108864 + 2 * (n2 : Int) * 7200 * 65536)) ?_
      apply And.intro
      · intro W9 hW9; have y1 := (hW9.blk KX.out (by have := HG8.out; omega)).cell e1; have y2 := (hW9.blk KX.out (by have := HG8.out; omega)).cell e2; have y3 := (hW9.blk KX.out (by have := HG8.out; omega)).cell e3; go_simp; (try go_bits); (try with_reducible rfl); (try trivial)
      simp only [Act.put, List.setIfInBounds_toArray, List.set_cons_zero, List.set_cons_succ]
      refine wpAnyH_ready (rs := [20]) (by kernel_rfl) (by simp) ?_
      refine AllReadyH.cons rfl (fun K hK => ?_) ?_
      go_simp
      go_wp2_with (go_at_call 39; (with_reducible refine Calls.mono (SZ3.out _) ?_); rintro e1 wd ⟨rfl, hb13⟩)
      have hle := Nat.le_of_lt KL.out.lt
      replace KL := Lib.hid (KL.out.bw hb13)
      refine hK.out _ _ (hS.trans (Kx.of_bw hb13 hle)) (fun hS => ?_)
      clear hK K
      clear hb13 hle
      refine take1 (i := 21) (some 42) rfl rfl (by kernel_rfl) (by kernel_rfl) (by kernel_rfl) (fun _ _ _ _ h => h) rfl hS ?_
      refine Exists.intro (.int .i64 (3 * (n3 : Int))) ?_
      apply And.intro
      · intro W9 hW9; have y1 := (hW9.blk KX.out (by have := HG8.out; omega)).cell e1; have y2 := (hW9.blk KX.out (by have := HG8.out; omega)).cell e2; have y3 := (hW9.blk KX.out (by have := HG8.out; omega)).cell e3; go_simp; (try go_bits); (try with_reducible rfl); (try trivial)
      simp only [Act.put, List.setIfInBounds_toArray, List.set_cons_zero, List.set_cons_succ]
      refine take1 (i := 22) (some 43) rfl rfl (by kernel_rfl) (by kernel_rfl) (by kernel_rfl) (fun _ _ _ _ h => h) rfl hS ?_
      refine Exists.intro (.int .i64 (3 * (n3 : Int) * 7200)) ?_
      apply And.intro
      · intro W9 hW9; have y1 := (hW9.blk KX.out (by have := HG8.out; omega)).cell e1; have y2 := (hW9.blk KX.out (by have := HG8.out; omega)).cell e2; have y3 := (hW9.blk KX.out (by have := HG8.out; omega)).cell e3; go_simp; (try go_bits); (try with_reducible rfl); (try trivial)
      simp only [Act.put, List.setIfInBounds_toArray, List.set_cons_zero, List.set_cons_succ]
      refine take1 (i := 23) (some 44) rfl rfl (by kernel_rfl) (by kernel_rfl) (by kernel_rfl) (fun _ _ _ _ h => h) rfl hS ?_
      refine Exists.intro (.int .i64 (3 * (n3 : Int) * 7200 * 7200)) ?_
      apply And.intro
      · intro W9 hW9; have y1 := (hW9.blk KX.out (by have := HG8.out; omega)).cell e1; have y2 := (hW9.blk KX.out (by have := HG8.out; omega)).cell e2; have y3 := (hW9.blk KX.out (by have := HG8.out; omega)).cell e3; go_simp; (try go_bits); (try with_reducible rfl); (try trivial)
      simp only [Act.put, List.setIfInBounds_toArray, List.set_cons_zero, List.set_cons_succ]
      refine take1 (i := 24) (some 45) rfl rfl (by kernel_rfl) (by kernel_rfl) (by kernel_rfl) (fun _ _ _ _ h => h) rfl hS ?_
      refine Exists.intro (.int .i64 S) ?_
      apply And.intro
      · intro W9 hW9; have y1 := (hW9.blk KX.out (by have := HG8.out; omega)).cell e1; have y2 := (hW9.blk KX.out (by have := HG8.out; omega)).cell e2; have y3 := (hW9.blk KX.out (by have := HG8.out; omega)).cell e3; go_simp; (try simp only [hSz, hws]); (try with_reducible rfl); (try trivial)
      simp only [Act.put, List.setIfInBounds_toArray, List.set_cons_zero, List.set_cons_succ]
      refine wpAnyH_ready (rs := [25]) (by kernel_rfl) (by simp) ?_
      refine AllReadyH.cons rfl (fun K hK => ?_) ?_
      go_simp
      go_wp2_with (go_at_call 38; (with_reducible refine Calls.mono (UPC.out _) ?_); rintro e1 wd ⟨rfl, hb13⟩)
      have hle := Nat.le_of_lt KL.out.lt
      replace KL := Lib.hid (KL.out.bw hb13)
      refine hK.out _ _ (hS.trans (Kx.of_bw hb13 hle)) (fun hS => ?_)
      clear hK K
      clear hb13 hle
      refine take1 (i := 26) (some 47) rfl rfl (by kernel_rfl) (by kernel_rfl) (by kernel_rfl) (fun _ _ _ _ h => h) rfl hS ?_
      apply Exists.intro
      apply And.intro
      · intro W9 hW9; have y1 := (hW9.blk KX.out (by have := HG8.out; omega)).cell e1; have y2 := (hW9.blk KX.out (by have := HG8.out; omega)).cell e2; have y3 := (hW9.blk KX.out (by have := HG8.out; omega)).cell e3; go_simp; try with_reducible rfl
      simp only [Act.put, List.setIfInBounds_toArray, List.set_cons_zero, List.set_cons_succ]
      refine wpAnyH_ready (rs := [27]) (by kernel_rfl) (by simp) ?_
      refine AllReadyH.cons rfl (fun K hK => ?_) ?_
      have lc := KL.out.cell (l3V_at L i c3)
      have lf := KL.out.frozen i
      go_simp
      have hst := Kx.set (j := i) KL.out.lt (.int .i64 CQ)
      replace KL := Lib.hid (KL.out.set i (.int .i64 CQ))
      refine hK.out _ _ (hS.trans hst) (fun hS => ?_)
      clear hK K
      clear hst lc lf
      refine wpAnyH_done (by kernel_rfl) ?_ _
      rotate_left
      exact AllReadyH.nil
      exact AllReadyH.nil
      exact AllReadyH.nil
      exact AllReadyH.nil
      exact AllReadyH.nil
      all_goals
        replace HW := Lib.hid (hS.bw HW.out (by have := HG.out; have := HG8.out; omega))
        replace KX := Lib.hid (hS.blk KX.out (by have := HG8.out; omega))
        replace KP := Lib.hid (hS.blk KP.out (by have := HG8.out; omega))
        replace KA := Lib.hid (hS.blk KA.out (by have := HGA.out; omega))
        rw [l3V_set L i c3] at KL
        go_wp2
        go_roundg (3 - (i + 1))
        case measure => omega
        case rel => exact ⟨i + 1, by omega, by omega, by go_num, HW, KX, KP, KA, _, KL, Lib.hid (fun j hj => by (try dsimp only); by_cases e : j = i; (rw [if_pos e, e, HPI.out]); (rw [if_neg e]; exact HL.out j (by omega)))⟩
end Go.Proofs.Sky

namespace Go.Proofs.Sky
open Go Go.RowKit Go.Shelf
set_option maxHeartbeats 2000000
set_option maxRecDepth 8000
/-! chapter 28: Clock, the walk -/
theorem ck_bd {X : Nat → Int} (h : errE X = 0) : (X 4).natAbs ≤ 2147483648 ∧ (X 5).natAbs ≤ 8388608 ∧ (X 6).natAbs ≤ 32768 := by
  have hp := (errE_parts h).2.1
  have h0 := hp 0 (by omega)
  have h1 := hp 1 (by omega)
  have h2 := hp 2 (by omega)
  unfold okZ at h0 h1 h2
  simp only [decide_eq_true_eq] at h0 h1 h2
  rw [show lowR (clB 0) true = -2147483648 from by decide, show highR (clB 0) true = 2147483647 from by decide] at h0
  rw [show lowR (clB 1) true = -8388608 from by decide, show highR (clB 1) true = 8388607 from by decide] at h1
  rw [show lowR (clB 2) true = -32768 from by decide, show highR (clB 2) true = 32767 from by decide] at h2
  have e0 : -2147483648 ≤ X 4 ∧ X 4 ≤ 2147483647 := h0
  have e1 : -8388608 ≤ X 5 ∧ X 5 ≤ 8388607 := h1
  have e2 : -32768 ≤ X 6 ∧ X 6 ≤ 32767 := h2
  clear h0 h1 h2
  omega
theorem rdI_ck {W : World} {g : Nat} {X : Nat → Int} (hB : Blk W g 25 (eV X)) : RdI W (.slice (some ⟨g, 4, none⟩) 3 3) [X 4, X 5, X 6] := by
  refine ⟨by simp, _, _, rfl, .inr ⟨g, 4, rfl, hB.lt, fun k hk => ?_⟩⟩
  have hk4 : k < 3 := hk
  refine hB.cell ((eV_at X (4 + k) (by omega)).trans ?_)
  match k, hk4 with
  | 0, _ => rfl
  | 1, _ => rfl
  | 2, _ => rfl
def ckE (X : Nat → Int) (t : Int) : Int := if (atE X t).2 = 0 then clkQ (X 4) (X 5) (X 6) (atE X t).1 else 0
theorem Clock28_any (X : Nat → Int) (t : Int) (w : World) : Calls Try.prog 12 #[.agg (eV X), .int .i64 t] w fun e w' => e = .returned (.tuple #[.int .i64 (ckE X t), .int .i64 (atE X t).2]) ∧ Bw w w' := by
  have AT := Lib.hid (fun W => at28_any X t W)
  have KX := Lib.hid (Blk.new w 25 (eV X))
  have HW := Lib.hid (Bw.alloc (Bw.refl w) (.cells (eV X) 25))
  have HSZ : Hid ((Try.prog.info? 25).map (·.size) = some (eV X).size) := Lib.hid (by kernel_rfl)
  have HRA := Lib.hid (fun W g (hB : Blk W g 25 (eV X)) => rdI_ck hB)
  obtain ⟨g, hg⟩ : ∃ g, w.heap.size = g := ⟨_, rfl⟩
  rw [hg] at KX
  have HOK := Lib.hid (fun h => atE_ok (X := X) (t := t) h)
  have HBD := Lib.hid (fun (h : errE X = 0) => ck_bd h)
  have HPS := Lib.hid (show ckE X t = if (atE X t).2 = 0 then clkQ (X 4) (X 5) (X 6) (atE X t).1 else 0 from rfl)
  generalize ckE X t = CE at *
  generalize atE X t = R at *
  obtain ⟨d, er⟩ := R
  dsimp only at AT HOK HPS
  obtain ⟨A, hA⟩ : ∃ A, A = eV X := ⟨_, rfl⟩
  rw [← hA] at AT KX HW HSZ HRA ⊢
  clear hA
  go_enter Try.func12, Try.ntmps12
  go_upto_region 1 with fail
  obtain ⟨W0, hW0⟩ : ∃ W0, w.alloc (.cells A 25) = W0 := ⟨_, rfl⟩
  rw [hW0] at KX HW ⊢
  clear hW0 hg
  go_upto_region 2 with (first | ((with_reducible refine at_load 25 (.tmp 2) ?_); refine wpList_load_row rfl 25 _ rfl g rfl 25 A (0, 0) _ KX.out Try.underlying25 rfl HSZ.out ?_) | (go_at_call 20; (with_reducible refine Calls.mono (AT.out _) ?_); rintro e1 w1 ⟨rfl, hb1⟩; replace KX := Lib.hid (KX.out.bw hb1); replace HW := Lib.hid (HW.out.trans hb1); clear hb1))
  by_cases c1 : er = 0
  case neg =>
    have c1z : (er != 0) = true := by simpa using c1
    have HR := Lib.hid (HPS.out.trans (if_neg c1))
    clear c1
    go_wp2
    refine bodyPost_ret (v := .tuple #[.int .i64 0, .int .i64 er]) ?_ rfl ⟨by rw [HR.out], HW.out⟩
    simp [results, Try.results12, go_sem]
  obtain ⟨hx, hd⟩ := HOK.out c1
  subst c1
  have HR := Lib.hid (HPS.out.trans (if_pos rfl))
  obtain ⟨b0, b1, b2⟩ := HBD.out hx
  have hp4 := (clk3 b0 b1 b2 hd).1
  have OV := Lib.hid (fun W => over_clk b0 b1 b2 hd W)
  have VA : Hid (∀ W v vs, RdI W v [X 4, X 5, X 6] → RdI W vs [40, 24, 0] → Calls Try.prog 22 #[v, vs, .int .i64 d] W fun e w' => e = .returned (.agg (nV (hW d (xsW [X 4, X 5, X 6] [40, 24, 0] 3)).1 (hW d (xsW [X 4, X 5, X 6] [40, 24, 0] 3)).2)) ∧ Bw W w') := Lib.hid (fun W v vs h1 h2 => valued_any [X 4, X 5, X 6] [40, 24, 0] d v vs W h1 h2 (by simp) (by simp) rfl (fun j hj => by
    have hj4 : j < 3 := hj
    rcases (by omega : j = 0 ∨ j = 1 ∨ j = 2) with rfl | rfl | rfl
    · show -9000000000000000000 ≤ X 4 ∧ X 4 ≤ 9000000000000000000; omega
    · show -9000000000000000000 ≤ X 5 ∧ X 5 ≤ 9000000000000000000; omega
    · show -9000000000000000000 ≤ X 6 ∧ X 6 ≤ 9000000000000000000; omega) (fun j hj => by
    have hj4 : j < 3 := hj
    rcases (by omega : j = 0 ∨ j = 1 ∨ j = 2) with rfl | rfl | rfl <;> decide) (by omega) hp4)
  clear hp4 b0 b1 b2 hx hd HBD HOK HPS AT
  have HRX := Lib.hid (fun W (hB : Blk W g 25 A) => HRA.out W g hB)
  clear HRA
  generalize X 4 = x0 at *
  generalize X 5 = x1 at *
  generalize X 6 = x2 at *
  generalize hW d (xsW [x0, x1, x2] [40, 24, 0] 3) = RES at *
  generalize clkQ x0 x1 x2 d = CQ at *
  have TM1 := Lib.hid (fun W => times28 RES 299792458 (by decide) W)
  have UN : Hid (∀ W, Calls Try.prog 24 #[.int .i64 2, .int .i64 50] W fun e w' => e = .returned (.agg (nV (unitW 2 50).1 (unitW 2 50).2)) ∧ Bw W w') := Lib.hid (fun W => unit28_any 2 50 (by decide) (by decide) W)
  generalize unitW 2 50 = UV at *
  have TM2 := Lib.hid (fun W => times28 UV 1000000 (by decide) W)
  generalize timesW RES 299792458 = RS2 at *
  generalize timesW UV 1000000 = UV2 at *
  have RS := Lib.hid (show RdI (w1.alloc (.cells #[.int .i64 40, .int .i64 24, .int .i64 0] 3)) (.slice (some ⟨w1.heap.size, 0, none⟩) 3 3) [40, 24, 0] from RdI.litN w1 #[.int .i64 40, .int .i64 24, .int .i64 0] 3 [40, 24, 0] w1.heap.size rfl (by rfl) (by simp))
  go_upto_region 4 with fail
  go_wp2_with (first | (go_at_call 22; (with_reducible refine Calls.mono (VA.out _ _ _ (HRX.out _ (KX.out.bw (Bw.alloc (Bw.refl w1) (.cells #[.int .i64 40, .int .i64 24, .int .i64 0] 3)))) RS.out) ?_); rintro e1 w4 ⟨rfl, hb1⟩; replace hb1 := (Bw.alloc (Bw.refl w1) (.cells #[.int .i64 40, .int .i64 24, .int .i64 0] 3)).trans hb1; replace KX := Lib.hid (KX.out.bw hb1); replace HW := Lib.hid (HW.out.trans hb1); clear hb1) | (go_at_call 31; (first | (with_reducible refine Calls.mono (TM1.out _) ?_) | (with_reducible refine Calls.mono (TM2.out _) ?_)); rintro e1 w5 ⟨rfl, hb1⟩; replace KX := Lib.hid (KX.out.bw hb1); replace HW := Lib.hid (HW.out.trans hb1); clear hb1) | (go_at_call 24; (with_reducible refine Calls.mono (UN.out _) ?_); rintro e1 w5 ⟨rfl, hb1⟩; replace KX := Lib.hid (KX.out.bw hb1); replace HW := Lib.hid (HW.out.trans hb1); clear hb1) | (go_at_call 23; (with_reducible refine Calls.mono (OV.out _) ?_); rintro e1 w6 ⟨rfl, hb1⟩; replace KX := Lib.hid (KX.out.bw hb1); replace HW := Lib.hid (HW.out.trans hb1); clear hb1))
  refine bodyPost_ret (v := .tuple #[.int .i64 CQ, .int .i64 0]) ?_ rfl ⟨by rw [HR.out], HW.out⟩
  simp [results, Try.results12, go_sem]
end Go.Proofs.Sky

namespace Go.Proofs.Sky
open Go Go.RowKit Go.Shelf
set_option maxHeartbeats 4000000
set_option maxRecDepth 8000
/-! chapter 28: the examples -/
theorem wpList_load_roww28 {P : Program} {ops : Array Oper} {rest : List Oper} {o : Oper} {a : Act} {w : World} {Q : Exit → Act → World → Prop} (ty : TypeId) (x : Operand) (ho : o.op = .load ty x)
    (g : Nat) (hx : a.eval x = .pointer (some ⟨g, 0, none⟩)) (t : TypeId) (cs : Array Value) (fr : Nat × Nat) (d : TypeDesc) (hg : w.heap[g]? = some (.cells cs t fr))
    (hu : P.underlying ty = some d) (hd : (match d with | .struct _ | .array _ _ => true | _ => false) = true) (hi : (P.info? ty).map (·.size) = some cs.size) (hw : Region.wanted o (yielded ops a.tmps) = true)
    (h : wpList P ops Q rest (a.put o.dst (.agg cs)) w) : wpList P ops Q (o :: rest) a w := by
  rw [wpList, if_pos hw]
  exact .inl (wp_load_row ty x ho g hx t cs fr d hg hu hd hi h)
theorem eqP_self (x y z : Int) (w : World) : (Op.equalIn 10000 27 (.agg #[.int .i64 x, .int .i64 y, .int .i64 z]) (.agg #[.int .i64 x, .int .i64 y, .int .i64 z])).run Try.prog w = .ok true w := by
  rw [show (10000 : Nat) = 9998 + 1 + 1 from rfl, run_equalIn_agg _ _ _ _ _ (by kernel_rfl) (by kernel_rfl)]
  simp only [Program.fieldsOf, Try.underlying27]
  have h1 : ∀ w, (sizeOf 3).run Try.prog w = .ok 1 w := fun w => by kernel_rfl
  have hi : Try.prog.underlying 3 = some (.int .i64) := by kernel_rfl
  simp [Op.eqFields, part, h1, go_sem, run_underlying hi, run_equalIn_int _ _ _ _ _ _ _ hi]
theorem eqP_guard (x y : Array Value) (op : BinOp) (p q : Operand) (w : World) : (eqGuard op 27 p q (.agg x) (.agg y)).run Try.prog w = .ok () w := run_eqGuard_agg w op _ _ _ _ _ (by kernel_rfl)
def plX : Nat → Int := fun i => [1, 0, 100, 0, 1024, 0, 0, 1000, -2000, 1024, 0, 0, 0, 0, 4194304, 0, 0, 0, 0].getD i 0
theorem plain28_any (w : World) : Calls Try.prog 29 #[] w fun e w' => e = .returned (.agg (eV plX)) ∧ Bw w w' := by
  have KR := Lib.hid (Blk.new w 25 #[.int .i64 0, .int .i64 0, .int .i64 0, .int .i64 0, .int .i64 0, .int .i64 0, .int .i64 0, .int .i64 0, .int .i64 0, .int .i64 0, .int .i64 0, .int .i64 0, .int .i64 0, .int .i64 0, .int .i64 0, .int .i64 0, .int .i64 0, .int .i64 0, .int .i64 0])
  have HW := Lib.hid (Bw.alloc (Bw.refl w) (.cells #[.int .i64 0, .int .i64 0, .int .i64 0, .int .i64 0, .int .i64 0, .int .i64 0, .int .i64 0, .int .i64 0, .int .i64 0, .int .i64 0, .int .i64 0, .int .i64 0, .int .i64 0, .int .i64 0, .int .i64 0, .int .i64 0, .int .i64 0, .int .i64 0, .int .i64 0] 25))
  go_enter Try.func29, Try.ntmps29
  go_wp2_with ((with_reducible refine at_store 25 (.tmp 0) (.tmp 4) ?_); refine wpList_store_row rfl 25 (.tmp 0) (.tmp 4) rfl w.heap.size (eV plX) rfl rfl 25 _ KR.out (by kernel_rfl) rfl (by simp [Value.oneCell', eV]) ?_)
  refine bodyPost_ret (v := .agg (eV plX)) ?_ rfl ⟨rfl, Bw.setRow HW.out (Nat.le_refl _) _⟩
  exact results_cell_row (p := 0) rfl _ _ w.heap.size _ _ (0, 0) _ rfl (KR.out.row _) Try.underlying25 rfl (by kernel_rfl)
theorem pl_at1 : atE plX 101000000000 = (1000000000, 0) := by kernel_rfl
theorem pl_at4 : atE plX 104000000000 = (4000000000, 0) := by kernel_rfl
theorem pl_at0 : atE plX 100000000000 = (0, 0) := by kernel_rfl
theorem pl_err : errE plX = 0 := by kernel_rfl
theorem pl_ps1 : l3V (psE plX 101000000000) = #[.int .i64 14001, .int .i64 0, .int .i64 0] := by kernel_rfl
theorem pl_ps4 : l3V (psE plX 104000000000) = #[.int .i64 8016, .int .i64 4, .int .i64 0] := by kernel_rfl
theorem pl_vs4 : l3V (vsE plX 104000000000) = #[.int .i64 (-1992), .int .i64 3, .int .i64 0] := by kernel_rfl
theorem pl_ck0 : ckE plX 100000000000 = 300 := by kernel_rfl
theorem pl_sp : l3V (spE plX) = #[.int .i64 16400, .int .i64 9720000, .int .i64 0] := by kernel_rfl
theorem stands28_any (t x y : Int) (h1 : (atE plX t).2 = 0) (h2 : l3V (psE plX t) = #[.int .i64 x, .int .i64 y, .int .i64 0]) (w : World) : Calls Try.prog 30 #[.int .i64 t, .int .i64 x, .int .i64 y] w fun e w' => e = .returned (.bool true) ∧ Bw w w' := by
  have PL := Lib.hid (fun W => plain28_any W)
  have PS := Lib.hid (fun W => Position28_any plX t W)
  rw [h1, h2] at PS
  have hq := fun W => eqP_self x y 0 W
  have hg := fun W a b op p q => eqP_guard a b op p q W
  obtain ⟨A, hA⟩ : ∃ A, A = eV plX := ⟨_, rfl⟩
  rw [← hA] at PL PS
  clear hA h1 h2
  have HW := Lib.hid (Bw.refl w)
  go_enter Try.func30, Try.ntmps30
  go_wp2_with (first | (go_at_call 29; (with_reducible refine Calls.mono (PL.out _) ?_); rintro e1 w1 ⟨rfl, hb1⟩; replace HW := Lib.hid (HW.out.trans hb1); clear hb1) | (go_at_call 7; (with_reducible refine Calls.mono (PS.out _) ?_); rintro e1 w2 ⟨rfl, hb1⟩; replace HW := Lib.hid (HW.out.trans hb1); clear hb1))
  go_ret
  exact ⟨rfl, HW.out.trans (Bw.alloc (Bw.refl _) _)⟩
theorem awake28_any (w : World) : Calls Try.prog 11 #[] w fun e w' => e = .returned (.bool true) ∧ Bw w w' := by
  have PL := Lib.hid (fun W => plain28_any W)
  have VE := Lib.hid (fun W => Velocity28_any plX 104000000000 W)
  have CK := Lib.hid (fun W => Clock28_any plX 100000000000 W)
  have SP := Lib.hid (fun W => Speed28_any plX W)
  have S1 := Lib.hid (fun W => stands28_any 101000000000 14001 0 (by rw [pl_at1]) pl_ps1 W)
  have S4 := Lib.hid (fun W => stands28_any 104000000000 8016 4 (by rw [pl_at4]) pl_ps4 W)
  rw [pl_at4, pl_vs4] at VE
  rw [pl_at0, pl_ck0] at CK
  rw [pl_err, pl_sp] at SP
  dsimp only at VE CK
  have hq := fun x y z W => eqP_self x y z W
  have hg := fun W a b op p q => eqP_guard a b op p q W
  obtain ⟨A, hA⟩ : ∃ A, A = eV plX := ⟨_, rfl⟩
  rw [← hA] at PL VE CK SP
  clear hA
  have HW := Lib.hid (Bw.refl w)
  go_enter Try.func11, Try.ntmps11
  go_upto_region 2 with (first | (go_at_call 29; (with_reducible refine Calls.mono (PL.out _) ?_); rintro e1 w1 ⟨rfl, hb1⟩; replace HW := Lib.hid (HW.out.trans hb1); clear hb1) | (go_at_call 9; (with_reducible refine Calls.mono (VE.out _) ?_); rintro e1 w2 ⟨rfl, hb1⟩; replace HW := Lib.hid (HW.out.trans hb1); clear hb1))
  obtain ⟨g1, hg1⟩ : ∃ g1, w2.heap.size = g1 := ⟨_, rfl⟩
  have KV := Lib.hid (Blk.new w2 27 #[.int .i64 (-1992), .int .i64 3, .int .i64 0])
  have hb1 := Bw.alloc (Bw.refl w2) (.cells #[.int .i64 (-1992), .int .i64 3, .int .i64 0] 27)
  rw [hg1] at KV ⊢
  replace HW := Lib.hid (HW.out.trans hb1); clear hb1
  generalize World.alloc w2 _ = w3 at *
  clear hg1
  go_upto_region 3 with (first | (go_at_call 29; (with_reducible refine Calls.mono (PL.out _) ?_); rintro e1 w4 ⟨rfl, hb1⟩; replace KV := Lib.hid (KV.out.bw hb1); replace HW := Lib.hid (HW.out.trans hb1); clear hb1) | (go_at_call 12; (with_reducible refine Calls.mono (CK.out _) ?_); rintro e1 w5 ⟨rfl, hb1⟩; replace KV := Lib.hid (KV.out.bw hb1); replace HW := Lib.hid (HW.out.trans hb1); clear hb1))
  go_upto_region 4 with (first | (go_at_call 29; (with_reducible refine Calls.mono (PL.out _) ?_); rintro e1 w6 ⟨rfl, hb1⟩; replace KV := Lib.hid (KV.out.bw hb1); replace HW := Lib.hid (HW.out.trans hb1); clear hb1) | (go_at_call 17; (with_reducible refine Calls.mono (SP.out _) ?_); rintro e1 w7 ⟨rfl, hb1⟩; replace KV := Lib.hid (KV.out.bw hb1); replace HW := Lib.hid (HW.out.trans hb1); clear hb1))
  obtain ⟨g5, hg5⟩ : ∃ g5, w7.heap.size = g5 := ⟨_, rfl⟩
  have KS := Lib.hid (Blk.new w7 27 #[.int .i64 16400, .int .i64 9720000, .int .i64 0])
  have hb1 := Bw.alloc (Bw.refl w7) (.cells #[.int .i64 16400, .int .i64 9720000, .int .i64 0] 27)
  rw [hg5] at KS ⊢
  replace KV := Lib.hid (KV.out.bw hb1)
  replace HW := Lib.hid (HW.out.trans hb1); clear hb1
  generalize World.alloc w7 _ = w8 at *
  clear hg5
  go_wp2_with (first | (go_at_call 30; (first | (with_reducible refine Calls.mono (S1.out _) ?_) | (with_reducible refine Calls.mono (S4.out _) ?_)); rintro e1 w9 ⟨rfl, hb1⟩; replace KV := Lib.hid (KV.out.bw hb1); replace KS := Lib.hid (KS.out.bw hb1); replace HW := Lib.hid (HW.out.trans hb1); clear hb1) | ((with_reducible refine at_load 27 (.tmp 1) ?_); refine wpList_load_roww28 27 _ rfl g1 rfl 27 #[.int .i64 (-1992), .int .i64 3, .int .i64 0] (0, 0) _ KV.out Try.underlying27 rfl (by kernel_rfl) (by rfl) ?_) | ((with_reducible refine at_load 27 (.tmp 5) ?_); refine wpList_load_roww28 27 _ rfl g5 rfl 27 #[.int .i64 16400, .int .i64 9720000, .int .i64 0] (0, 0) _ KS.out Try.underlying27 rfl (by kernel_rfl) (by rfl) ?_))
  go_ret
  exact ⟨rfl, HW.out⟩
end Go.Proofs.Sky

namespace Go.Proofs.Sky
open Go Go.RowKit Go.Shelf
set_option maxHeartbeats 2000000
set_option maxRecDepth 8000
/-! chapter 28: the reference's distance -/
theorem dist_eq {t T0 : Int} (h1 : 0 ≤ t) (h2 : t < 604800000000000) (h3 : 0 ≤ T0) (h4 : T0 ≤ 604799) (e : Int) (he : e = (t - T0 * 1000000000 + 604800000000000) % 604800000000000) :
    (¬ 302400000000000 ≤ e → (7200000000000 < e ∧ (7200000000000 < turn2 (turn1 (t - T0 * 1000000000)) ∨ turn2 (turn1 (t - T0 * 1000000000)) < -7200000000000)) ∨ (e ≤ 7200000000000 ∧ turn2 (turn1 (t - T0 * 1000000000)) = e)) ∧
      (302400000000000 ≤ e → (e - 604800000000000 < -7200000000000 ∧ (7200000000000 < turn2 (turn1 (t - T0 * 1000000000)) ∨ turn2 (turn1 (t - T0 * 1000000000)) < -7200000000000)) ∨ (-7200000000000 ≤ e - 604800000000000 ∧ turn2 (turn1 (t - T0 * 1000000000)) = e - 604800000000000)) := by
  obtain ⟨d, hd⟩ : ∃ d, d = t - T0 * 1000000000 := ⟨_, rfl⟩
  rw [← hd] at he ⊢
  have hdb : -604799000000000 ≤ d ∧ d < 604800000000000 := by omega
  clear hd h1 h2 h3 h4
  unfold turn2 turn1
  refine ⟨fun h => ?_, fun h => ?_⟩ <;> split <;> split <;> omega
theorem rdist28_any (X : Nat → Int) (t : Int) (w : World) : Calls Try.prog 26 #[.agg (eV X), .int .i64 t] w fun e w' => e = .returned (.tuple #[.int .i64 (atE X t).1, .int .i64 (atE X t).2]) ∧ Bw w w' := by
  have CK := Lib.hid (fun W => rCheck26_any X W)
  have HB := Lib.hid (fun (h : errE X = 0) => t0_bd h)
  have KX := Lib.hid (Blk.new w 25 (eV X))
  have HW := Lib.hid (Bw.alloc (Bw.refl w) (.cells (eV X) 25))
  have HSZ : Hid ((Try.prog.info? 25).map (·.size) = some (eV X).size) := Lib.hid (by kernel_rfl)
  have t2 : (eV X)[2]? = some (.int .i64 (X 2)) := rfl
  obtain ⟨g, hg⟩ : ∃ g, w.heap.size = g := ⟨_, rfl⟩
  rw [hg] at KX
  obtain ⟨er, her⟩ : ∃ er, er = errE X := ⟨_, rfl⟩
  have HAT := Lib.hid (show atE X t = if er ≠ 0 then (0, er) else if t < 0 ∨ 604800000000000 ≤ t then (0, 2) else
    if 7200000000000 < turn2 (turn1 (t - X 2 * 1000000000)) ∨ turn2 (turn1 (t - X 2 * 1000000000)) < -7200000000000 then (0, 17) else (turn2 (turn1 (t - X 2 * 1000000000)), 0) by rw [her]; rfl)
  rw [← her] at CK HB
  clear her
  obtain ⟨T0, hT0⟩ : ∃ T0, T0 = X 2 := ⟨_, rfl⟩
  rw [← hT0] at HB HAT t2
  clear hT0
  obtain ⟨R, hR⟩ : ∃ R, R = atE X t := ⟨_, rfl⟩
  rw [← hR] at HAT ⊢
  clear hR
  obtain ⟨A, hA⟩ : ∃ A, A = eV X := ⟨_, rfl⟩
  rw [← hA] at CK KX HW HSZ t2 ⊢
  clear hA
  go_enter Try.func26, Try.ntmps26
  go_upto_region 1 with fail
  obtain ⟨W0, hW0⟩ : ∃ W0, w.alloc (.cells A 25) = W0 := ⟨_, rfl⟩
  rw [hW0] at KX HW ⊢
  clear hW0 hg
  go_upto_region 2 with (first | ((with_reducible refine at_load 25 (.tmp 2) ?_); refine wpList_load_row rfl 25 _ rfl g rfl 25 A (0, 0) _ KX.out Try.underlying25 rfl HSZ.out ?_) | (go_at_call 45; (with_reducible refine Calls.mono (CK.out _) ?_); rintro e1 w1 ⟨rfl, hb1⟩; replace KX := Lib.hid (KX.out.bw hb1); replace HW := Lib.hid (HW.out.trans hb1); clear hb1))
  by_cases c1 : er = 0
  case neg =>
    have c1z : (er != 0) = true := by simpa using c1
    have HR := Lib.hid (HAT.out.trans (if_pos c1))
    clear c1 HAT
    go_wp2
    refine bodyPost_ret (v := .tuple #[.int .i64 0, .int .i64 er]) ?_ rfl ⟨by rw [HR.out], HW.out⟩
    simp [results, Try.results26, go_sem]
  have hbd := HB.out c1
  subst c1
  rw [if_neg (by simp)] at HAT
  by_cases c2 : t < 0
  · have HR := Lib.hid (HAT.out.trans (if_pos (Or.inl c2)))
    go_wp2
    refine bodyPost_ret (v := .tuple #[.int .i64 0, .int .i64 2]) ?_ rfl ⟨by rw [HR.out], HW.out⟩
    simp [results, Try.results26, go_sem]
  by_cases c3 : 604800000000000 ≤ t
  · have HR := Lib.hid (HAT.out.trans (if_pos (Or.inr c3)))
    go_wp2
    refine bodyPost_ret (v := .tuple #[.int .i64 0, .int .i64 2]) ?_ rfl ⟨by rw [HR.out], HW.out⟩
    simp [results, Try.results26, go_sem]
  rw [if_neg (by omega)] at HAT
  have x2 := KX.out.cell t2
  obtain ⟨e, he⟩ : ∃ e, e = (t - T0 * 1000000000 + 604800000000000) % 604800000000000 := ⟨_, rfl⟩
  have HE := Lib.hid (dist_eq (t := t) (T0 := T0) (by omega) (by omega) hbd.1 hbd.2 e he)
  have heb : 0 ≤ e ∧ e < 604800000000000 := by omega
  have htm : (t - T0 * 1000000000 + 604800000000000).tmod 604800000000000 = e := by rw [Int.tmod_eq_emod_of_nonneg (by omega), he]
  have he2 : (t - T0 * 1000000000 + 604800000000000) % 604800000000000 = e := he.symm
  have HE2 := Lib.hid he
  clear he
  go_upto_region 7 with fail
  clear x2 hbd htm he2 c2 c3
  by_cases p : 302400000000000 ≤ e
  · rcases HE.out.2 p with ⟨q1, q2⟩ | ⟨q1, q2⟩
    · have HR := Lib.hid (HAT.out.trans (if_pos q2))
      clear q2 HAT
      go_wp2
      refine bodyPost_ret (v := .tuple #[.int .i64 0, .int .i64 17]) ?_ rfl ⟨by rw [HR.out], HW.out⟩
      simp [results, Try.results26, go_sem]
    · rw [q2, if_neg (by omega)] at HAT
      have HR := HAT
      clear q2 HAT
      go_wp2
      refine bodyPost_ret (v := .tuple #[.int .i64 (e - 604800000000000), .int .i64 0]) ?_ rfl ⟨by rw [HR.out], HW.out⟩
      simp [results, Try.results26, go_sem]
  · rcases HE.out.1 p with ⟨q1, q2⟩ | ⟨q1, q2⟩
    · have HR := Lib.hid (HAT.out.trans (if_pos q2))
      clear q2 HAT
      go_wp2
      refine bodyPost_ret (v := .tuple #[.int .i64 0, .int .i64 17]) ?_ rfl ⟨by rw [HR.out], HW.out⟩
      simp [results, Try.results26, go_sem]
    · rw [q2, if_neg (by omega)] at HAT
      have HR := HAT
      clear q2 HAT
      go_wp2
      refine bodyPost_ret (v := .tuple #[.int .i64 e, .int .i64 0]) ?_ rfl ⟨by rw [HR.out], HW.out⟩
      simp [results, Try.results26, go_sem]
end Go.Proofs.Sky
