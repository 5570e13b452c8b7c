/-
  lemmas for the theorems of this claim. No conditions beyond those written in the statements.
-/
import Derived.Test.YtgeojbmhkmmedaaDoorL28
import Derived.Test.YtgeojbmhkmmedaaDoorAL4
set_option linter.unusedVariables false
set_option linter.unusedSimpArgs false
set_option linter.unnecessarySimpa false
namespace Go.Proofs.Sky
open Go Go.RowKit Go.Shelf
set_option maxHeartbeats 4000000
set_option maxRecDepth 8000
/-! chapter 28: Velocity, the walk -/
theorem rdI_blkn {W : World} {b : Nat} {T : TypeId} {cs : Array Value} (zs : List Int) (n : Nat) (hn : zs.length = n) (hB : Blk W b T cs) (h : cs.toList = zs.map (Value.int .i64)) (hl : zs.length ≤ 1000) : RdI W (.slice (some ⟨b, 0, none⟩) n n) zs := by
  subst hn; exact rdI_blk28 zs hB h hl
def vlQ (X : Nat → Int) (d : Int) (j : Nat) : Int := velQ (X (7 + 4 * j + 1)) (X (7 + 4 * j + 2)) (X (7 + 4 * j + 3)) d
def vsE (X : Nat → Int) (t : Int) (j : Nat) : Int := if (atE X t).2 = 0 then vlQ X (atE X t).1 j else 0
theorem Velocity28_any (X : Nat → Int) (t : Int) (w : World) : Calls Tryd.prog 12 #[.agg (eV X), .int .i64 t] w fun e w' => e = .returned (.tuple #[.agg (l3V (vsE X t)), .int .i64 (atE X t).2]) ∧ Bw w w' := by
  have AT := Lib.hid (fun W => at28_any X t W)
  have KX := Lib.hid ((Blk.new w 25 (eV X)).alloc (.cells #[.int .i64 0, .int .i64 0, .int .i64 0] 27))
  have KP := Lib.hid (show Blk ((w.alloc (.cells (eV X) 25)).alloc (.cells #[.int .i64 0, .int .i64 0, .int .i64 0] 27)) (w.heap.size + 1) 27 #[.int .i64 0, .int .i64 0, .int .i64 0] from by have h9 := Blk.new (w.alloc (.cells (eV X) 25)) 27 #[.int .i64 0, .int .i64 0, .int .i64 0]; simp only [World.size_alloc] at h9; exact h9)
  have HW := Lib.hid (Bw.alloc (Bw.alloc (Bw.refl w) (.cells (eV X) 25)) (.cells #[.int .i64 0, .int .i64 0, .int .i64 0] 27))
  have HSZ : Hid ((Tryd.prog.info? 25).map (·.size) = some (eV X).size) := Lib.hid (by kernel_rfl)
  have HRA := Lib.hid (fun W g i hi (hB : Blk W g 25 (eV X)) => rdI_ax hB i hi)
  obtain ⟨g, hg⟩ : ∃ g, w.heap.size = g := ⟨_, rfl⟩
  rw [hg] at KX KP
  have HG := Lib.hid hg
  have HOK := Lib.hid (fun h => atE_ok (X := X) (t := t) h)
  have HBD := Lib.hid (fun (h : errE X = 0) j hj => ax_bd h j hj)
  have HPS := Lib.hid (show ∀ j, vsE X t j = if (atE X t).2 = 0 then vlQ X (atE X t).1 j else 0 from fun j => rfl)
  generalize vsE X t = PSF at *
  generalize atE X t = R at *
  obtain ⟨d, er⟩ := R
  dsimp only at AT HOK HPS
  have HCX := Lib.hid (fun i (hi : i < 19) => eV_at X i hi)
  obtain ⟨A, hA⟩ : ∃ A, A = eV X := ⟨_, rfl⟩
  rw [← hA] at AT KX KP HW HSZ HRA HCX ⊢
  clear hA
  go_enter Tryd.func12, Tryd.ntmps12
  go_upto_region 1 with fail
  obtain ⟨W0, hW0⟩ : ∃ W0, (w.alloc (.cells A 25)).alloc (.cells #[.int .i64 0, .int .i64 0, .int .i64 0] 27) = W0 := ⟨_, rfl⟩
  rw [hW0] at KX KP HW ⊢
  clear hW0 hg
  go_upto_region 2 with (first | ((with_reducible refine at_load 25 (.tmp 2) ?_); refine wpList_load_row rfl 25 _ rfl g rfl 25 A (0, 0) _ KX.out Tryd.underlying25 rfl HSZ.out ?_) | (go_at_call 34; (with_reducible refine Calls.mono (AT.out _) ?_); rintro e1 w1 ⟨rfl, hb1⟩; replace KX := Lib.hid (KX.out.bw hb1); replace KP := Lib.hid (KP.out.bw hb1); replace HW := Lib.hid (HW.out.trans hb1); clear hb1))
  by_cases c1 : er = 0
  case neg =>
    have c1z : (er != 0) = true := by simpa using c1
    have HR := Lib.hid (show l3V PSF = #[.int .i64 0, .int .i64 0, .int .i64 0] from l3V_congr (y := fun _ => 0) (fun j hj => by rw [HPS.out j, if_neg c1]))
    clear c1
    go_wp2_with ((with_reducible refine at_store 27 (.tmp 4) (.tmp 19) ?_); refine wpList_store_row rfl 27 (.tmp 4) (.tmp 19) rfl (g + 1) #[.int .i64 0, .int .i64 0, .int .i64 0] rfl rfl 27 _ KP.out (by kernel_rfl) rfl (by simp [Value.oneCell', l3V]) ?_)
    have F9 := KP.out.row #[.int .i64 0, .int .i64 0, .int .i64 0]
    have B9 := Bw.setRow HW.out (show w.heap.size ≤ g + 1 by have := HG.out; omega) #[.int .i64 0, .int .i64 0, .int .i64 0]
    refine bodyPost_ret (v := .tuple #[.agg #[.int .i64 0, .int .i64 0, .int .i64 0], .int .i64 er]) ?_ rfl ⟨by rw [HR.out], B9⟩
    exact results_two_row (p := 4) (u := 5) rfl _ _ (g + 1) _ rfl (run_loadVar_row _ (g + 1) 27 27 #[.int .i64 0, .int .i64 0, .int .i64 0] (0, 0) _ F9 Tryd.underlying27 rfl (by kernel_rfl))
  obtain ⟨hx, hd⟩ := HOK.out c1
  subst c1
  have HBX := Lib.hid (HBD.out hx)
  have HDD := Lib.hid hd
  have HPJ := Lib.hid (show ∀ j, PSF j = vlQ X d j from fun j => by rw [HPS.out j, if_pos rfl])
  clear hx hd HBD HOK HPS AT
  have AX := Lib.hid (fun W => axes28_any g W)
  have HG8 := Lib.hid (show g + 1 < w1.heap.size from KP.out.lt)
  have KL := Lib.hid (show Blk (w1.alloc (.cells #[.int .i64 0, .int .i64 0, .int .i64 0] 22)) w1.heap.size 22 (l3V (fun _ => 0)) from Blk.new w1 22 #[.int .i64 0, .int .i64 0, .int .i64 0])
  have hb8 := Bw.alloc (Bw.refl w1) (.cells #[.int .i64 0, .int .i64 0, .int .i64 0] 22)
  replace KX := Lib.hid (KX.out.bw hb8); replace KP := Lib.hid (KP.out.bw hb8); replace HW := Lib.hid (HW.out.trans hb8)
  obtain ⟨g8, hg8⟩ : ∃ g8, w1.heap.size = g8 := ⟨_, rfl⟩
  rw [hg8] at KL HG8
  clear hb8
  go_upto_region 5 with fail
  obtain ⟨W2, hW2⟩ : ∃ W2, w1.alloc (.cells #[.int .i64 0, .int .i64 0, .int .i64 0] 22) = W2 := ⟨_, rfl⟩
  rw [hW2] at KX KP HW KL ⊢
  clear hW2 hg8
  go_wp2_with (go_at_call 23; (with_reducible refine Calls.mono (AX.out _) ?_); rintro e1 w3 ⟨⟨ga, rfl, hga, hpg⟩, hb1⟩; have KA := Lib.hid hpg; have HGA := Lib.hid (show g8 < ga by have := KL.out.lt; omega); replace KX := Lib.hid (KX.out.bw hb1); replace KP := Lib.hid (KP.out.bw hb1); replace KL := Lib.hid (KL.out.bw hb1); replace HW := Lib.hid (HW.out.trans hb1); clear hb1 hpg hga)
  go_loopg [23] 3 (fun gg s23 wr => ∃ i : Nat, i ≤ 3 ∧ 3 - i ≤ gg ∧ s23 = .int .i64 i ∧ Hid (Bw w wr) ∧ Hid (Blk wr g 25 A) ∧ Hid (Blk wr (g + 1) 27 #[.int .i64 0, .int .i64 0, .int .i64 0]) ∧ Hid (Blk wr ga 54 #[.pointer (some ⟨g, 7, none⟩), .pointer (some ⟨g, 11, none⟩), .pointer (some ⟨g, 15, none⟩)]) ∧ ∃ L, Hid (Blk wr g8 22 (l3V L)) ∧ Hid (∀ j, j < i → L j = PSF j))
  case atStart => exact ⟨0, by omega, by omega, rfl, HW, KX, KP, KA, fun _ => 0, KL, Lib.hid (fun j hj => absurd hj (by omega))⟩
  case round =>
    clear KX KP KA KL HW
    obtain ⟨i, hi, hgg, rfl, HW, KX, KP, KA, L, KL, HL⟩ := hrel
    obtain ⟨wb, rfl⟩ : ∃ wb, wb = wr := ⟨_, rfl⟩
    by_cases c3 : i < 3
    case neg =>
      have c3z : ¬ (i : Int) < 3 := by omega
      obtain rfl : i = 3 := by omega
      have PTC : Hid (∀ W, Calls Tryd.prog 26 #[.agg (l3V PSF)] W fun e w' => e = .returned (.agg (l3V PSF)) ∧ Bw W w') := Lib.hid (fun W => point28_any (PSF 0) (PSF 1) (PSF 2) W)
      rw [l3V_congr (fun j hj => HL.out j hj)] at KL
      go_wp2_with (first | ((with_reducible refine at_load 22 (.tmp 8) ?_); refine wpList_load_row rfl 22 _ rfl g8 rfl 22 (l3V PSF) (0, 0) _ KL.out Tryd.underlying22 rfl (by kernel_rfl) ?_) | (go_at_call 26; (with_reducible refine Calls.mono (PTC.out _) ?_); rintro e1 w7 ⟨rfl, hb1⟩; replace KP := Lib.hid (KP.out.bw hb1); replace HW := Lib.hid (HW.out.trans hb1); clear hb1) | ((with_reducible refine at_store 27 (.tmp 4) (.tmp 52) ?_); refine wpList_store_row rfl 27 (.tmp 4) (.tmp 52) rfl (g + 1) (l3V PSF) rfl rfl 27 _ KP.out (by kernel_rfl) rfl (by simp [Value.oneCell', l3V]) ?_))
      have F9 := KP.out.row (l3V PSF)
      have B9 := Bw.setRow HW.out (show w.heap.size ≤ g + 1 by have := HG.out; omega) (l3V PSF)
      refine bodyPost_ret (v := .tuple #[.agg (l3V PSF), .int .i64 0]) ?_ rfl ⟨rfl, B9⟩
      exact results_two_row (p := 4) (u := 5) rfl _ _ (g + 1) _ rfl (run_loadVar_row _ (g + 1) 27 27 (l3V PSF) (0, 0) _ F9 Tryd.underlying27 rfl (by kernel_rfl))
    case pos =>
      have c3z : (i : Int) < 3 := by omega
      have hi0 : (0 : Int) ≤ i := by omega
      obtain ⟨b0, b1, b2, b3⟩ := HBX.out i c3
      have hp4 := (vel3 (c1 := X (7 + 4 * i + 1)) (c2 := 2 * X (7 + 4 * i + 2)) (c3 := 3 * X (7 + 4 * i + 3)) b1 (by omega) (by omega) HDD.out).1
      have OV := Lib.hid (fun W => over_vel b1 b2 b3 HDD.out W)
      have HPI := Lib.hid (show PSF i = velQ (X (7 + 4 * i + 1)) (X (7 + 4 * i + 2)) (X (7 + 4 * i + 3)) d from HPJ.out i)
      have e1 := HCX.out (7 + 4 * i + 1) (by omega)
      have e2 := HCX.out (7 + 4 * i + 2) (by omega)
      have e3 := HCX.out (7 + 4 * i + 3) (by omega)
      generalize X (7 + 4 * i + 1) = x1 at *
      generalize X (7 + 4 * i + 2) = x2 at *
      generalize X (7 + 4 * i + 3) = x3 at *
      have VA : Hid (∀ W v vs, RdI W v [x1, 2 * x2, 3 * x3] → RdI W vs [26, 16, 0] → Calls Tryd.prog 35 #[v, vs, .int .i64 d] W fun e w' => e = .returned (.agg (nV (hW d (xsW [x1, 2 * x2, 3 * x3] [26, 16, 0] 3)).1 (hW d (xsW [x1, 2 * x2, 3 * x3] [26, 16, 0] 3)).2)) ∧ Bw W w') := Lib.hid (fun W v vs h1 h2 => valued_any [x1, 2 * x2, 3 * x3] [26, 16, 0] d v vs W h1 h2 (by simp) (by simp) rfl (fun j hj => by
        have hj4 : j < 3 := hj
        rcases (by omega : j = 0 ∨ j = 1 ∨ j = 2) with rfl | rfl | rfl
        · show -9000000000000000000 ≤ x1 ∧ x1 ≤ 9000000000000000000; omega
        · show -9000000000000000000 ≤ 2 * x2 ∧ 2 * x2 ≤ 9000000000000000000; omega
        · show -9000000000000000000 ≤ 3 * x3 ∧ 3 * x3 ≤ 9000000000000000000; omega) (fun j hj => by
        have hj4 : j < 3 := hj
        rcases (by omega : j = 0 ∨ j = 1 ∨ j = 2) with rfl | rfl | rfl <;> decide) (by have := HDD.out; omega) hp4)
      have hx2 : -2097152 ≤ x2 ∧ x2 ≤ 2097152 := by omega
      have hx3 : -8388608 ≤ x3 ∧ x3 ≤ 8388608 := by omega
      clear hp4 b0 b1 b2 b3
      generalize hW d (xsW [x1, 2 * x2, 3 * x3] [26, 16, 0] 3) = RES at *
      generalize velQ x1 x2 x3 d = CQ at *
      have UN : Hid (∀ W, Calls Tryd.prog 37 #[.int .i64 2, .int .i64 26] W fun e w' => e = .returned (.agg (nV (unitW 2 26).1 (unitW 2 26).2)) ∧ Bw W w') := Lib.hid (fun W => unit28_any 2 26 (by decide) (by decide) W)
      generalize unitW 2 26 = UV at *
      have pc := KA.out.cell (ps_at g i c3)
      go_upto_region 8 with fail
      clear pc
      refine wp_region_held_drew (S := Kx g8 wb) (by kernel_rfl) (Kx.of_bw (Bw.drew (Bw.refl _)) (Nat.le_of_lt KL.out.lt)) (fun hS => ?_)
      replace KL := Lib.hid (KL.out.bw (Bw.drew (Bw.refl _)))
      generalize World.drew _ = wd at hS KL ⊢
      refine take1 (i := 0) (some 28) rfl rfl (by kernel_rfl) (by kernel_rfl) (by kernel_rfl) (fun _ _ _ _ h => h) rfl hS ?_
      apply Exists.intro
      apply And.intro
      · intro W9 hW9; have y1 := (hW9.blk KX.out (by have := HG8.out; omega)).cell e1; have y2 := (hW9.blk KX.out (by have := HG8.out; omega)).cell e2; have y3 := (hW9.blk KX.out (by have := HG8.out; omega)).cell e3; go_simp; try with_reducible rfl
      simp only [Act.put, List.setIfInBounds_toArray, List.set_cons_zero, List.set_cons_succ]
      refine take1 (i := 1) (some 29) rfl rfl (by kernel_rfl) (by kernel_rfl) (by kernel_rfl) (fun _ _ _ _ h => h) rfl hS ?_
      apply Exists.intro
      apply And.intro
      · intro W9 hW9; have y1 := (hW9.blk KX.out (by have := HG8.out; omega)).cell e1; have y2 := (hW9.blk KX.out (by have := HG8.out; omega)).cell e2; have y3 := (hW9.blk KX.out (by have := HG8.out; omega)).cell e3; go_simp; try with_reducible rfl
      simp only [Act.put, List.setIfInBounds_toArray, List.set_cons_zero, List.set_cons_succ]
      refine take1 (i := 2) (some 30) rfl rfl (by kernel_rfl) (by kernel_rfl) (by kernel_rfl) (fun _ _ _ _ h => h) rfl hS ?_
      apply Exists.intro
      apply And.intro
      · intro W9 hW9; have y1 := (hW9.blk KX.out (by have := HG8.out; omega)).cell e1; have y2 := (hW9.blk KX.out (by have := HG8.out; omega)).cell e2; have y3 := (hW9.blk KX.out (by have := HG8.out; omega)).cell e3; go_simp; try with_reducible rfl
      simp only [Act.put, List.setIfInBounds_toArray, List.set_cons_zero, List.set_cons_succ]
      refine take1 (i := 3) (some 31) rfl rfl (by kernel_rfl) (by kernel_rfl) (by kernel_rfl) (fun _ _ _ _ h => h) rfl hS ?_
      apply Exists.intro
      apply And.intro
      · intro W9 hW9; have y1 := (hW9.blk KX.out (by have := HG8.out; omega)).cell e1; have y2 := (hW9.blk KX.out (by have := HG8.out; omega)).cell e2; have y3 := (hW9.blk KX.out (by have := HG8.out; omega)).cell e3; go_simp; try with_reducible rfl
      simp only [Act.put, List.setIfInBounds_toArray, List.set_cons_zero, List.set_cons_succ]
      refine take1 (i := 4) (some 32) rfl rfl (by kernel_rfl) (by kernel_rfl) (by kernel_rfl) (fun _ _ _ _ h => h) rfl hS ?_
      refine Exists.intro (.int .i64 x1) ?_
      apply And.intro
      · intro W9 hW9; have y1 := (hW9.blk KX.out (by have := HG8.out; omega)).cell e1; have y2 := (hW9.blk KX.out (by have := HG8.out; omega)).cell e2; have y3 := (hW9.blk KX.out (by have := HG8.out; omega)).cell e3; go_simp; (try go_bits); (try with_reducible rfl); (try trivial)
      simp only [Act.put, List.setIfInBounds_toArray, List.set_cons_zero, List.set_cons_succ]
      refine take1 (i := 5) (some 33) rfl rfl (by kernel_rfl) (by kernel_rfl) (by kernel_rfl) (fun _ _ _ _ h => h) rfl hS ?_
      apply Exists.intro
      apply And.intro
      · intro W9 hW9; have y1 := (hW9.blk KX.out (by have := HG8.out; omega)).cell e1; have y2 := (hW9.blk KX.out (by have := HG8.out; omega)).cell e2; have y3 := (hW9.blk KX.out (by have := HG8.out; omega)).cell e3; go_simp; try with_reducible rfl
      simp only [Act.put, List.setIfInBounds_toArray, List.set_cons_zero, List.set_cons_succ]
      refine take1 (i := 6) (some 34) rfl rfl (by kernel_rfl) (by kernel_rfl) (by kernel_rfl) (fun _ _ _ _ h => h) rfl hS ?_
      apply Exists.intro
      apply And.intro
      · intro W9 hW9; have y1 := (hW9.blk KX.out (by have := HG8.out; omega)).cell e1; have y2 := (hW9.blk KX.out (by have := HG8.out; omega)).cell e2; have y3 := (hW9.blk KX.out (by have := HG8.out; omega)).cell e3; go_simp; try with_reducible rfl
      simp only [Act.put, List.setIfInBounds_toArray, List.set_cons_zero, List.set_cons_succ]
      refine take1 (i := 7) (some 35) rfl rfl (by kernel_rfl) (by kernel_rfl) (by kernel_rfl) (fun _ _ _ _ h => h) rfl hS ?_
      apply Exists.intro
      apply And.intro
      · intro W9 hW9; have y1 := (hW9.blk KX.out (by have := HG8.out; omega)).cell e1; have y2 := (hW9.blk KX.out (by have := HG8.out; omega)).cell e2; have y3 := (hW9.blk KX.out (by have := HG8.out; omega)).cell e3; go_simp; try with_reducible rfl
      simp only [Act.put, List.setIfInBounds_toArray, List.set_cons_zero, List.set_cons_succ]
      refine take1 (i := 8) (some 36) rfl rfl (by kernel_rfl) (by kernel_rfl) (by kernel_rfl) (fun _ _ _ _ h => h) rfl hS ?_
      refine Exists.intro (.int .i64 x2) ?_
      apply And.intro
      · intro W9 hW9; have y1 := (hW9.blk KX.out (by have := HG8.out; omega)).cell e1; have y2 := (hW9.blk KX.out (by have := HG8.out; omega)).cell e2; have y3 := (hW9.blk KX.out (by have := HG8.out; omega)).cell e3; go_simp; (try go_bits); (try with_reducible rfl); (try trivial)
      simp only [Act.put, List.setIfInBounds_toArray, List.set_cons_zero, List.set_cons_succ]
      refine take1 (i := 9) (some 37) rfl rfl (by kernel_rfl) (by kernel_rfl) (by kernel_rfl) (fun _ _ _ _ h => h) rfl hS ?_
      refine Exists.intro (.int .i64 (2 * x2)) ?_
      apply And.intro
      · intro W9 hW9; have y1 := (hW9.blk KX.out (by have := HG8.out; omega)).cell e1; have y2 := (hW9.blk KX.out (by have := HG8.out; omega)).cell e2; have y3 := (hW9.blk KX.out (by have := HG8.out; omega)).cell e3; go_simp; (try go_bits); (try with_reducible rfl); (try trivial)
      simp only [Act.put, List.setIfInBounds_toArray, List.set_cons_zero, List.set_cons_succ]
      refine take1 (i := 10) (some 38) rfl rfl (by kernel_rfl) (by kernel_rfl) (by kernel_rfl) (fun _ _ _ _ h => h) rfl hS ?_
      apply Exists.intro
      apply And.intro
      · intro W9 hW9; have y1 := (hW9.blk KX.out (by have := HG8.out; omega)).cell e1; have y2 := (hW9.blk KX.out (by have := HG8.out; omega)).cell e2; have y3 := (hW9.blk KX.out (by have := HG8.out; omega)).cell e3; go_simp; try with_reducible rfl
      simp only [Act.put, List.setIfInBounds_toArray, List.set_cons_zero, List.set_cons_succ]
      refine take1 (i := 11) (some 39) rfl rfl (by kernel_rfl) (by kernel_rfl) (by kernel_rfl) (fun _ _ _ _ h => h) rfl hS ?_
      apply Exists.intro
      apply And.intro
      · intro W9 hW9; have y1 := (hW9.blk KX.out (by have := HG8.out; omega)).cell e1; have y2 := (hW9.blk KX.out (by have := HG8.out; omega)).cell e2; have y3 := (hW9.blk KX.out (by have := HG8.out; omega)).cell e3; go_simp; try with_reducible rfl
      simp only [Act.put, List.setIfInBounds_toArray, List.set_cons_zero, List.set_cons_succ]
      refine take1 (i := 12) (some 40) rfl rfl (by kernel_rfl) (by kernel_rfl) (by kernel_rfl) (fun _ _ _ _ h => h) rfl hS ?_
      apply Exists.intro
      apply And.intro
      · intro W9 hW9; have y1 := (hW9.blk KX.out (by have := HG8.out; omega)).cell e1; have y2 := (hW9.blk KX.out (by have := HG8.out; omega)).cell e2; have y3 := (hW9.blk KX.out (by have := HG8.out; omega)).cell e3; go_simp; try with_reducible rfl
      simp only [Act.put, List.setIfInBounds_toArray, List.set_cons_zero, List.set_cons_succ]
      refine take1 (i := 13) (some 41) rfl rfl (by kernel_rfl) (by kernel_rfl) (by kernel_rfl) (fun _ _ _ _ h => h) rfl hS ?_
      refine Exists.intro (.int .i64 x3) ?_
      apply And.intro
      · intro W9 hW9; have y1 := (hW9.blk KX.out (by have := HG8.out; omega)).cell e1; have y2 := (hW9.blk KX.out (by have := HG8.out; omega)).cell e2; have y3 := (hW9.blk KX.out (by have := HG8.out; omega)).cell e3; go_simp; (try go_bits); (try with_reducible rfl); (try trivial)
      simp only [Act.put, List.setIfInBounds_toArray, List.set_cons_zero, List.set_cons_succ]
      refine take1 (i := 14) (some 42) rfl rfl (by kernel_rfl) (by kernel_rfl) (by kernel_rfl) (fun _ _ _ _ h => h) rfl hS ?_
      refine Exists.intro (.int .i64 (3 * x3)) ?_
      apply And.intro
      · intro W9 hW9; have y1 := (hW9.blk KX.out (by have := HG8.out; omega)).cell e1; have y2 := (hW9.blk KX.out (by have := HG8.out; omega)).cell e2; have y3 := (hW9.blk KX.out (by have := HG8.out; omega)).cell e3; go_simp; (try go_bits); (try with_reducible rfl); (try trivial)
      simp only [Act.put, List.setIfInBounds_toArray, List.set_cons_zero, List.set_cons_succ]
      refine take1 (i := 17) (some 45) rfl rfl (by kernel_rfl) (by kernel_rfl) (by kernel_rfl) (fun _ _ _ _ h => h) rfl hS ?_
      apply Exists.intro
      apply And.intro
      · intro W9 hW9; have y1 := (hW9.blk KX.out (by have := HG8.out; omega)).cell e1; have y2 := (hW9.blk KX.out (by have := HG8.out; omega)).cell e2; have y3 := (hW9.blk KX.out (by have := HG8.out; omega)).cell e3; go_simp; try with_reducible rfl
      simp only [Act.put, List.setIfInBounds_toArray, List.set_cons_zero, List.set_cons_succ]
      refine wpAnyH_ready (rs := [15, 16]) (by kernel_rfl) (by simp) ?_
      refine AllReadyH.cons rfl (fun K hK => ?_) ?_
      go_simp
      have hba := Bw.alloc (Bw.refl wd) (.cells #[.int .i64 x1, .int .i64 (2 * x2), .int .i64 (3 * x3)] 3)
      have NB0 := Lib.hid (Blk.new wd 3 #[.int .i64 x1, .int .i64 (2 * x2), .int .i64 (3 * x3)])
      have hle := Nat.le_of_lt KL.out.lt
      replace KL := Lib.hid (KL.out.bw hba)
      refine hK.out _ _ (hS.trans (Kx.of_bw hba hle)) (fun hS => ?_)
      clear hK K
      clear hba hle
      obtain ⟨gb0, hgb⟩ : ∃ gb, wd.heap.size = gb := ⟨_, rfl⟩
      rw [hgb] at NB0
      try rw [hgb]
      clear hgb
      generalize World.alloc wd _ = wd at hS KL NB0  ⊢
      refine wpAnyH_ready (rs := [16]) (by kernel_rfl) (by simp) ?_
      refine AllReadyH.cons rfl (fun K hK => ?_) ?_
      go_simp
      have hba := Bw.alloc (Bw.refl wd) (.cells #[.int .i64 26, .int .i64 16, .int .i64 0] 3)
      have NB1 := Lib.hid (Blk.new wd 3 #[.int .i64 26, .int .i64 16, .int .i64 0])
      have hle := Nat.le_of_lt KL.out.lt
      replace KL := Lib.hid (KL.out.bw hba)
      replace NB0 := Lib.hid (NB0.out.bw hba)
      refine hK.out _ _ (hS.trans (Kx.of_bw hba hle)) (fun hS => ?_)
      clear hK K
      clear hba hle
      obtain ⟨gb1, hgb⟩ : ∃ gb, wd.heap.size = gb := ⟨_, rfl⟩
      rw [hgb] at NB1
      try rw [hgb]
      clear hgb
      generalize World.alloc wd _ = wd at hS KL NB1 NB0 ⊢
      refine wpAnyH_ready (rs := [18]) (by kernel_rfl) (by simp) ?_
      refine AllReadyH.cons rfl (fun K hK => ?_) ?_
      have RD0 := Lib.hid (rdI_blkn [x1, 2 * x2, 3 * x3] 3 rfl NB0.out rfl (by simp))
      have RD1 := Lib.hid (rdI_blkn [26, 16, 0] 3 rfl NB1.out rfl (by simp))
      go_simp
      go_wp2_with (go_at_call 35; go_loud (with_reducible refine Calls.mono (VA.out _ _ _ RD0.out RD1.out) ?_); rintro e1 wd ⟨rfl, hb13⟩)
      have hle := Nat.le_of_lt KL.out.lt
      replace KL := Lib.hid (KL.out.bw hb13)
      replace NB0 := Lib.hid (NB0.out.bw hb13)
      replace NB1 := Lib.hid (NB1.out.bw hb13)
      refine hK.out _ _ (hS.trans (Kx.of_bw hb13 hle)) (fun hS => ?_)
      clear hK K
      clear hb13 hle
      refine wpAnyH_ready (rs := [19]) (by kernel_rfl) (by simp) ?_
      refine AllReadyH.cons rfl (fun K hK => ?_) ?_
      go_simp
      go_wp2_with (go_at_call 37; go_loud (with_reducible refine Calls.mono (UN.out _) ?_); rintro e1 wd ⟨rfl, hb13⟩)
      have hle := Nat.le_of_lt KL.out.lt
      replace KL := Lib.hid (KL.out.bw hb13)
      replace NB0 := Lib.hid (NB0.out.bw hb13)
      replace NB1 := Lib.hid (NB1.out.bw hb13)
      refine hK.out _ _ (hS.trans (Kx.of_bw hb13 hle)) (fun hS => ?_)
      clear hK K
      clear hb13 hle
      refine wpAnyH_ready (rs := [20]) (by kernel_rfl) (by simp) ?_
      refine AllReadyH.cons rfl (fun K hK => ?_) ?_
      go_simp
      go_wp2_with (go_at_call 36; go_loud (with_reducible refine Calls.mono (OV.out _) ?_); rintro e1 wd ⟨rfl, hb13⟩)
      have hle := Nat.le_of_lt KL.out.lt
      replace KL := Lib.hid (KL.out.bw hb13)
      replace NB0 := Lib.hid (NB0.out.bw hb13)
      replace NB1 := Lib.hid (NB1.out.bw hb13)
      refine hK.out _ _ (hS.trans (Kx.of_bw hb13 hle)) (fun hS => ?_)
      clear hK K
      clear hb13 hle
      refine take1 (i := 21) (some 49) rfl rfl (by kernel_rfl) (by kernel_rfl) (by kernel_rfl) (fun _ _ _ _ h => h) rfl hS ?_
      apply Exists.intro
      apply And.intro
      · intro W9 hW9; have y1 := (hW9.blk KX.out (by have := HG8.out; omega)).cell e1; have y2 := (hW9.blk KX.out (by have := HG8.out; omega)).cell e2; have y3 := (hW9.blk KX.out (by have := HG8.out; omega)).cell e3; go_simp; try with_reducible rfl
      simp only [Act.put, List.setIfInBounds_toArray, List.set_cons_zero, List.set_cons_succ]
      refine wpAnyH_ready (rs := [22]) (by kernel_rfl) (by simp) ?_
      refine AllReadyH.cons rfl (fun K hK => ?_) ?_
      have lc := KL.out.cell (l3V_at L i c3)
      have lf := KL.out.frozen i
      go_simp
      have hst := Kx.set (j := i) KL.out.lt (.int .i64 CQ)
      replace KL := Lib.hid (KL.out.set i (.int .i64 CQ))
      refine hK.out _ _ (hS.trans hst) (fun hS => ?_)
      clear hK K
      clear hst lc lf
      refine wpAnyH_done (by kernel_rfl) ?_ _
      rotate_left
      exact AllReadyH.nil
      exact AllReadyH.nil
      exact AllReadyH.nil
      exact AllReadyH.nil
      exact AllReadyH.nil
      refine AllReadyH.cons rfl (fun K hK => ?_) ?_
      go_simp
      have hba := Bw.alloc (Bw.refl wd) (.cells #[.int .i64 26, .int .i64 16, .int .i64 0] 3)
      have NB1 := Lib.hid (Blk.new wd 3 #[.int .i64 26, .int .i64 16, .int .i64 0])
      have hle := Nat.le_of_lt KL.out.lt
      replace KL := Lib.hid (KL.out.bw hba)
      refine hK.out _ _ (hS.trans (Kx.of_bw hba hle)) (fun hS => ?_)
      clear hK K
      clear hba hle
      obtain ⟨gb1, hgb⟩ : ∃ gb, wd.heap.size = gb := ⟨_, rfl⟩
      rw [hgb] at NB1
      try rw [hgb]
      clear hgb
      generalize World.alloc wd _ = wd at hS KL NB1  ⊢
      refine wpAnyH_ready (rs := [15]) (by kernel_rfl) (by simp) ?_
      refine AllReadyH.cons rfl (fun K hK => ?_) ?_
      go_simp
      have hba := Bw.alloc (Bw.refl wd) (.cells #[.int .i64 x1, .int .i64 (2 * x2), .int .i64 (3 * x3)] 3)
      have NB0 := Lib.hid (Blk.new wd 3 #[.int .i64 x1, .int .i64 (2 * x2), .int .i64 (3 * x3)])
      have hle := Nat.le_of_lt KL.out.lt
      replace KL := Lib.hid (KL.out.bw hba)
      replace NB1 := Lib.hid (NB1.out.bw hba)
      refine hK.out _ _ (hS.trans (Kx.of_bw hba hle)) (fun hS => ?_)
      clear hK K
      clear hba hle
      obtain ⟨gb0, hgb⟩ : ∃ gb, wd.heap.size = gb := ⟨_, rfl⟩
      rw [hgb] at NB0
      try rw [hgb]
      clear hgb
      generalize World.alloc wd _ = wd at hS KL NB0 NB1 ⊢
      refine wpAnyH_ready (rs := [18]) (by kernel_rfl) (by simp) ?_
      refine AllReadyH.cons rfl (fun K hK => ?_) ?_
      have RD0 := Lib.hid (rdI_blkn [x1, 2 * x2, 3 * x3] 3 rfl NB0.out rfl (by simp))
      have RD1 := Lib.hid (rdI_blkn [26, 16, 0] 3 rfl NB1.out rfl (by simp))
      go_simp
      go_wp2_with (go_at_call 35; go_loud (with_reducible refine Calls.mono (VA.out _ _ _ RD0.out RD1.out) ?_); rintro e1 wd ⟨rfl, hb13⟩)
      have hle := Nat.le_of_lt KL.out.lt
      replace KL := Lib.hid (KL.out.bw hb13)
      replace NB0 := Lib.hid (NB0.out.bw hb13)
      replace NB1 := Lib.hid (NB1.out.bw hb13)
      refine hK.out _ _ (hS.trans (Kx.of_bw hb13 hle)) (fun hS => ?_)
      clear hK K
      clear hb13 hle
      refine wpAnyH_ready (rs := [19]) (by kernel_rfl) (by simp) ?_
      refine AllReadyH.cons rfl (fun K hK => ?_) ?_
      go_simp
      go_wp2_with (go_at_call 37; go_loud (with_reducible refine Calls.mono (UN.out _) ?_); rintro e1 wd ⟨rfl, hb13⟩)
      have hle := Nat.le_of_lt KL.out.lt
      replace KL := Lib.hid (KL.out.bw hb13)
      replace NB0 := Lib.hid (NB0.out.bw hb13)
      replace NB1 := Lib.hid (NB1.out.bw hb13)
      refine hK.out _ _ (hS.trans (Kx.of_bw hb13 hle)) (fun hS => ?_)
      clear hK K
      clear hb13 hle
      refine wpAnyH_ready (rs := [20]) (by kernel_rfl) (by simp) ?_
      refine AllReadyH.cons rfl (fun K hK => ?_) ?_
      go_simp
      go_wp2_with (go_at_call 36; go_loud (with_reducible refine Calls.mono (OV.out _) ?_); rintro e1 wd ⟨rfl, hb13⟩)
      have hle := Nat.le_of_lt KL.out.lt
      replace KL := Lib.hid (KL.out.bw hb13)
      replace NB0 := Lib.hid (NB0.out.bw hb13)
      replace NB1 := Lib.hid (NB1.out.bw hb13)
      refine hK.out _ _ (hS.trans (Kx.of_bw hb13 hle)) (fun hS => ?_)
      clear hK K
      clear hb13 hle
      refine take1 (i := 21) (some 49) rfl rfl (by kernel_rfl) (by kernel_rfl) (by kernel_rfl) (fun _ _ _ _ h => h) rfl hS ?_
      apply Exists.intro
      apply And.intro
      · intro W9 hW9; have y1 := (hW9.blk KX.out (by have := HG8.out; omega)).cell e1; have y2 := (hW9.blk KX.out (by have := HG8.out; omega)).cell e2; have y3 := (hW9.blk KX.out (by have := HG8.out; omega)).cell e3; go_simp; try with_reducible rfl
      simp only [Act.put, List.setIfInBounds_toArray, List.set_cons_zero, List.set_cons_succ]
      refine wpAnyH_ready (rs := [22]) (by kernel_rfl) (by simp) ?_
      refine AllReadyH.cons rfl (fun K hK => ?_) ?_
      have lc := KL.out.cell (l3V_at L i c3)
      have lf := KL.out.frozen i
      go_simp
      have hst := Kx.set (j := i) KL.out.lt (.int .i64 CQ)
      replace KL := Lib.hid (KL.out.set i (.int .i64 CQ))
      refine hK.out _ _ (hS.trans hst) (fun hS => ?_)
      clear hK K
      clear hst lc lf
      refine wpAnyH_done (by kernel_rfl) ?_ _
      rotate_left
      exact AllReadyH.nil
      exact AllReadyH.nil
      exact AllReadyH.nil
      exact AllReadyH.nil
      exact AllReadyH.nil
      exact AllReadyH.nil
      all_goals
        replace HW := Lib.hid (hS.bw HW.out (by have := HG.out; have := HG8.out; omega))
        replace KX := Lib.hid (hS.blk KX.out (by have := HG8.out; omega))
        replace KP := Lib.hid (hS.blk KP.out (by have := HG8.out; omega))
        replace KA := Lib.hid (hS.blk KA.out (by have := HGA.out; omega))
        rw [l3V_set L i c3] at KL
        go_wp2
        go_roundg (3 - (i + 1))
        case measure => omega
        case rel => exact ⟨i + 1, by omega, by omega, by go_num, HW, KX, KP, KA, _, KL, Lib.hid (fun j hj => by (try dsimp only); by_cases e : j = i; (rw [if_pos e, e, HPI.out]); (rw [if_neg e]; exact HL.out j (by omega)))⟩
end Go.Proofs.Sky

namespace Go.Proofs.Sky
open Go Go.RowKit Go.Shelf
set_option maxHeartbeats 4000000
set_option maxRecDepth 8000
/-! chapter 28: Speed, the walk -/
/-- the bound of the velocity of an axis -/
def spQ (c1 c2 c3 : Int) : Int := ((c1.natAbs : Int) * 67108864 + 2 * (c2.natAbs : Int) * 7200 * 65536 + 3 * (c3.natAbs : Int) * 7200 * 7200 + 67108864 - 1) / 67108864
def spE (X : Nat → Int) (j : Nat) : Int := if errE X = 0 then spQ (X (7 + 4 * j + 1)) (X (7 + 4 * j + 2)) (X (7 + 4 * j + 3)) else 0
theorem Speed28_any (X : Nat → Int) (w : World) : Calls Tryd.prog 6 #[.agg (eV X)] w fun e w' => e = .returned (.tuple #[.agg (l3V (spE X)), .int .i64 (errE X)]) ∧ Bw w w' := by
  have CK := Lib.hid (fun W => ECheck_any X W)
  have KX := Lib.hid ((Blk.new w 25 (eV X)).alloc (.cells #[.int .i64 0, .int .i64 0, .int .i64 0] 27))
  have KP := Lib.hid (show Blk ((w.alloc (.cells (eV X) 25)).alloc (.cells #[.int .i64 0, .int .i64 0, .int .i64 0] 27)) (w.heap.size + 1) 27 #[.int .i64 0, .int .i64 0, .int .i64 0] from by have h9 := Blk.new (w.alloc (.cells (eV X) 25)) 27 #[.int .i64 0, .int .i64 0, .int .i64 0]; simp only [World.size_alloc] at h9; exact h9)
  have HW := Lib.hid (Bw.alloc (Bw.alloc (Bw.refl w) (.cells (eV X) 25)) (.cells #[.int .i64 0, .int .i64 0, .int .i64 0] 27))
  have HSZ : Hid ((Tryd.prog.info? 25).map (·.size) = some (eV X).size) := Lib.hid (by kernel_rfl)
  have HRA := Lib.hid (fun W g i hi (hB : Blk W g 25 (eV X)) => rdI_ax hB i hi)
  obtain ⟨g, hg⟩ : ∃ g, w.heap.size = g := ⟨_, rfl⟩
  rw [hg] at KX KP
  have HG := Lib.hid hg
  have HBD := Lib.hid (fun (h : errE X = 0) j hj => ax_bd h j hj)
  have HPS := Lib.hid (show ∀ j, spE X j = if errE X = 0 then spQ (X (7 + 4 * j + 1)) (X (7 + 4 * j + 2)) (X (7 + 4 * j + 3)) else 0 from fun j => rfl)
  generalize spE X = PSF at *
  generalize errE X = er at *
  have HCX := Lib.hid (fun i (hi : i < 19) => eV_at X i hi)
  obtain ⟨A, hA⟩ : ∃ A, A = eV X := ⟨_, rfl⟩
  rw [← hA] at CK KX KP HW HSZ HRA HCX ⊢
  clear hA
  go_enter Tryd.func6, Tryd.ntmps6
  go_upto_region 1 with fail
  obtain ⟨W0, hW0⟩ : ∃ W0, (w.alloc (.cells A 25)).alloc (.cells #[.int .i64 0, .int .i64 0, .int .i64 0] 27) = W0 := ⟨_, rfl⟩
  rw [hW0] at KX KP HW ⊢
  clear hW0 hg
  go_upto_region 2 with (first | ((with_reducible refine at_load 25 (.tmp 1) ?_); refine wpList_load_row rfl 25 _ rfl g rfl 25 A (0, 0) _ KX.out Tryd.underlying25 rfl HSZ.out ?_) | (go_at_call 22; (with_reducible refine Calls.mono (CK.out _) ?_); rintro e1 w1 ⟨rfl, hb1⟩; replace KX := Lib.hid (KX.out.bw hb1); replace KP := Lib.hid (KP.out.bw hb1); replace HW := Lib.hid (HW.out.trans hb1); clear hb1))
  by_cases c1 : er = 0
  case neg =>
    have c1z : (er != 0) = true := by simpa using c1
    have HR := Lib.hid (show l3V PSF = #[.int .i64 0, .int .i64 0, .int .i64 0] from l3V_congr (y := fun _ => 0) (fun j hj => by rw [HPS.out j, if_neg c1]))
    clear c1
    go_wp2_with ((with_reducible refine at_store 27 (.tmp 2) (.tmp 12) ?_); refine wpList_store_row rfl 27 (.tmp 2) (.tmp 12) rfl (g + 1) #[.int .i64 0, .int .i64 0, .int .i64 0] rfl rfl 27 _ KP.out (by kernel_rfl) rfl (by simp [Value.oneCell', l3V]) ?_)
    have F9 := KP.out.row #[.int .i64 0, .int .i64 0, .int .i64 0]
    have B9 := Bw.setRow HW.out (show w.heap.size ≤ g + 1 by have := HG.out; omega) #[.int .i64 0, .int .i64 0, .int .i64 0]
    refine bodyPost_ret (v := .tuple #[.agg #[.int .i64 0, .int .i64 0, .int .i64 0], .int .i64 er]) ?_ rfl ⟨by rw [HR.out], B9⟩
    exact results_two_row (p := 2) (u := 3) rfl _ _ (g + 1) _ rfl (run_loadVar_row _ (g + 1) 27 27 #[.int .i64 0, .int .i64 0, .int .i64 0] (0, 0) _ F9 Tryd.underlying27 rfl (by kernel_rfl))
  have HBX := Lib.hid (HBD.out c1)
  subst c1
  have HPJ := Lib.hid (show ∀ j, PSF j = spQ (X (7 + 4 * j + 1)) (X (7 + 4 * j + 2)) (X (7 + 4 * j + 3)) from fun j => by rw [HPS.out j, if_pos rfl])
  clear HBD HPS CK
  have AX := Lib.hid (fun W => axes28_any g W)
  have HG8 := Lib.hid (show g + 1 < w1.heap.size from KP.out.lt)
  have KL := Lib.hid (show Blk (w1.alloc (.cells #[.int .i64 0, .int .i64 0, .int .i64 0] 22)) w1.heap.size 22 (l3V (fun _ => 0)) from Blk.new w1 22 #[.int .i64 0, .int .i64 0, .int .i64 0])
  have hb8 := Bw.alloc (Bw.refl w1) (.cells #[.int .i64 0, .int .i64 0, .int .i64 0] 22)
  replace KX := Lib.hid (KX.out.bw hb8); replace KP := Lib.hid (KP.out.bw hb8); replace HW := Lib.hid (HW.out.trans hb8)
  obtain ⟨g8, hg8⟩ : ∃ g8, w1.heap.size = g8 := ⟨_, rfl⟩
  rw [hg8] at KL HG8
  clear hb8
  go_upto_region 5 with fail
  obtain ⟨W2, hW2⟩ : ∃ W2, w1.alloc (.cells #[.int .i64 0, .int .i64 0, .int .i64 0] 22) = W2 := ⟨_, rfl⟩
  rw [hW2] at KX KP HW KL ⊢
  clear hW2 hg8
  go_wp2_with (go_at_call 23; (with_reducible refine Calls.mono (AX.out _) ?_); rintro e1 w3 ⟨⟨ga, rfl, hga, hpg⟩, hb1⟩; have KA := Lib.hid hpg; have HGA := Lib.hid (show g8 < ga by have := KL.out.lt; omega); replace KX := Lib.hid (KX.out.bw hb1); replace KP := Lib.hid (KP.out.bw hb1); replace KL := Lib.hid (KL.out.bw hb1); replace HW := Lib.hid (HW.out.trans hb1); clear hb1 hpg hga)
  go_loopg [16] 3 (fun gg s23 wr => ∃ i : Nat, i ≤ 3 ∧ 3 - i ≤ gg ∧ s23 = .int .i64 i ∧ Hid (Bw w wr) ∧ Hid (Blk wr g 25 A) ∧ Hid (Blk wr (g + 1) 27 #[.int .i64 0, .int .i64 0, .int .i64 0]) ∧ Hid (Blk wr ga 54 #[.pointer (some ⟨g, 7, none⟩), .pointer (some ⟨g, 11, none⟩), .pointer (some ⟨g, 15, none⟩)]) ∧ ∃ L, Hid (Blk wr g8 22 (l3V L)) ∧ Hid (∀ j, j < i → L j = PSF j))
  case atStart => exact ⟨0, by omega, by omega, rfl, HW, KX, KP, KA, fun _ => 0, KL, Lib.hid (fun j hj => absurd hj (by omega))⟩
  case round =>
    clear KX KP KA KL HW
    obtain ⟨i, hi, hgg, rfl, HW, KX, KP, KA, L, KL, HL⟩ := hrel
    obtain ⟨wb, rfl⟩ : ∃ wb, wb = wr := ⟨_, rfl⟩
    by_cases c3 : i < 3
    case neg =>
      have c3z : ¬ (i : Int) < 3 := by omega
      obtain rfl : i = 3 := by omega
      have PTC : Hid (∀ W, Calls Tryd.prog 26 #[.agg (l3V PSF)] W fun e w' => e = .returned (.agg (l3V PSF)) ∧ Bw W w') := Lib.hid (fun W => point28_any (PSF 0) (PSF 1) (PSF 2) W)
      rw [l3V_congr (fun j hj => HL.out j hj)] at KL
      go_wp2_with (first | ((with_reducible refine at_load 22 (.tmp 5) ?_); refine wpList_load_row rfl 22 _ rfl g8 rfl 22 (l3V PSF) (0, 0) _ KL.out Tryd.underlying22 rfl (by kernel_rfl) ?_) | (go_at_call 26; (with_reducible refine Calls.mono (PTC.out _) ?_); rintro e1 w7 ⟨rfl, hb1⟩; replace KP := Lib.hid (KP.out.bw hb1); replace HW := Lib.hid (HW.out.trans hb1); clear hb1) | ((with_reducible refine at_store 27 (.tmp 2) (.tmp 50) ?_); refine wpList_store_row rfl 27 (.tmp 2) (.tmp 50) rfl (g + 1) (l3V PSF) rfl rfl 27 _ KP.out (by kernel_rfl) rfl (by simp [Value.oneCell', l3V]) ?_))
      have F9 := KP.out.row (l3V PSF)
      have B9 := Bw.setRow HW.out (show w.heap.size ≤ g + 1 by have := HG.out; omega) (l3V PSF)
      refine bodyPost_ret (v := .tuple #[.agg (l3V PSF), .int .i64 0]) ?_ rfl ⟨rfl, B9⟩
      exact results_two_row (p := 2) (u := 3) rfl _ _ (g + 1) _ rfl (run_loadVar_row _ (g + 1) 27 27 (l3V PSF) (0, 0) _ F9 Tryd.underlying27 rfl (by kernel_rfl))
    case pos =>
      have c3z : (i : Int) < 3 := by omega
      have hi0 : (0 : Int) ≤ i := by omega
      obtain ⟨b0, b1, b2, b3⟩ := HBX.out i c3
      have HPI := Lib.hid (show PSF i = spQ (X (7 + 4 * i + 1)) (X (7 + 4 * i + 2)) (X (7 + 4 * i + 3)) from HPJ.out i)
      have e1 := HCX.out (7 + 4 * i + 1) (by omega)
      have e2 := HCX.out (7 + 4 * i + 2) (by omega)
      have e3 := HCX.out (7 + 4 * i + 3) (by omega)
      generalize X (7 + 4 * i + 1) = x1 at *
      generalize X (7 + 4 * i + 2) = x2 at *
      generalize X (7 + 4 * i + 3) = x3 at *
      have SZ1 := Lib.hid (fun W => size28_any x1 (by omega) W)
      have SZ2 := Lib.hid (fun W => size28_any x2 (by omega) W)
      have SZ3 := Lib.hid (fun W => size28_any x3 (by omega) W)
      have UPC0 := fun S (hS : 0 ≤ S ∧ S ≤ 4000000000000000000) W => up28_any S 67108864 hS (by decide) W
      unfold spQ at HPI
      obtain ⟨n1, hn1⟩ : ∃ n1, n1 = x1.natAbs := ⟨_, rfl⟩
      obtain ⟨n2, hn2⟩ : ∃ n2, n2 = x2.natAbs := ⟨_, rfl⟩
      obtain ⟨n3, hn3⟩ : ∃ n3, n3 = x3.natAbs := ⟨_, rfl⟩
      rw [← hn1] at HPI SZ1 b1
      rw [← hn2] at HPI SZ2 b2
      rw [← hn3] at HPI SZ3 b3
      clear hn1 hn2 hn3 b0
      obtain ⟨S, hSe⟩ : ∃ S : Int, S = (n1 : Int) * 67108864 + 2 * (n2 : Int) * 7200 * 65536 + 3 * (n3 : Int) * 7200 * 7200 := ⟨_, rfl⟩
      have UPC := Lib.hid (fun W => UPC0 S (by omega) W)
      rw [← hSe] at HPI
      have hSz : (n1 : Int) * 67108864 + 2 * (n2 : Int) * 7200 * 65536 + 3 * (n3 : Int) * 7200 * 7200 = S := hSe.symm
      have hws : IntKind.i64.wrap S = S := by rw [IntKind.wrap_i64]; omega
      clear hSe UPC0
      have z1 : (0 : Int) ≤ n1 ∧ (n1 : Int) ≤ 8388608 := by omega
      have z2 : (0 : Int) ≤ n2 ∧ (n2 : Int) ≤ 2097152 := by omega
      have z3 : (0 : Int) ≤ n3 ∧ (n3 : Int) ≤ 8388608 := by omega
      clear b1 b2 b3
      obtain ⟨CQ, hCQ⟩ : ∃ CQ, CQ = (S + 67108864 - 1) / 67108864 := ⟨_, rfl⟩
      rw [← hCQ] at HPI UPC
      clear hCQ
      have pc := KA.out.cell (ps_at g i c3)
      go_upto_region 8 with fail
      clear pc
      refine wp_region_held_drew (S := Kx g8 wb) (by kernel_rfl) (Kx.of_bw (Bw.drew (Bw.refl _)) (Nat.le_of_lt KL.out.lt)) (fun hS => ?_)
      replace KL := Lib.hid (KL.out.bw (Bw.drew (Bw.refl _)))
      generalize World.drew _ = wd at hS KL ⊢
      refine take1 (i := 0) (some 21) rfl rfl (by kernel_rfl) (by kernel_rfl) (by kernel_rfl) (fun _ _ _ _ h => h) rfl hS ?_
      apply Exists.intro
      apply And.intro
      · intro W9 hW9; have y1 := (hW9.blk KX.out (by have := HG8.out; omega)).cell e1; have y2 := (hW9.blk KX.out (by have := HG8.out; omega)).cell e2; have y3 := (hW9.blk KX.out (by have := HG8.out; omega)).cell e3; go_simp; try with_reducible rfl
      simp only [Act.put, List.setIfInBounds_toArray, List.set_cons_zero, List.set_cons_succ]
      refine take1 (i := 1) (some 22) rfl rfl (by kernel_rfl) (by kernel_rfl) (by kernel_rfl) (fun _ _ _ _ h => h) rfl hS ?_
      apply Exists.intro
      apply And.intro
      · intro W9 hW9; have y1 := (hW9.blk KX.out (by have := HG8.out; omega)).cell e1; have y2 := (hW9.blk KX.out (by have := HG8.out; omega)).cell e2; have y3 := (hW9.blk KX.out (by have := HG8.out; omega)).cell e3; go_simp; try with_reducible rfl
      simp only [Act.put, List.setIfInBounds_toArray, List.set_cons_zero, List.set_cons_succ]
      refine take1 (i := 2) (some 23) rfl rfl (by kernel_rfl) (by kernel_rfl) (by kernel_rfl) (fun _ _ _ _ h => h) rfl hS ?_
      apply Exists.intro
      apply And.intro
      · intro W9 hW9; have y1 := (hW9.blk KX.out (by have := HG8.out; omega)).cell e1; have y2 := (hW9.blk KX.out (by have := HG8.out; omega)).cell e2; have y3 := (hW9.blk KX.out (by have := HG8.out; omega)).cell e3; go_simp; try with_reducible rfl
      simp only [Act.put, List.setIfInBounds_toArray, List.set_cons_zero, List.set_cons_succ]
      refine take1 (i := 3) (some 24) rfl rfl (by kernel_rfl) (by kernel_rfl) (by kernel_rfl) (fun _ _ _ _ h => h) rfl hS ?_
      apply Exists.intro
      apply And.intro
      · intro W9 hW9; have y1 := (hW9.blk KX.out (by have := HG8.out; omega)).cell e1; have y2 := (hW9.blk KX.out (by have := HG8.out; omega)).cell e2; have y3 := (hW9.blk KX.out (by have := HG8.out; omega)).cell e3; go_simp; try with_reducible rfl
      simp only [Act.put, List.setIfInBounds_toArray, List.set_cons_zero, List.set_cons_succ]
      refine take1 (i := 4) (some 25) rfl rfl (by kernel_rfl) (by kernel_rfl) (by kernel_rfl) (fun _ _ _ _ h => h) rfl hS ?_
      refine Exists.intro (.int .i64 x1) ?_
      apply And.intro
      · intro W9 hW9; have y1 := (hW9.blk KX.out (by have := HG8.out; omega)).cell e1; have y2 := (hW9.blk KX.out (by have := HG8.out; omega)).cell e2; have y3 := (hW9.blk KX.out (by have := HG8.out; omega)).cell e3; go_simp; (try go_bits); (try with_reducible rfl); (try trivial)
      simp only [Act.put, List.setIfInBounds_toArray, List.set_cons_zero, List.set_cons_succ]
      refine take1 (i := 7) (some 28) rfl rfl (by kernel_rfl) (by kernel_rfl) (by kernel_rfl) (fun _ _ _ _ h => h) rfl hS ?_
      apply Exists.intro
      apply And.intro
      · intro W9 hW9; have y1 := (hW9.blk KX.out (by have := HG8.out; omega)).cell e1; have y2 := (hW9.blk KX.out (by have := HG8.out; omega)).cell e2; have y3 := (hW9.blk KX.out (by have := HG8.out; omega)).cell e3; go_simp; try with_reducible rfl
      simp only [Act.put, List.setIfInBounds_toArray, List.set_cons_zero, List.set_cons_succ]
      refine take1 (i := 8) (some 29) rfl rfl (by kernel_rfl) (by kernel_rfl) (by kernel_rfl) (fun _ _ _ _ h => h) rfl hS ?_
      apply Exists.intro
      apply And.intro
      · intro W9 hW9; have y1 := (hW9.blk KX.out (by have := HG8.out; omega)).cell e1; have y2 := (hW9.blk KX.out (by have := HG8.out; omega)).cell e2; have y3 := (hW9.blk KX.out (by have := HG8.out; omega)).cell e3; go_simp; try with_reducible rfl
      simp only [Act.put, List.setIfInBounds_toArray, List.set_cons_zero, List.set_cons_succ]
      refine take1 (i := 9) (some 30) rfl rfl (by kernel_rfl) (by kernel_rfl) (by kernel_rfl) (fun _ _ _ _ h => h) rfl hS ?_
      apply Exists.intro
      apply And.intro
      · intro W9 hW9; have y1 := (hW9.blk KX.out (by have := HG8.out; omega)).cell e1; have y2 := (hW9.blk KX.out (by have := HG8.out; omega)).cell e2; have y3 := (hW9.blk KX.out (by have := HG8.out; omega)).cell e3; go_simp; try with_reducible rfl
      simp only [Act.put, List.setIfInBounds_toArray, List.set_cons_zero, List.set_cons_succ]
      refine take1 (i := 10) (some 31) rfl rfl (by kernel_rfl) (by kernel_rfl) (by kernel_rfl) (fun _ _ _ _ h => h) rfl hS ?_
      refine Exists.intro (.int .i64 x2) ?_
      apply And.intro
      · intro W9 hW9; have y1 := (hW9.blk KX.out (by have := HG8.out; omega)).cell e1; have y2 := (hW9.blk KX.out (by have := HG8.out; omega)).cell e2; have y3 := (hW9.blk KX.out (by have := HG8.out; omega)).cell e3; go_simp; (try go_bits); (try with_reducible rfl); (try trivial)
      simp only [Act.put, List.setIfInBounds_toArray, List.set_cons_zero, List.set_cons_succ]
      refine take1 (i := 16) (some 37) rfl rfl (by kernel_rfl) (by kernel_rfl) (by kernel_rfl) (fun _ _ _ _ h => h) rfl hS ?_
      apply Exists.intro
      apply And.intro
      · intro W9 hW9; have y1 := (hW9.blk KX.out (by have := HG8.out; omega)).cell e1; have y2 := (hW9.blk KX.out (by have := HG8.out; omega)).cell e2; have y3 := (hW9.blk KX.out (by have := HG8.out; omega)).cell e3; go_simp; try with_reducible rfl
      simp only [Act.put, List.setIfInBounds_toArray, List.set_cons_zero, List.set_cons_succ]
      refine take1 (i := 17) (some 38) rfl rfl (by kernel_rfl) (by kernel_rfl) (by kernel_rfl) (fun _ _ _ _ h => h) rfl hS ?_
      apply Exists.intro
      apply And.intro
      · intro W9 hW9; have y1 := (hW9.blk KX.out (by have := HG8.out; omega)).cell e1; have y2 := (hW9.blk KX.out (by have := HG8.out; omega)).cell e2; have y3 := (hW9.blk KX.out (by have := HG8.out; omega)).cell e3; go_simp; try with_reducible rfl
      simp only [Act.put, List.setIfInBounds_toArray, List.set_cons_zero, List.set_cons_succ]
      refine take1 (i := 18) (some 39) rfl rfl (by kernel_rfl) (by kernel_rfl) (by kernel_rfl) (fun _ _ _ _ h => h) rfl hS ?_
      apply Exists.intro
      apply And.intro
      · intro W9 hW9; have y1 := (hW9.blk KX.out (by have := HG8.out; omega)).cell e1; have y2 := (hW9.blk KX.out (by have := HG8.out; omega)).cell e2; have y3 := (hW9.blk KX.out (by have := HG8.out; omega)).cell e3; go_simp; try with_reducible rfl
      simp only [Act.put, List.setIfInBounds_toArray, List.set_cons_zero, List.set_cons_succ]
      refine take1 (i := 19) (some 40) rfl rfl (by kernel_rfl) (by kernel_rfl) (by kernel_rfl) (fun _ _ _ _ h => h) rfl hS ?_
      refine Exists.intro (.int .i64 x3) ?_
      apply And.intro
      · intro W9 hW9; have y1 := (hW9.blk KX.out (by have := HG8.out; omega)).cell e1; have y2 := (hW9.blk KX.out (by have := HG8.out; omega)).cell e2; have y3 := (hW9.blk KX.out (by have := HG8.out; omega)).cell e3; go_simp; (try go_bits); (try with_reducible rfl); (try trivial)
      simp only [Act.put, List.setIfInBounds_toArray, List.set_cons_zero, List.set_cons_succ]
      refine wpAnyH_ready (rs := [5]) (by kernel_rfl) (by simp) ?_
      refine AllReadyH.cons rfl (fun K hK => ?_) ?_
      go_simp
      go_wp2_with (go_at_call 25; (with_reducible refine Calls.mono (SZ1.out _) ?_); rintro e1 wd ⟨rfl, hb13⟩)
      have hle := Nat.le_of_lt KL.out.lt
      replace KL := Lib.hid (KL.out.bw hb13)
      refine hK.out _ _ (hS.trans (Kx.of_bw hb13 hle)) (fun hS => ?_)
      clear hK K
      clear hb13 hle
      refine take1 (i := 6) (some 27) rfl rfl (by kernel_rfl) (by kernel_rfl) (by kernel_rfl) (fun _ _ _ _ h => h) rfl hS ?_
      refine Exists.intro (.int .i64 ((n1 : Int) * 67108864)) ?_
      apply And.intro
      · intro W9 hW9; have y1 := (hW9.blk KX.out (by have := HG8.out; omega)).cell e1; have y2 := (hW9.blk KX.out (by have := HG8.out; omega)).cell e2; have y3 := (hW9.blk KX.out (by have := HG8.out; omega)).cell e3; go_simp; (try go_bits); (try with_reducible rfl); (try trivial)
      simp only [Act.put, List.setIfInBounds_toArray, List.set_cons_zero, List.set_cons_succ]
      refine wpAnyH_ready (rs := [11]) (by kernel_rfl) (by simp) ?_
      refine AllReadyH.cons rfl (fun K hK => ?_) ?_
      go_simp
      go_wp2_with (go_at_call 25; (with_reducible refine Calls.mono (SZ2.out _) ?_); rintro e1 wd ⟨rfl, hb13⟩)
      have hle := Nat.le_of_lt KL.out.lt
      replace KL := Lib.hid (KL.out.bw hb13)
      refine hK.out _ _ (hS.trans (Kx.of_bw hb13 hle)) (fun hS => ?_)
      clear hK K
      clear hb13 hle
      refine take1 (i := 12) (some 33) rfl rfl (by kernel_rfl) (by kernel_rfl) (by kernel_rfl) (fun _ _ _ _ h => h) rfl hS ?_
      refine Exists.intro (.int .i64 (2 * (n2 : Int))) ?_
      apply And.intro
      · intro W9 hW9; have y1 := (hW9.blk KX.out (by have := HG8.out; omega)).cell e1; have y2 := (hW9.blk KX.out (by have := HG8.out; omega)).cell e2; have y3 := (hW9.blk KX.out (by have := HG8.out; omega)).cell e3; go_simp; (try go_bits); (try with_reducible rfl); (try trivial)
      simp only [Act.put, List.setIfInBounds_toArray, List.set_cons_zero, List.set_cons_succ]
      refine take1 (i := 13) (some 34) rfl rfl (by kernel_rfl) (by kernel_rfl) (by kernel_rfl) (fun _ _ _ _ h => h) rfl hS ?_
      refine Exists.intro (.int .i64 (2 * (n2 : Int) * 7200)) ?_
      apply And.intro
      · intro W9 hW9; have y1 := (hW9.blk KX.out (by have := HG8.out; omega)).cell e1; have y2 := (hW9.blk KX.out (by have := HG8.out; omega)).cell e2; have y3 := (hW9.blk KX.out (by have := HG8.out; omega)).cell e3; go_simp; (try go_bits); (try with_reducible rfl); (try trivial)
      simp only [Act.put, List.setIfInBounds_toArray, List.set_cons_zero, List.set_cons_succ]
      refine take1 (i := 14) (some 35) rfl rfl (by kernel_rfl) (by kernel_rfl) (by kernel_rfl) (fun _ _ _ _ h => h) rfl hS ?_
      refine Exists.intro (.int .i64 (2 * (n2 : Int) * 7200 * 65536)) ?_
      apply And.intro
      · intro W9 hW9; have y1 := (hW9.blk KX.out (by have := HG8.out; omega)).cell e1; have y2 := (hW9.blk KX.out (by have := HG8.out; omega)).cell e2; have y3 := (hW9.blk KX.out (by have := HG8.out; omega)).cell e3; go_simp; (try go_bits); (try with_reducible rfl); (try trivial)
      simp only [Act.put, List.setIfInBounds_toArray, List.set_cons_zero, List.set_cons_succ]
      refine take1 (i := 15) (some 36) rfl rfl (by kernel_rfl) (by kernel_rfl) (by kernel_rfl) (fun _ _ _ _ h => h) rfl hS ?_
      refine Exists.intro (.int .i64 ((n1 : Int) * 67108864 + 2 * (n2 : Int) * 7200 * 65536)) ?_
      apply And.intro
      · intro W9 hW9; have y1 := (hW9.blk KX.out (by have := HG8.out; omega)).cell e1; have y2 := (hW9.blk KX.out (by have := HG8.out; omega)).cell e2; have y3 := (hW9.blk KX.out (by have := HG8.out; omega)).cell e3; go_simp; (try go_bits); (try with_reducible rfl); (try trivial)
      simp only [Act.put, List.setIfInBounds_toArray, List.set_cons_zero, List.set_cons_succ]
      refine wpAnyH_ready (rs := [20]) (by kernel_rfl) (by simp) ?_
      refine AllReadyH.cons rfl (fun K hK => ?_) ?_
      go_simp
      go_wp2_with (go_at_call 25; (with_reducible refine Calls.mono (SZ3.out _) ?_); rintro e1 wd ⟨rfl, hb13⟩)
      have hle := Nat.le_of_lt KL.out.lt
      replace KL := Lib.hid (KL.out.bw hb13)
      refine hK.out _ _ (hS.trans (Kx.of_bw hb13 hle)) (fun hS => ?_)
      clear hK K
      clear hb13 hle
      refine take1 (i := 21) (some 42) rfl rfl (by kernel_rfl) (by kernel_rfl) (by kernel_rfl) (fun _ _ _ _ h => h) rfl hS ?_
      refine Exists.intro (.int .i64 (3 * (n3 : Int))) ?_
      apply And.intro
      · intro W9 hW9; have y1 := (hW9.blk KX.out (by have := HG8.out; omega)).cell e1; have y2 := (hW9.blk KX.out (by have := HG8.out; omega)).cell e2; have y3 := (hW9.blk KX.out (by have := HG8.out; omega)).cell e3; go_simp; (try go_bits); (try with_reducible rfl); (try trivial)
      simp only [Act.put, List.setIfInBounds_toArray, List.set_cons_zero, List.set_cons_succ]
      refine take1 (i := 22) (some 43) rfl rfl (by kernel_rfl) (by kernel_rfl) (by kernel_rfl) (fun _ _ _ _ h => h) rfl hS ?_
      refine Exists.intro (.int .i64 (3 * (n3 : Int) * 7200)) ?_
      apply And.intro
      · intro W9 hW9; have y1 := (hW9.blk KX.out (by have := HG8.out; omega)).cell e1; have y2 := (hW9.blk KX.out (by have := HG8.out; omega)).cell e2; have y3 := (hW9.blk KX.out (by have := HG8.out; omega)).cell e3; go_simp; (try go_bits); (try with_reducible rfl); (try trivial)
      simp only [Act.put, List.setIfInBounds_toArray, List.set_cons_zero, List.set_cons_succ]
      refine take1 (i := 23) (some 44) rfl rfl (by kernel_rfl) (by kernel_rfl) (by kernel_rfl) (fun _ _ _ _ h => h) rfl hS ?_
      refine Exists.intro (.int .i64 (3 * (n3 : Int) * 7200 * 7200)) ?_
      apply And.intro
      · intro W9 hW9; have y1 := (hW9.blk KX.out (by have := HG8.out; omega)).cell e1; have y2 := (hW9.blk KX.out (by have := HG8.out; omega)).cell e2; have y3 := (hW9.blk KX.out (by have := HG8.out; omega)).cell e3; go_simp; (try go_bits); (try with_reducible rfl); (try trivial)
      simp only [Act.put, List.setIfInBounds_toArray, List.set_cons_zero, List.set_cons_succ]
      refine take1 (i := 24) (some 45) rfl rfl (by kernel_rfl) (by kernel_rfl) (by kernel_rfl) (fun _ _ _ _ h => h) rfl hS ?_
      refine Exists.intro (.int .i64 S) ?_
      apply And.intro
      · intro W9 hW9; have y1 := (hW9.blk KX.out (by have := HG8.out; omega)).cell e1; have y2 := (hW9.blk KX.out (by have := HG8.out; omega)).cell e2; have y3 := (hW9.blk KX.out (by have := HG8.out; omega)).cell e3; go_simp; (try simp only [hSz, hws]); (try with_reducible rfl); (try trivial)
      simp only [Act.put, List.setIfInBounds_toArray, List.set_cons_zero, List.set_cons_succ]
      refine wpAnyH_ready (rs := [25]) (by kernel_rfl) (by simp) ?_
      refine AllReadyH.cons rfl (fun K hK => ?_) ?_
      go_simp
      go_wp2_with (go_at_call 24; (with_reducible refine Calls.mono (UPC.out _) ?_); rintro e1 wd ⟨rfl, hb13⟩)
      have hle := Nat.le_of_lt KL.out.lt
      replace KL := Lib.hid (KL.out.bw hb13)
      refine hK.out _ _ (hS.trans (Kx.of_bw hb13 hle)) (fun hS => ?_)
      clear hK K
      clear hb13 hle
      refine take1 (i := 26) (some 47) rfl rfl (by kernel_rfl) (by kernel_rfl) (by kernel_rfl) (fun _ _ _ _ h => h) rfl hS ?_
      apply Exists.intro
      apply And.intro
      · intro W9 hW9; have y1 := (hW9.blk KX.out (by have := HG8.out; omega)).cell e1; have y2 := (hW9.blk KX.out (by have := HG8.out; omega)).cell e2; have y3 := (hW9.blk KX.out (by have := HG8.out; omega)).cell e3; go_simp; try with_reducible rfl
      simp only [Act.put, List.setIfInBounds_toArray, List.set_cons_zero, List.set_cons_succ]
      refine wpAnyH_ready (rs := [27]) (by kernel_rfl) (by simp) ?_
      refine AllReadyH.cons rfl (fun K hK => ?_) ?_
      have lc := KL.out.cell (l3V_at L i c3)
      have lf := KL.out.frozen i
      go_simp
      have hst := Kx.set (j := i) KL.out.lt (.int .i64 CQ)
      replace KL := Lib.hid (KL.out.set i (.int .i64 CQ))
      refine hK.out _ _ (hS.trans hst) (fun hS => ?_)
      clear hK K
      clear hst lc lf
      refine wpAnyH_done (by kernel_rfl) ?_ _
      rotate_left
      exact AllReadyH.nil
      exact AllReadyH.nil
      exact AllReadyH.nil
      exact AllReadyH.nil
      exact AllReadyH.nil
      all_goals
        replace HW := Lib.hid (hS.bw HW.out (by have := HG.out; have := HG8.out; omega))
        replace KX := Lib.hid (hS.blk KX.out (by have := HG8.out; omega))
        replace KP := Lib.hid (hS.blk KP.out (by have := HG8.out; omega))
        replace KA := Lib.hid (hS.blk KA.out (by have := HGA.out; omega))
        rw [l3V_set L i c3] at KL
        go_wp2
        go_roundg (3 - (i + 1))
        case measure => omega
        case rel => exact ⟨i + 1, by omega, by omega, by go_num, HW, KX, KP, KA, _, KL, Lib.hid (fun j hj => by (try dsimp only); by_cases e : j = i; (rw [if_pos e, e, HPI.out]); (rw [if_neg e]; exact HL.out j (by omega)))⟩
end Go.Proofs.Sky

namespace Go.Proofs.Sky
open Go Go.RowKit Go.Shelf
set_option maxHeartbeats 4000000
set_option maxRecDepth 8000
/-! chapter 28's cards: small functions -/
/-- a quotient, rounded half away from zero -/
def rn (a b : Int) : Int := if a < 0 then -((2 * (-a) + b) / (2 * b)) else (2 * a + b) / (2 * b)
theorem rn_bd (a b : Int) (ha : 0 ≤ a ∧ a ≤ 1000000000000) (hb : 1 ≤ b ∧ b ≤ 1000000000000) : 0 ≤ rn a b ∧ rn a b ≤ 4000000000000 := by
  unfold rn
  rw [if_neg (by omega)]
  exact ⟨Int.ediv_nonneg (by omega) (by omega), Int.le_trans (Int.ediv_le_self _ (by omega)) (by omega)⟩
theorem rounded28_pos (a b : Int) (ha : 0 ≤ a ∧ a ≤ 1000000000000) (hb : 1 ≤ b ∧ b ≤ 1000000000000) (w : World) : Calls Tryd.prog 29 #[.int .i64 a, .int .i64 b] w fun e w' => e = .returned (.int .i64 (rn a b)) ∧ Bw w w' := by
  have HR := Lib.hid (show rn a b = (2 * a + b) / (2 * b) by unfold rn; rw [if_neg (by omega)])
  have hn : ¬ a < 0 := by omega
  have hq : (2 * a + b).tdiv (2 * b) = (2 * a + b) / (2 * b) := Int.tdiv_eq_ediv_of_nonneg (by omega)
  have hz : 2 * b ≠ 0 := by omega
  have hbd : 0 ≤ (2 * a + b) / (2 * b) ∧ (2 * a + b) / (2 * b) ≤ 4000000000000 := ⟨Int.ediv_nonneg (by omega) (by omega), Int.le_trans (Int.ediv_le_self _ (by omega)) (by omega)⟩
  go_enter Tryd.func29, Tryd.ntmps29
  go_wp2
  go_ret
  exact ⟨ret_int (by rw [HR.out]), Bw.refl _⟩
theorem rounded28_any (a b : Int) (ha : -1000000000000 ≤ a ∧ a ≤ 1000000000000) (hb : 1 ≤ b ∧ b ≤ 1000000000000) (w : World) : Calls Tryd.prog 29 #[.int .i64 a, .int .i64 b] w fun e w' => e = .returned (.int .i64 (rn a b)) ∧ Bw w w' := by
  by_cases hn : 0 ≤ a
  · exact rounded28_pos a b ⟨hn, ha.2⟩ hb w
  have HC := Lib.hid (fun W => rounded28_pos (-a) b (by omega) hb W)
  have HR := Lib.hid (show rn a b = -(rn (-a) b) by unfold rn; rw [if_pos (show a < 0 by omega), if_neg (show ¬ (-a < 0) by omega)])
  have hbd := rn_bd (-a) b (by omega) hb
  generalize rn (-a) b = q at *
  generalize rn a b = r at *
  have hn2 : a < 0 := by omega
  go_enter Tryd.func29, Tryd.ntmps29
  go_wp2_with (go_at_call 29; (with_reducible refine Calls.mono (HC.out _) ?_); rintro e1 w1 ⟨rfl, hb1⟩)
  go_ret
  exact ⟨ret_int (by rw [HR.out]), hb1⟩
theorem nearest28_pos (a b : Int) (ha : 0 ≤ a ∧ a ≤ 1000000000000) (hb : 1 ≤ b ∧ b ≤ 1000000000000) (w : World) : Calls Tryd.prog 52 #[.int .i64 a, .int .i64 b] w fun e w' => e = .returned (.int .i64 (rn a b)) ∧ Bw w w' := by
  have HR := Lib.hid (show rn a b = (2 * a + b) / (2 * b) by unfold rn; rw [if_neg (by omega)])
  have hn : ¬ a < 0 := by omega
  have hq : (2 * a + b).tdiv (2 * b) = (2 * a + b) / (2 * b) := Int.tdiv_eq_ediv_of_nonneg (by omega)
  have hz : 2 * b ≠ 0 := by omega
  have hbd : 0 ≤ (2 * a + b) / (2 * b) ∧ (2 * a + b) / (2 * b) ≤ 4000000000000 := ⟨Int.ediv_nonneg (by omega) (by omega), Int.le_trans (Int.ediv_le_self _ (by omega)) (by omega)⟩
  go_enter Tryd.func52, Tryd.ntmps52
  go_wp2
  go_ret
  exact ⟨ret_int (by rw [HR.out]), Bw.refl _⟩
theorem nearest28_any (a b : Int) (ha : -1000000000000 ≤ a ∧ a ≤ 1000000000000) (hb : 1 ≤ b ∧ b ≤ 1000000000000) (w : World) : Calls Tryd.prog 52 #[.int .i64 a, .int .i64 b] w fun e w' => e = .returned (.int .i64 (rn a b)) ∧ Bw w w' := by
  by_cases hn : 0 ≤ a
  · exact nearest28_pos a b ⟨hn, ha.2⟩ hb w
  have HC := Lib.hid (fun W => nearest28_pos (-a) b (by omega) hb W)
  have HR := Lib.hid (show rn a b = -(rn (-a) b) by unfold rn; rw [if_pos (show a < 0 by omega), if_neg (show ¬ (-a < 0) by omega)])
  have hbd := rn_bd (-a) b (by omega) hb
  generalize rn (-a) b = q at *
  generalize rn a b = r at *
  have hn2 : a < 0 := by omega
  go_enter Tryd.func52, Tryd.ntmps52
  go_wp2_with (go_at_call 52; (with_reducible refine Calls.mono (HC.out _) ?_); rintro e1 w1 ⟨rfl, hb1⟩)
  go_ret
  exact ⟨ret_int (by rw [HR.out]), hb1⟩
theorem abs28_any (a : Int) (ha : -1000000000000 ≤ a ∧ a ≤ 1000000000000) (w : World) : Calls Tryd.prog 31 #[.int .i64 a] w fun e w' => e = .returned (.int .i64 (a.natAbs : Int)) ∧ Bw w w' := by
  by_cases hn : a < 0
  · have HR := Lib.hid (show (a.natAbs : Int) = -a by omega)
    go_enter Tryd.func31, Tryd.ntmps31
    go_wp2
    go_ret
    exact ⟨ret_int (by rw [HR.out]), Bw.refl _⟩
  · have HR := Lib.hid (show (a.natAbs : Int) = a by omega)
    go_enter Tryd.func31, Tryd.ntmps31
    go_wp2
    go_ret
    exact ⟨ret_int (by rw [HR.out]), Bw.refl _⟩
end Go.Proofs.Sky
