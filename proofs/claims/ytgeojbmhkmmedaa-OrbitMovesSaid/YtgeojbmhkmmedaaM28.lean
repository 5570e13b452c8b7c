/-
  lemmas for the theorems of this claim. No conditions beyond those written in the statements.
-/
import Derived.Test.YtgeojbmhkmmedaaJ28
set_option linter.unusedVariables false
set_option linter.unusedSimpArgs false
set_option linter.unnecessarySimpa false
namespace Go.Proofs.Sky
open Go Go.RowKit Go.Shelf
set_option maxHeartbeats 2000000
set_option maxRecDepth 8000
/-! chapter 28: Position, the walk -/
def psE (X : Nat → Int) (t : Int) (j : Nat) : Int := if (atE X t).2 = 0 then posQ X (atE X t).1 j else 0
theorem Position28_any (X : Nat → Int) (t : Int) (w : World) : Calls Try.prog 7 #[.agg (eV X), .int .i64 t] w fun e w' => e = .returned (.tuple #[.agg (l3V (psE X t)), .int .i64 (atE X t).2]) ∧ Bw w w' := by
  have AT := Lib.hid (fun W => at28_any X t W)
  have KX := Lib.hid ((Blk.new w 25 (eV X)).alloc (.cells #[.int .i64 0, .int .i64 0, .int .i64 0] 27))
  have KP := Lib.hid (show Blk ((w.alloc (.cells (eV X) 25)).alloc (.cells #[.int .i64 0, .int .i64 0, .int .i64 0] 27)) (w.heap.size + 1) 27 #[.int .i64 0, .int .i64 0, .int .i64 0] from by have h9 := Blk.new (w.alloc (.cells (eV X) 25)) 27 #[.int .i64 0, .int .i64 0, .int .i64 0]; simp only [World.size_alloc] at h9; exact h9)
  have HW := Lib.hid (Bw.alloc (Bw.alloc (Bw.refl w) (.cells (eV X) 25)) (.cells #[.int .i64 0, .int .i64 0, .int .i64 0] 27))
  have HSZ : Hid ((Try.prog.info? 25).map (·.size) = some (eV X).size) := Lib.hid (by kernel_rfl)
  have HRA := Lib.hid (fun W g i hi (hB : Blk W g 25 (eV X)) => rdI_ax hB i hi)
  obtain ⟨g, hg⟩ : ∃ g, w.heap.size = g := ⟨_, rfl⟩
  rw [hg] at KX KP
  have HG := Lib.hid hg
  have HOK := Lib.hid (fun h => atE_ok (X := X) (t := t) h)
  have HBD := Lib.hid (fun (h : errE X = 0) j hj => ax_bd h j hj)
  have HPS := Lib.hid (show ∀ j, psE X t j = if (atE X t).2 = 0 then posQ X (atE X t).1 j else 0 from fun j => rfl)
  generalize psE X t = PSF at *
  generalize atE X t = R at *
  obtain ⟨d, er⟩ := R
  dsimp only at AT HOK HPS
  obtain ⟨A, hA⟩ : ∃ A, A = eV X := ⟨_, rfl⟩
  rw [← hA] at AT KX KP HW HSZ HRA ⊢
  clear hA
  go_enter Try.func7, Try.ntmps7
  go_upto_region 1 with fail
  obtain ⟨W0, hW0⟩ : ∃ W0, (w.alloc (.cells A 25)).alloc (.cells #[.int .i64 0, .int .i64 0, .int .i64 0] 27) = W0 := ⟨_, rfl⟩
  rw [hW0] at KX KP HW ⊢
  clear hW0 hg
  go_upto_region 2 with (first | ((with_reducible refine at_load 25 (.tmp 2) ?_); refine wpList_load_row rfl 25 _ rfl g rfl 25 A (0, 0) _ KX.out Try.underlying25 rfl HSZ.out ?_) | (go_at_call 20; (with_reducible refine Calls.mono (AT.out _) ?_); rintro e1 w1 ⟨rfl, hb1⟩; replace KX := Lib.hid (KX.out.bw hb1); replace KP := Lib.hid (KP.out.bw hb1); replace HW := Lib.hid (HW.out.trans hb1); clear hb1))
  by_cases c1 : er = 0
  case neg =>
    have c1z : (er != 0) = true := by simpa using c1
    have HR := Lib.hid (show l3V PSF = #[.int .i64 0, .int .i64 0, .int .i64 0] from l3V_congr (y := fun _ => 0) (fun j hj => by rw [HPS.out j, if_neg c1]))
    clear c1
    go_wp2_with ((with_reducible refine at_store 27 (.tmp 4) (.tmp 19) ?_); refine wpList_store_row rfl 27 (.tmp 4) (.tmp 19) rfl (g + 1) #[.int .i64 0, .int .i64 0, .int .i64 0] rfl rfl 27 _ KP.out (by kernel_rfl) rfl (by simp [Value.oneCell', l3V]) ?_)
    have F9 := KP.out.row #[.int .i64 0, .int .i64 0, .int .i64 0]
    have B9 := Bw.setRow HW.out (show w.heap.size ≤ g + 1 by have := HG.out; omega) #[.int .i64 0, .int .i64 0, .int .i64 0]
    refine bodyPost_ret (v := .tuple #[.agg #[.int .i64 0, .int .i64 0, .int .i64 0], .int .i64 er]) ?_ rfl ⟨by rw [HR.out], B9⟩
    exact results_two_row (p := 4) (u := 5) rfl _ _ (g + 1) _ rfl (run_loadVar_row _ (g + 1) 27 27 #[.int .i64 0, .int .i64 0, .int .i64 0] (0, 0) _ F9 Try.underlying27 rfl (by kernel_rfl))
  obtain ⟨hx, hd⟩ := HOK.out c1
  subst c1
  have HBX := Lib.hid (HBD.out hx)
  have HDD := Lib.hid hd
  have HPJ := Lib.hid (show ∀ j, PSF j = posQ X d j from fun j => by rw [HPS.out j, if_pos rfl])
  clear hx hd HBD HOK HPS AT
  have AX := Lib.hid (fun W => axes28_any g W)
  have HG8 := Lib.hid (show g + 1 < w1.heap.size from KP.out.lt)
  have KL := Lib.hid (show Blk (w1.alloc (.cells #[.int .i64 0, .int .i64 0, .int .i64 0] 22)) w1.heap.size 22 (l3V (fun _ => 0)) from Blk.new w1 22 #[.int .i64 0, .int .i64 0, .int .i64 0])
  have hb8 := Bw.alloc (Bw.refl w1) (.cells #[.int .i64 0, .int .i64 0, .int .i64 0] 22)
  replace KX := Lib.hid (KX.out.bw hb8); replace KP := Lib.hid (KP.out.bw hb8); replace HW := Lib.hid (HW.out.trans hb8)
  obtain ⟨g8, hg8⟩ : ∃ g8, w1.heap.size = g8 := ⟨_, rfl⟩
  rw [hg8] at KL HG8
  clear hb8
  go_upto_region 5 with fail
  obtain ⟨W2, hW2⟩ : ∃ W2, w1.alloc (.cells #[.int .i64 0, .int .i64 0, .int .i64 0] 22) = W2 := ⟨_, rfl⟩
  rw [hW2] at KX KP HW KL ⊢
  clear hW2 hg8
  go_wp2_with (go_at_call 21; (with_reducible refine Calls.mono (AX.out _) ?_); rintro e1 w3 ⟨⟨ga, rfl, hga, hpg⟩, hb1⟩; have KA := Lib.hid hpg; have HGA := Lib.hid (show g8 < ga by have := KL.out.lt; omega); replace KX := Lib.hid (KX.out.bw hb1); replace KP := Lib.hid (KP.out.bw hb1); replace KL := Lib.hid (KL.out.bw hb1); replace HW := Lib.hid (HW.out.trans hb1); clear hb1 hpg hga)
  go_loopg [23] 3 (fun gg s23 wr => ∃ i : Nat, i ≤ 3 ∧ 3 - i ≤ gg ∧ s23 = .int .i64 i ∧ Hid (Bw w wr) ∧ Hid (Blk wr g 25 A) ∧ Hid (Blk wr (g + 1) 27 #[.int .i64 0, .int .i64 0, .int .i64 0]) ∧ Hid (Blk wr ga 47 #[.pointer (some ⟨g, 7, none⟩), .pointer (some ⟨g, 11, none⟩), .pointer (some ⟨g, 15, none⟩)]) ∧ ∃ L, Hid (Blk wr g8 22 (l3V L)) ∧ Hid (∀ j, j < i → L j = PSF j))
  case atStart => exact ⟨0, by omega, by omega, rfl, HW, KX, KP, KA, fun _ => 0, KL, Lib.hid (fun j hj => absurd hj (by omega))⟩
  case round =>
    clear KX KP KA KL HW
    obtain ⟨i, hi, hgg, rfl, HW, KX, KP, KA, L, KL, HL⟩ := hrel
    obtain ⟨wb, rfl⟩ : ∃ wb, wb = wr := ⟨_, rfl⟩
    by_cases c3 : i < 3
    case neg =>
      have c3z : ¬ (i : Int) < 3 := by omega
      obtain rfl : i = 3 := by omega
      have PTC : Hid (∀ W, Calls Try.prog 25 #[.agg (l3V PSF)] W fun e w' => e = .returned (.agg (l3V PSF)) ∧ Bw W w') := Lib.hid (fun W => point28_any (PSF 0) (PSF 1) (PSF 2) W)
      rw [l3V_congr (fun j hj => HL.out j hj)] at KL
      go_wp2_with (first | ((with_reducible refine at_load 22 (.tmp 8) ?_); refine wpList_load_row rfl 22 _ rfl g8 rfl 22 (l3V PSF) (0, 0) _ KL.out Try.underlying22 rfl (by kernel_rfl) ?_) | (go_at_call 25; (with_reducible refine Calls.mono (PTC.out _) ?_); rintro e1 w7 ⟨rfl, hb1⟩; replace KP := Lib.hid (KP.out.bw hb1); replace HW := Lib.hid (HW.out.trans hb1); clear hb1) | ((with_reducible refine at_store 27 (.tmp 4) (.tmp 40) ?_); refine wpList_store_row rfl 27 (.tmp 4) (.tmp 40) rfl (g + 1) (l3V PSF) rfl rfl 27 _ KP.out (by kernel_rfl) rfl (by simp [Value.oneCell', l3V]) ?_))
      have F9 := KP.out.row (l3V PSF)
      have B9 := Bw.setRow HW.out (show w.heap.size ≤ g + 1 by have := HG.out; omega) (l3V PSF)
      refine bodyPost_ret (v := .tuple #[.agg (l3V PSF), .int .i64 0]) ?_ rfl ⟨rfl, B9⟩
      exact results_two_row (p := 4) (u := 5) rfl _ _ (g + 1) _ rfl (run_loadVar_row _ (g + 1) 27 27 (l3V PSF) (0, 0) _ F9 Try.underlying27 rfl (by kernel_rfl))
    case pos =>
      have c3z : (i : Int) < 3 := by omega
      have hi0 : (0 : Int) ≤ i := by omega
      obtain ⟨b0, b1, b2, b3⟩ := HBX.out i c3
      have hp4 := (place4 b0 b1 b2 b3 HDD.out).1
      have OV := Lib.hid (fun W => over_pos b0 b1 b2 b3 HDD.out W)
      have HPI := Lib.hid (show PSF i = coordQ (X (7 + 4 * i)) (X (7 + 4 * i + 1)) (X (7 + 4 * i + 2)) (X (7 + 4 * i + 3)) d from HPJ.out i)
      have HRI := Lib.hid (fun W (hB : Blk W g 25 A) => HRA.out W g i c3 hB)
      have VA : Hid (∀ W vs, RdI W (.slice (some ⟨g, 7 + 4 * i, none⟩) 4 4) [X (7 + 4 * i), X (7 + 4 * i + 1), X (7 + 4 * i + 2), X (7 + 4 * i + 3)] → RdI W vs [30, 26, 16, 0] → Calls Try.prog 22 #[.slice (some ⟨g, 7 + 4 * i, none⟩) 4 4, vs, .int .i64 d] W fun e w' => e = .returned (.agg (nV (hW d (xsW [X (7 + 4 * i), X (7 + 4 * i + 1), X (7 + 4 * i + 2), X (7 + 4 * i + 3)] [30, 26, 16, 0] 4)).1 (hW d (xsW [X (7 + 4 * i), X (7 + 4 * i + 1), X (7 + 4 * i + 2), X (7 + 4 * i + 3)] [30, 26, 16, 0] 4)).2)) ∧ Bw W w') := Lib.hid (fun W vs h1 h2 => valued_any [X (7 + 4 * i), X (7 + 4 * i + 1), X (7 + 4 * i + 2), X (7 + 4 * i + 3)] [30, 26, 16, 0] d _ vs W h1 h2 (by simp) (by simp) rfl (fun j hj => by
        have hj4 : j < 4 := hj
        rcases (by omega : j = 0 ∨ j = 1 ∨ j = 2 ∨ j = 3) with rfl | rfl | rfl | rfl
        · show -9000000000000000000 ≤ X (7 + 4 * i) ∧ X (7 + 4 * i) ≤ 9000000000000000000; omega
        · show -9000000000000000000 ≤ X (7 + 4 * i + 1) ∧ X (7 + 4 * i + 1) ≤ 9000000000000000000; omega
        · show -9000000000000000000 ≤ X (7 + 4 * i + 2) ∧ X (7 + 4 * i + 2) ≤ 9000000000000000000; omega
        · show -9000000000000000000 ≤ X (7 + 4 * i + 3) ∧ X (7 + 4 * i + 3) ≤ 9000000000000000000; omega) (fun j hj => by
        have hj4 : j < 4 := hj
        rcases (by omega : j = 0 ∨ j = 1 ∨ j = 2 ∨ j = 3) with rfl | rfl | rfl | rfl <;> decide) (by have := HDD.out; omega) hp4)
      clear hp4 b0 b1 b2 b3
      generalize X (7 + 4 * i) = x0 at *
      generalize X (7 + 4 * i + 1) = x1 at *
      generalize X (7 + 4 * i + 2) = x2 at *
      generalize X (7 + 4 * i + 3) = x3 at *
      generalize hW d (xsW [x0, x1, x2, x3] [30, 26, 16, 0] 4) = RES at *
      generalize coordQ x0 x1 x2 x3 d = CQ at *
      have UN : Hid (∀ W, Calls Try.prog 24 #[.int .i64 3, .int .i64 26] W fun e w' => e = .returned (.agg (nV (unitW 3 26).1 (unitW 3 26).2)) ∧ Bw W w') := Lib.hid (fun W => unit28_any 3 26 (by decide) (by decide) W)
      generalize unitW 3 26 = UV at *
      have pc := KA.out.cell (ps_at g i c3)
      go_upto_region 8 with fail
      clear pc
      have RS := Lib.hid (show RdI (wb.alloc (.cells #[.int .i64 30, .int .i64 26, .int .i64 16, .int .i64 0] 3)) (.slice (some ⟨wb.heap.size, 0, none⟩) 4 4) [30, 26, 16, 0] from RdI.litN wb #[.int .i64 30, .int .i64 26, .int .i64 16, .int .i64 0] 3 [30, 26, 16, 0] wb.heap.size rfl (by rfl) (by simp))
      have lc := KL.out.cell (l3V_at L i c3)
      have lf := KL.out.frozen i
      go_wp2_with (first | (go_at_call 22; (with_reducible refine Calls.mono (VA.out _ _ (HRI.out _ (KX.out.bw (Bw.alloc (Bw.refl wb) (.cells #[.int .i64 30, .int .i64 26, .int .i64 16, .int .i64 0] 3)))) RS.out) ?_); rintro e1 w4 ⟨rfl, hb1⟩; replace hb1 := (Bw.alloc (Bw.refl wb) (.cells #[.int .i64 30, .int .i64 26, .int .i64 16, .int .i64 0] 3)).trans hb1; replace KX := Lib.hid (KX.out.bw hb1); replace KP := Lib.hid (KP.out.bw hb1); replace KL := Lib.hid (KL.out.bw hb1); replace KA := Lib.hid (KA.out.bw hb1); replace HW := Lib.hid (HW.out.trans hb1); clear hb1 lc lf; have lc := KL.out.cell (l3V_at L i c3); have lf := KL.out.frozen i) | (go_at_call 24; (with_reducible refine Calls.mono (UN.out _) ?_); rintro e1 w5 ⟨rfl, hb1⟩; replace KX := Lib.hid (KX.out.bw hb1); replace KP := Lib.hid (KP.out.bw hb1); replace KL := Lib.hid (KL.out.bw hb1); replace KA := Lib.hid (KA.out.bw hb1); replace HW := Lib.hid (HW.out.trans hb1); clear hb1 lc lf; have lc := KL.out.cell (l3V_at L i c3); have lf := KL.out.frozen i) | (go_at_call 23; (with_reducible refine Calls.mono (OV.out _) ?_); rintro e1 w6 ⟨rfl, hb1⟩; replace KX := Lib.hid (KX.out.bw hb1); replace KP := Lib.hid (KP.out.bw hb1); replace KL := Lib.hid (KL.out.bw hb1); replace KA := Lib.hid (KA.out.bw hb1); replace HW := Lib.hid (HW.out.trans hb1); clear hb1 lc lf; have lc := KL.out.cell (l3V_at L i c3); have lf := KL.out.frozen i))
      have hkx := Kx.set (j := i) KL.out.lt (.int .i64 CQ)
      replace KL := Lib.hid (KL.out.set i (.int .i64 CQ))
      rw [l3V_set L i c3] at KL
      replace HW := Lib.hid (hkx.bw HW.out (by have := HG.out; have := HG8.out; omega))
      replace KX := Lib.hid (hkx.blk KX.out (by have := HG8.out; omega))
      replace KP := Lib.hid (hkx.blk KP.out (by have := HG8.out; omega))
      replace KA := Lib.hid (hkx.blk KA.out (by have := HGA.out; omega))
      go_roundg (3 - (i + 1))
      case measure => omega
      case rel => exact ⟨i + 1, by omega, by omega, by go_num, HW, KX, KP, KA, _, KL, Lib.hid (fun j hj => by (try dsimp only); by_cases e : j = i; (rw [if_pos e, e, HPI.out]); (rw [if_neg e]; exact HL.out j (by omega)))⟩
end Go.Proofs.Sky

namespace Go.Proofs.Sky
open Go Go.RowKit Go.Shelf
set_option maxHeartbeats 2000000
set_option maxRecDepth 8000
/-! chapter 28, plain: velocities, clocks -/
theorem vel3 {c1 c2 c3 d : Int} (h1 : c1.natAbs ≤ 8388608) (h2 : c2.natAbs ≤ 4194304) (h3 : c3.natAbs ≤ 25165824) (hd : d.natAbs ≤ 7200000000000) :
    (∀ i, i + 1 < 3 → (timesW (hW d ((xsW [c1, c2, c3] [26, 16, 0] 3).drop (i + 1))) d).2 < M256 ∧ ((xsW [c1, c2, c3] [26, 16, 0] 3).getD i (false, 0)).2 < M256) ∧ (hW d (xsW [c1, c2, c3] [26, 16, 0] 3)).2 ≤ 3846667199578112000000000000000000 := by
  have a0 := lW_mag (cs := [c1, c2, c3]) (shs := [26, 16, 0]) (n := 3) (i := 0) (sh := 26) h1 rfl
  have a1 := lW_mag (cs := [c1, c2, c3]) (shs := [26, 16, 0]) (n := 3) (i := 1) (sh := 16) h2 rfl
  have a2 := lW_mag (cs := [c1, c2, c3]) (shs := [26, 16, 0]) (n := 3) (i := 2) (sh := 0) h3 rfl
  have e : xsW [c1, c2, c3] [26, 16, 0] 3 = [lW [c1, c2, c3] [26, 16, 0] 3 0, lW [c1, c2, c3] [26, 16, 0] 3 1, lW [c1, c2, c3] [26, 16, 0] 3 2] := rfl
  rw [e]
  generalize lW [c1, c2, c3] [26, 16, 0] 3 0 = x0 at *
  generalize lW [c1, c2, c3] [26, 16, 0] 3 1 = x1 at *
  generalize lW [c1, c2, c3] [26, 16, 0] 3 2 = x2 at *
  obtain ⟨m2, s2⟩ := mag_step a2 a1 hd
  obtain ⟨m1, s1⟩ := mag_step s2 a0 hd
  refine ⟨fun i hi => ?_, Nat.le_trans (show (hW d [x0, x1, x2]).2 ≤ _ from s1) (by decide)⟩
  rcases (by omega : i = 0 ∨ i = 1) with rfl | rfl
  · exact ⟨Nat.lt_of_le_of_lt (show (timesW (hW d [x1, x2]) d).2 ≤ _ from m1) (by decide), Nat.lt_of_le_of_lt a0 (by decide)⟩
  · exact ⟨Nat.lt_of_le_of_lt (show (timesW (hW d [x2]) d).2 ≤ _ from m2) (by decide), Nat.lt_of_le_of_lt a1 (by decide)⟩
theorem vel3_z (c1 c2 c3 d : Int) : zW (hW d (xsW [c1, c2, c3] [26, 16, 0] 3)) = c1 * 67108864000000000000000000 + c2 * d * 65536000000000 + c3 * d * d := by
  have e : xsW [c1, c2, c3] [26, 16, 0] 3 = [lW [c1, c2, c3] [26, 16, 0] 3 0, lW [c1, c2, c3] [26, 16, 0] 3 1, lW [c1, c2, c3] [26, 16, 0] 3 2] := rfl
  rw [e]
  show zW (plusW (timesW (plusW (timesW (lW [c1, c2, c3] [26, 16, 0] 3 2) d) (lW [c1, c2, c3] [26, 16, 0] 3 1)) d) (lW [c1, c2, c3] [26, 16, 0] 3 0)) = _
  simp only [zW_plus, zW_times, lW_z]
  show (c3 * 2 ^ 0 * 1000000000 ^ 0 * d + c2 * 2 ^ 16 * 1000000000 ^ 1) * d + c1 * 2 ^ 26 * 1000000000 ^ 2 = _
  simp only [Int.add_mul]
  have f3 : c3 * 2 ^ 0 * 1000000000 ^ 0 * d * d = c3 * d * d := by simp
  have f2 : c2 * 2 ^ 16 * 1000000000 ^ 1 * d = c2 * d * 65536000000000 := by
    rw [show c2 * 2 ^ 16 * 1000000000 ^ 1 = c2 * 65536000000000 by rw [Int.mul_assoc]; rfl, Int.mul_right_comm c2]
  have f1 : c1 * 2 ^ 26 * 1000000000 ^ 2 = c1 * 67108864000000000000000000 := by rw [Int.mul_assoc]; rfl
  rw [f3, f2, f1]
  omega
theorem clk3 {c1 c2 c3 d : Int} (h1 : c1.natAbs ≤ 2147483648) (h2 : c2.natAbs ≤ 8388608) (h3 : c3.natAbs ≤ 32768) (hd : d.natAbs ≤ 7200000000000) :
    (∀ i, i + 1 < 3 → (timesW (hW d ((xsW [c1, c2, c3] [40, 24, 0] 3).drop (i + 1))) d).2 < M256 ∧ ((xsW [c1, c2, c3] [40, 24, 0] 3).getD i (false, 0)).2 < M256) ∧ (hW d (xsW [c1, c2, c3] [40, 24, 0] 3)).2 ≤ 2362196553049674088448000000000000000000 := by
  have a0 := lW_mag (cs := [c1, c2, c3]) (shs := [40, 24, 0]) (n := 3) (i := 0) (sh := 40) h1 rfl
  have a1 := lW_mag (cs := [c1, c2, c3]) (shs := [40, 24, 0]) (n := 3) (i := 1) (sh := 24) h2 rfl
  have a2 := lW_mag (cs := [c1, c2, c3]) (shs := [40, 24, 0]) (n := 3) (i := 2) (sh := 0) h3 rfl
  have e : xsW [c1, c2, c3] [40, 24, 0] 3 = [lW [c1, c2, c3] [40, 24, 0] 3 0, lW [c1, c2, c3] [40, 24, 0] 3 1, lW [c1, c2, c3] [40, 24, 0] 3 2] := rfl
  rw [e]
  generalize lW [c1, c2, c3] [40, 24, 0] 3 0 = x0 at *
  generalize lW [c1, c2, c3] [40, 24, 0] 3 1 = x1 at *
  generalize lW [c1, c2, c3] [40, 24, 0] 3 2 = x2 at *
  obtain ⟨m2, s2⟩ := mag_step a2 a1 hd
  obtain ⟨m1, s1⟩ := mag_step s2 a0 hd
  refine ⟨fun i hi => ?_, Nat.le_trans (show (hW d [x0, x1, x2]).2 ≤ _ from s1) (by decide)⟩
  rcases (by omega : i = 0 ∨ i = 1) with rfl | rfl
  · exact ⟨Nat.lt_of_le_of_lt (show (timesW (hW d [x1, x2]) d).2 ≤ _ from m1) (by decide), Nat.lt_of_le_of_lt a0 (by decide)⟩
  · exact ⟨Nat.lt_of_le_of_lt (show (timesW (hW d [x2]) d).2 ≤ _ from m2) (by decide), Nat.lt_of_le_of_lt a1 (by decide)⟩
theorem clk3_z (c1 c2 c3 d : Int) : zW (hW d (xsW [c1, c2, c3] [40, 24, 0] 3)) = c1 * 1099511627776000000000000000000 + c2 * d * 16777216000000000 + c3 * d * d := by
  have e : xsW [c1, c2, c3] [40, 24, 0] 3 = [lW [c1, c2, c3] [40, 24, 0] 3 0, lW [c1, c2, c3] [40, 24, 0] 3 1, lW [c1, c2, c3] [40, 24, 0] 3 2] := rfl
  rw [e]
  show zW (plusW (timesW (plusW (timesW (lW [c1, c2, c3] [40, 24, 0] 3 2) d) (lW [c1, c2, c3] [40, 24, 0] 3 1)) d) (lW [c1, c2, c3] [40, 24, 0] 3 0)) = _
  simp only [zW_plus, zW_times, lW_z]
  show (c3 * 2 ^ 0 * 1000000000 ^ 0 * d + c2 * 2 ^ 24 * 1000000000 ^ 1) * d + c1 * 2 ^ 40 * 1000000000 ^ 2 = _
  simp only [Int.add_mul]
  have f3 : c3 * 2 ^ 0 * 1000000000 ^ 0 * d * d = c3 * d * d := by simp
  have f2 : c2 * 2 ^ 24 * 1000000000 ^ 1 * d = c2 * d * 16777216000000000 := by
    rw [show c2 * 2 ^ 24 * 1000000000 ^ 1 = c2 * 16777216000000000 by rw [Int.mul_assoc]; rfl, Int.mul_right_comm c2]
  have f1 : c1 * 2 ^ 40 * 1000000000 ^ 2 = c1 * 1099511627776000000000000000000 := by rw [Int.mul_assoc]; rfl
  rw [f3, f2, f1]
  omega
def velQ (c1 c2 c3 d : Int) : Int := rndQ (c1 * 1000000000 * 1000000000 * 67108864 + 2 * c2 * d * 1000000000 * 65536 + 3 * c3 * d * d) 67108864000000000000000000
theorem vel_sum (c1 c2 c3 d : Int) : c1 * 67108864000000000000000000 + 2 * c2 * d * 65536000000000 + 3 * c3 * d * d = c1 * 1000000000 * 1000000000 * 67108864 + 2 * c2 * d * 1000000000 * 65536 + 3 * c3 * d * d := by omega
theorem over_vel {c1 c2 c3 d : Int} (h1 : c1.natAbs ≤ 8388608) (h2 : c2.natAbs ≤ 2097152) (h3 : c3.natAbs ≤ 8388608) (hd : d.natAbs ≤ 7200000000000) (W : World) :
    Calls Try.prog 23 #[.agg (nV (hW d (xsW [c1, 2 * c2, 3 * c3] [26, 16, 0] 3)).1 (hW d (xsW [c1, 2 * c2, 3 * c3] [26, 16, 0] 3)).2), .agg (nV (unitW 2 26).1 (unitW 2 26).2)] W fun e w' => e = .returned (.int .i64 (velQ c1 c2 c3 d)) ∧ Bw W w' := by
  have hp := (vel3 (c1 := c1) (c2 := 2 * c2) (c3 := 3 * c3) h1 (by omega) (by omega) hd).2
  have hz := (vel3_z c1 (2 * c2) (3 * c3) d).trans (vel_sum c1 c2 c3 d)
  have hu : (unitW 2 26).2 = 67108864000000000000000000 := (unitW_2 2 26).trans (by decide)
  generalize hW d (xsW [c1, 2 * c2, 3 * c3] [26, 16, 0] 3) = x at *
  have h9 := over28_any x.1 (unitW 2 26).1 x.2 (unitW 2 26).2 W (by rw [hu]; decide) (by rw [hu]; decide) (by rw [hu]; unfold M256; omega) (by
    rw [hu]
    refine Nat.lt_of_le_of_lt (Nat.div_le_div_right (c := 67108864000000000000000000 + 67108864000000000000000000) (show _ ≤ 3846667199578112000000000000000000 + 3846667199578112000000000000000000 + 67108864000000000000000000 by omega)) (by decide))
  have he : overR x.1 x.2 (unitW 2 26).2 = velQ c1 c2 c3 d := by
    rw [over_q x _ (by rw [hu]; decide), hz, hu]; rfl
  rw [he] at h9
  exact h9
def clkQ (k0 k1 k2 d : Int) : Int := rndQ (299792458 * k0 * 1000000000 * 1000000000 * 1099511627776 + 299792458 * k1 * d * 1000000000 * 16777216 + 299792458 * k2 * d * d) 1125899906842624000000000000000000000000
theorem clk_sum (k0 k1 k2 d : Int) : (k0 * 1099511627776000000000000000000 + k1 * d * 16777216000000000 + k2 * d * d) * 299792458 = 299792458 * k0 * 1000000000 * 1000000000 * 1099511627776 + 299792458 * k1 * d * 1000000000 * 16777216 + 299792458 * k2 * d * d := by
  rw [show 299792458 * k1 * d = k1 * d * 299792458 by rw [Int.mul_assoc, Int.mul_comm], show 299792458 * k2 * d * d = k2 * d * d * 299792458 by rw [Int.mul_assoc, Int.mul_assoc, Int.mul_comm, ← Int.mul_assoc]]
  generalize k2 * d * d = a
  generalize k1 * d = b
  omega
theorem over_clk {k0 k1 k2 d : Int} (h1 : k0.natAbs ≤ 2147483648) (h2 : k1.natAbs ≤ 8388608) (h3 : k2.natAbs ≤ 32768) (hd : d.natAbs ≤ 7200000000000) (W : World) :
    Calls Try.prog 23 #[.agg (nV (timesW (hW d (xsW [k0, k1, k2] [40, 24, 0] 3)) 299792458).1 (timesW (hW d (xsW [k0, k1, k2] [40, 24, 0] 3)) 299792458).2), .agg (nV (timesW (unitW 2 50) 1000000).1 (timesW (unitW 2 50) 1000000).2)] W fun e w' => e = .returned (.int .i64 (clkQ k0 k1 k2 d)) ∧ Bw W w' := by
  have hp := (clk3 h1 h2 h3 hd).2
  have hz := clk3_z k0 k1 k2 d
  have hu : (timesW (unitW 2 50) 1000000).2 = 1125899906842624000000000000000000000000 := by
    show (unitW 2 50).2 * 1000000 = _
    rw [unitW_2]
  generalize hW d (xsW [k0, k1, k2] [40, 24, 0] 3) = y at *
  have hz2 : zW (timesW y 299792458) = 299792458 * k0 * 1000000000 * 1000000000 * 1099511627776 + 299792458 * k1 * d * 1000000000 * 16777216 + 299792458 * k2 * d * d := by rw [zW_times, hz, clk_sum]
  have hp2 : (timesW y 299792458).2 ≤ 708168710917889191074735325184000000000000000000 := by
    show y.2 * 299792458 ≤ _
    omega
  generalize timesW y 299792458 = x at *
  have h9 := over28_any x.1 (timesW (unitW 2 50) 1000000).1 x.2 (timesW (unitW 2 50) 1000000).2 W (by rw [hu]; decide) (by rw [hu]; decide) (by rw [hu]; unfold M256; omega) (by
    rw [hu]
    refine Nat.lt_of_le_of_lt (Nat.div_le_div_right (c := 1125899906842624000000000000000000000000 + 1125899906842624000000000000000000000000) (show _ ≤ 708168710917889191074735325184000000000000000000 + 708168710917889191074735325184000000000000000000 + 1125899906842624000000000000000000000000 by omega)) (by decide))
  have he : overR x.1 x.2 (timesW (unitW 2 50) 1000000).2 = clkQ k0 k1 k2 d := by
    rw [over_q x _ (by rw [hu]; decide), hz2, hu]; rfl
  rw [he] at h9
  exact h9
theorem rdI_blk28 {W : World} {b : Nat} {T : TypeId} {cs : Array Value} (zs : List Int) (hB : Blk W b T cs) (h : cs.toList = zs.map (Value.int .i64)) (hl : zs.length ≤ 1000) : RdI W (.slice (some ⟨b, 0, none⟩) zs.length zs.length) zs := by
  refine ⟨by omega, _, _, rfl, .inr ⟨b, 0, rfl, hB.lt, fun i hi => ?_⟩⟩
  rw [Nat.zero_add]
  refine hB.cell ?_
  rw [← Array.getElem?_toList, h, List.getElem?_map, List.getElem?_eq_getElem hi]
  simp [List.getD_eq_getElem?_getD, hi]
end Go.Proofs.Sky

namespace Go.Proofs.Sky
open Go Go.RowKit Go.Shelf
set_option maxHeartbeats 4000000
set_option maxRecDepth 8000
/-! chapter 28: Velocity, the walk -/
theorem rdI_blkn {W : World} {b : Nat} {T : TypeId} {cs : Array Value} (zs : List Int) (n : Nat) (hn : zs.length = n) (hB : Blk W b T cs) (h : cs.toList = zs.map (Value.int .i64)) (hl : zs.length ≤ 1000) : RdI W (.slice (some ⟨b, 0, none⟩) n n) zs := by
  subst hn; exact rdI_blk28 zs hB h hl
def vlQ (X : Nat → Int) (d : Int) (j : Nat) : Int := velQ (X (7 + 4 * j + 1)) (X (7 + 4 * j + 2)) (X (7 + 4 * j + 3)) d
def vsE (X : Nat → Int) (t : Int) (j : Nat) : Int := if (atE X t).2 = 0 then vlQ X (atE X t).1 j else 0
theorem Velocity28_any (X : Nat → Int) (t : Int) (w : World) : Calls Try.prog 9 #[.agg (eV X), .int .i64 t] w fun e w' => e = .returned (.tuple #[.agg (l3V (vsE X t)), .int .i64 (atE X t).2]) ∧ Bw w w' := by
  have AT := Lib.hid (fun W => at28_any X t W)
  have KX := Lib.hid ((Blk.new w 25 (eV X)).alloc (.cells #[.int .i64 0, .int .i64 0, .int .i64 0] 27))
  have KP := Lib.hid (show Blk ((w.alloc (.cells (eV X) 25)).alloc (.cells #[.int .i64 0, .int .i64 0, .int .i64 0] 27)) (w.heap.size + 1) 27 #[.int .i64 0, .int .i64 0, .int .i64 0] from by have h9 := Blk.new (w.alloc (.cells (eV X) 25)) 27 #[.int .i64 0, .int .i64 0, .int .i64 0]; simp only [World.size_alloc] at h9; exact h9)
  have HW := Lib.hid (Bw.alloc (Bw.alloc (Bw.refl w) (.cells (eV X) 25)) (.cells #[.int .i64 0, .int .i64 0, .int .i64 0] 27))
  have HSZ : Hid ((Try.prog.info? 25).map (·.size) = some (eV X).size) := Lib.hid (by kernel_rfl)
  have HRA := Lib.hid (fun W g i hi (hB : Blk W g 25 (eV X)) => rdI_ax hB i hi)
  obtain ⟨g, hg⟩ : ∃ g, w.heap.size = g := ⟨_, rfl⟩
  rw [hg] at KX KP
  have HG := Lib.hid hg
  have HOK := Lib.hid (fun h => atE_ok (X := X) (t := t) h)
  have HBD := Lib.hid (fun (h : errE X = 0) j hj => ax_bd h j hj)
  have HPS := Lib.hid (show ∀ j, vsE X t j = if (atE X t).2 = 0 then vlQ X (atE X t).1 j else 0 from fun j => rfl)
  generalize vsE X t = PSF at *
  generalize atE X t = R at *
  obtain ⟨d, er⟩ := R
  dsimp only at AT HOK HPS
  have HCX := Lib.hid (fun i (hi : i < 19) => eV_at X i hi)
  obtain ⟨A, hA⟩ : ∃ A, A = eV X := ⟨_, rfl⟩
  rw [← hA] at AT KX KP HW HSZ HRA HCX ⊢
  clear hA
  go_enter Try.func9, Try.ntmps9
  go_upto_region 1 with fail
  obtain ⟨W0, hW0⟩ : ∃ W0, (w.alloc (.cells A 25)).alloc (.cells #[.int .i64 0, .int .i64 0, .int .i64 0] 27) = W0 := ⟨_, rfl⟩
  rw [hW0] at KX KP HW ⊢
  clear hW0 hg
  go_upto_region 2 with (first | ((with_reducible refine at_load 25 (.tmp 2) ?_); refine wpList_load_row rfl 25 _ rfl g rfl 25 A (0, 0) _ KX.out Try.underlying25 rfl HSZ.out ?_) | (go_at_call 20; (with_reducible refine Calls.mono (AT.out _) ?_); rintro e1 w1 ⟨rfl, hb1⟩; replace KX := Lib.hid (KX.out.bw hb1); replace KP := Lib.hid (KP.out.bw hb1); replace HW := Lib.hid (HW.out.trans hb1); clear hb1))
  by_cases c1 : er = 0
  case neg =>
    have c1z : (er != 0) = true := by simpa using c1
    have HR := Lib.hid (show l3V PSF = #[.int .i64 0, .int .i64 0, .int .i64 0] from l3V_congr (y := fun _ => 0) (fun j hj => by rw [HPS.out j, if_neg c1]))
    clear c1
    go_wp2_with ((with_reducible refine at_store 27 (.tmp 4) (.tmp 19) ?_); refine wpList_store_row rfl 27 (.tmp 4) (.tmp 19) rfl (g + 1) #[.int .i64 0, .int .i64 0, .int .i64 0] rfl rfl 27 _ KP.out (by kernel_rfl) rfl (by simp [Value.oneCell', l3V]) ?_)
    have F9 := KP.out.row #[.int .i64 0, .int .i64 0, .int .i64 0]
    have B9 := Bw.setRow HW.out (show w.heap.size ≤ g + 1 by have := HG.out; omega) #[.int .i64 0, .int .i64 0, .int .i64 0]
    refine bodyPost_ret (v := .tuple #[.agg #[.int .i64 0, .int .i64 0, .int .i64 0], .int .i64 er]) ?_ rfl ⟨by rw [HR.out], B9⟩
    exact results_two_row (p := 4) (u := 5) rfl _ _ (g + 1) _ rfl (run_loadVar_row _ (g + 1) 27 27 #[.int .i64 0, .int .i64 0, .int .i64 0] (0, 0) _ F9 Try.underlying27 rfl (by kernel_rfl))
  obtain ⟨hx, hd⟩ := HOK.out c1
  subst c1
  have HBX := Lib.hid (HBD.out hx)
  have HDD := Lib.hid hd
  have HPJ := Lib.hid (show ∀ j, PSF j = vlQ X d j from fun j => by rw [HPS.out j, if_pos rfl])
  clear hx hd HBD HOK HPS AT
  have AX := Lib.hid (fun W => axes28_any g W)
  have HG8 := Lib.hid (show g + 1 < w1.heap.size from KP.out.lt)
  have KL := Lib.hid (show Blk (w1.alloc (.cells #[.int .i64 0, .int .i64 0, .int .i64 0] 22)) w1.heap.size 22 (l3V (fun _ => 0)) from Blk.new w1 22 #[.int .i64 0, .int .i64 0, .int .i64 0])
  have hb8 := Bw.alloc (Bw.refl w1) (.cells #[.int .i64 0, .int .i64 0, .int .i64 0] 22)
  replace KX := Lib.hid (KX.out.bw hb8); replace KP := Lib.hid (KP.out.bw hb8); replace HW := Lib.hid (HW.out.trans hb8)
  obtain ⟨g8, hg8⟩ : ∃ g8, w1.heap.size = g8 := ⟨_, rfl⟩
  rw [hg8] at KL HG8
  clear hb8
  go_upto_region 5 with fail
  obtain ⟨W2, hW2⟩ : ∃ W2, w1.alloc (.cells #[.int .i64 0, .int .i64 0, .int .i64 0] 22) = W2 := ⟨_, rfl⟩
  rw [hW2] at KX KP HW KL ⊢
  clear hW2 hg8
  go_wp2_with (go_at_call 21; (with_reducible refine Calls.mono (AX.out _) ?_); rintro e1 w3 ⟨⟨ga, rfl, hga, hpg⟩, hb1⟩; have KA := Lib.hid hpg; have HGA := Lib.hid (show g8 < ga by have := KL.out.lt; omega); replace KX := Lib.hid (KX.out.bw hb1); replace KP := Lib.hid (KP.out.bw hb1); replace KL := Lib.hid (KL.out.bw hb1); replace HW := Lib.hid (HW.out.trans hb1); clear hb1 hpg hga)
  go_loopg [23] 3 (fun gg s23 wr => ∃ i : Nat, i ≤ 3 ∧ 3 - i ≤ gg ∧ s23 = .int .i64 i ∧ Hid (Bw w wr) ∧ Hid (Blk wr g 25 A) ∧ Hid (Blk wr (g + 1) 27 #[.int .i64 0, .int .i64 0, .int .i64 0]) ∧ Hid (Blk wr ga 47 #[.pointer (some ⟨g, 7, none⟩), .pointer (some ⟨g, 11, none⟩), .pointer (some ⟨g, 15, none⟩)]) ∧ ∃ L, Hid (Blk wr g8 22 (l3V L)) ∧ Hid (∀ j, j < i → L j = PSF j))
  case atStart => exact ⟨0, by omega, by omega, rfl, HW, KX, KP, KA, fun _ => 0, KL, Lib.hid (fun j hj => absurd hj (by omega))⟩
  case round =>
    clear KX KP KA KL HW
    obtain ⟨i, hi, hgg, rfl, HW, KX, KP, KA, L, KL, HL⟩ := hrel
    obtain ⟨wb, rfl⟩ : ∃ wb, wb = wr := ⟨_, rfl⟩
    by_cases c3 : i < 3
    case neg =>
      have c3z : ¬ (i : Int) < 3 := by omega
      obtain rfl : i = 3 := by omega
      have PTC : Hid (∀ W, Calls Try.prog 25 #[.agg (l3V PSF)] W fun e w' => e = .returned (.agg (l3V PSF)) ∧ Bw W w') := Lib.hid (fun W => point28_any (PSF 0) (PSF 1) (PSF 2) W)
      rw [l3V_congr (fun j hj => HL.out j hj)] at KL
      go_wp2_with (first | ((with_reducible refine at_load 22 (.tmp 8) ?_); refine wpList_load_row rfl 22 _ rfl g8 rfl 22 (l3V PSF) (0, 0) _ KL.out Try.underlying22 rfl (by kernel_rfl) ?_) | (go_at_call 25; (with_reducible refine Calls.mono (PTC.out _) ?_); rintro e1 w7 ⟨rfl, hb1⟩; replace KP := Lib.hid (KP.out.bw hb1); replace HW := Lib.hid (HW.out.trans hb1); clear hb1) | ((with_reducible refine at_store 27 (.tmp 4) (.tmp 52) ?_); refine wpList_store_row rfl 27 (.tmp 4) (.tmp 52) rfl (g + 1) (l3V PSF) rfl rfl 27 _ KP.out (by kernel_rfl) rfl (by simp [Value.oneCell', l3V]) ?_))
      have F9 := KP.out.row (l3V PSF)
      have B9 := Bw.setRow HW.out (show w.heap.size ≤ g + 1 by have := HG.out; omega) (l3V PSF)
      refine bodyPost_ret (v := .tuple #[.agg (l3V PSF), .int .i64 0]) ?_ rfl ⟨rfl, B9⟩
      exact results_two_row (p := 4) (u := 5) rfl _ _ (g + 1) _ rfl (run_loadVar_row _ (g + 1) 27 27 (l3V PSF) (0, 0) _ F9 Try.underlying27 rfl (by kernel_rfl))
    case pos =>
      have c3z : (i : Int) < 3 := by omega
      have hi0 : (0 : Int) ≤ i := by omega
      obtain ⟨b0, b1, b2, b3⟩ := HBX.out i c3
      have hp4 := (vel3 (c1 := X (7 + 4 * i + 1)) (c2 := 2 * X (7 + 4 * i + 2)) (c3 := 3 * X (7 + 4 * i + 3)) b1 (by omega) (by omega) HDD.out).1
      have OV := Lib.hid (fun W => over_vel b1 b2 b3 HDD.out W)
      have HPI := Lib.hid (show PSF i = velQ (X (7 + 4 * i + 1)) (X (7 + 4 * i + 2)) (X (7 + 4 * i + 3)) d from HPJ.out i)
      have e1 := HCX.out (7 + 4 * i + 1) (by omega)
      have e2 := HCX.out (7 + 4 * i + 2) (by omega)
      have e3 := HCX.out (7 + 4 * i + 3) (by omega)
      generalize X (7 + 4 * i + 1) = x1 at *
      generalize X (7 + 4 * i + 2) = x2 at *
      generalize X (7 + 4 * i + 3) = x3 at *
      have VA : Hid (∀ W v vs, RdI W v [x1, 2 * x2, 3 * x3] → RdI W vs [26, 16, 0] → Calls Try.prog 22 #[v, vs, .int .i64 d] W fun e w' => e = .returned (.agg (nV (hW d (xsW [x1, 2 * x2, 3 * x3] [26, 16, 0] 3)).1 (hW d (xsW [x1, 2 * x2, 3 * x3] [26, 16, 0] 3)).2)) ∧ Bw W w') := Lib.hid (fun W v vs h1 h2 => valued_any [x1, 2 * x2, 3 * x3] [26, 16, 0] d v vs W h1 h2 (by simp) (by simp) rfl (fun j hj => by
        have hj4 : j < 3 := hj
        rcases (by omega : j = 0 ∨ j = 1 ∨ j = 2) with rfl | rfl | rfl
        · show -9000000000000000000 ≤ x1 ∧ x1 ≤ 9000000000000000000; omega
        · show -9000000000000000000 ≤ 2 * x2 ∧ 2 * x2 ≤ 9000000000000000000; omega
        · show -9000000000000000000 ≤ 3 * x3 ∧ 3 * x3 ≤ 9000000000000000000; omega) (fun j hj => by
        have hj4 : j < 3 := hj
        rcases (by omega : j = 0 ∨ j = 1 ∨ j = 2) with rfl | rfl | rfl <;> decide) (by have := HDD.out; omega) hp4)
      have hx2 : -2097152 ≤ x2 ∧ x2 ≤ 2097152 := by omega
      have hx3 : -8388608 ≤ x3 ∧ x3 ≤ 8388608 := by omega
      clear hp4 b0 b1 b2 b3
      generalize hW d (xsW [x1, 2 * x2, 3 * x3] [26, 16, 0] 3) = RES at *
      generalize velQ x1 x2 x3 d = CQ at *
      have UN : Hid (∀ W, Calls Try.prog 24 #[.int .i64 2, .int .i64 26] W fun e w' => e = .returned (.agg (nV (unitW 2 26).1 (unitW 2 26).2)) ∧ Bw W w') := Lib.hid (fun W => unit28_any 2 26 (by decide) (by decide) W)
      generalize unitW 2 26 = UV at *
      have pc := KA.out.cell (ps_at g i c3)
      go_upto_region 8 with fail
      clear pc
      refine wp_region_held_drew (S := Kx g8 wb) (by kernel_rfl) (Kx.of_bw (Bw.drew (Bw.refl _)) (Nat.le_of_lt KL.out.lt)) (fun hS => ?_)
      replace KL := Lib.hid (KL.out.bw (Bw.drew (Bw.refl _)))
      generalize World.drew _ = wd at hS KL ⊢
      refine take1 (i := 0) (some 28) rfl rfl (by kernel_rfl) (by kernel_rfl) (by kernel_rfl) (fun _ _ _ _ h => h) rfl hS ?_
      apply Exists.intro
      apply And.intro
      · intro W9 hW9; have y1 := (hW9.blk KX.out (by have := HG8.out; omega)).cell e1; have y2 := (hW9.blk KX.out (by have := HG8.out; omega)).cell e2; have y3 := (hW9.blk KX.out (by have := HG8.out; omega)).cell e3; go_simp; try with_reducible rfl
      simp only [Act.put, List.setIfInBounds_toArray, List.set_cons_zero, List.set_cons_succ]
      refine take1 (i := 1) (some 29) rfl rfl (by kernel_rfl) (by kernel_rfl) (by kernel_rfl) (fun _ _ _ _ h => h) rfl hS ?_
      apply Exists.intro
      apply And.intro
      · intro W9 hW9; have y1 := (hW9.blk KX.out (by have := HG8.out; omega)).cell e1; have y2 := (hW9.blk KX.out (by have := HG8.out; omega)).cell e2; have y3 := (hW9.blk KX.out (by have := HG8.out; omega)).cell e3; go_simp; try with_reducible rfl
      simp only [Act.put, List.setIfInBounds_toArray, List.set_cons_zero, List.set_cons_succ]
      refine take1 (i := 2) (some 30) rfl rfl (by kernel_rfl) (by kernel_rfl) (by kernel_rfl) (fun _ _ _ _ h => h) rfl hS ?_
      apply Exists.intro
      apply And.intro
      · intro W9 hW9; have y1 := (hW9.blk KX.out (by have := HG8.out; omega)).cell e1; have y2 := (hW9.blk KX.out (by have := HG8.out; omega)).cell e2; have y3 := (hW9.blk KX.out (by have := HG8.out; omega)).cell e3; go_simp; try with_reducible rfl
      simp only [Act.put, List.setIfInBounds_toArray, List.set_cons_zero, List.set_cons_succ]
      refine take1 (i := 3) (some 31) rfl rfl (by kernel_rfl) (by kernel_rfl) (by kernel_rfl) (fun _ _ _ _ h => h) rfl hS ?_
      apply Exists.intro
      apply And.intro
      · intro W9 hW9; have y1 := (hW9.blk KX.out (by have := HG8.out; omega)).cell e1; have y2 := (hW9.blk KX.out (by have := HG8.out; omega)).cell e2; have y3 := (hW9.blk KX.out (by have := HG8.out; omega)).cell e3; go_simp; try with_reducible rfl
      simp only [Act.put, List.setIfInBounds_toArray, List.set_cons_zero, List.set_cons_succ]
      refine take1 (i := 4) (some 32) rfl rfl (by kernel_rfl) (by kernel_rfl) (by kernel_rfl) (fun _ _ _ _ h => h) rfl hS ?_
      refine Exists.intro (.int .i64 x1) ?_
      apply And.intro
      · intro W9 hW9; have y1 := (hW9.blk KX.out (by have := HG8.out; omega)).cell e1; have y2 := (hW9.blk KX.out (by have := HG8.out; omega)).cell e2; have y3 := (hW9.blk KX.out (by have := HG8.out; omega)).cell e3; go_simp; (try go_bits); (try with_reducible rfl); (try trivial)
      simp only [Act.put, List.setIfInBounds_toArray, List.set_cons_zero, List.set_cons_succ]
      refine take1 (i := 5) (some 33) rfl rfl (by kernel_rfl) (by kernel_rfl) (by kernel_rfl) (fun _ _ _ _ h => h) rfl hS ?_
      apply Exists.intro
      apply And.intro
      · intro W9 hW9; have y1 := (hW9.blk KX.out (by have := HG8.out; omega)).cell e1; have y2 := (hW9.blk KX.out (by have := HG8.out; omega)).cell e2; have y3 := (hW9.blk KX.out (by have := HG8.out; omega)).cell e3; go_simp; try with_reducible rfl
      simp only [Act.put, List.setIfInBounds_toArray, List.set_cons_zero, List.set_cons_succ]
      refine take1 (i := 6) (some 34) rfl rfl (by kernel_rfl) (by kernel_rfl) (by kernel_rfl) (fun _ _ _ _ h => h) rfl hS ?_
      apply Exists.intro
      apply And.intro
      · intro W9 hW9; have y1 := (hW9.blk KX.out (by have := HG8.out; omega)).cell e1; have y2 := (hW9.blk KX.out (by have := HG8.out; omega)).cell e2; have y3 := (hW9.blk KX.out (by have := HG8.out; omega)).cell e3; go_simp; try with_reducible rfl
      simp only [Act.put, List.setIfInBounds_toArray, List.set_cons_zero, List.set_cons_succ]
      refine take1 (i := 7) (some 35) rfl rfl (by kernel_rfl) (by kernel_rfl) (by kernel_rfl) (fun _ _ _ _ h => h) rfl hS ?_
      apply Exists.intro
      apply And.intro
      · intro W9 hW9; have y1 := (hW9.blk KX.out (by have := HG8.out; omega)).cell e1; have y2 := (hW9.blk KX.out (by have := HG8.out; omega)).cell e2; have y3 := (hW9.blk KX.out (by have := HG8.out; omega)).cell e3; go_simp; try with_reducible rfl
      simp only [Act.put, List.setIfInBounds_toArray, List.set_cons_zero, List.set_cons_succ]
      refine take1 (i := 8) (some 36) rfl rfl (by kernel_rfl) (by kernel_rfl) (by kernel_rfl) (fun _ _ _ _ h => h) rfl hS ?_
      refine Exists.intro (.int .i64 x2) ?_
      apply And.intro
      · intro W9 hW9; have y1 := (hW9.blk KX.out (by have := HG8.out; omega)).cell e1; have y2 := (hW9.blk KX.out (by have := HG8.out; omega)).cell e2; have y3 := (hW9.blk KX.out (by have := HG8.out; omega)).cell e3; go_simp; (try go_bits); (try with_reducible rfl); (try trivial)
      simp only [Act.put, List.setIfInBounds_toArray, List.set_cons_zero, List.set_cons_succ]
      refine take1 (i := 9) (some 37) rfl rfl (by kernel_rfl) (by kernel_rfl) (by kernel_rfl) (fun _ _ _ _ h => h) rfl hS ?_
      refine Exists.intro (.int .i64 (2 * x2)) ?_
      apply And.intro
      · intro W9 hW9; have y1 := (hW9.blk KX.out (by have := HG8.out; omega)).cell e1; have y2 := (hW9.blk KX.out (by have := HG8.out; omega)).cell e2; have y3 := (hW9.blk KX.out (by have := HG8.out; omega)).cell e3; go_simp; (try go_bits); (try with_reducible rfl); (try trivial)
      simp only [Act.put, List.setIfInBounds_toArray, List.set_cons_zero, List.set_cons_succ]
      refine take1 (i := 10) (some 38) rfl rfl (by kernel_rfl) (by kernel_rfl) (by kernel_rfl) (fun _ _ _ _ h => h) rfl hS ?_
      apply Exists.intro
      apply And.intro
      · intro W9 hW9; have y1 := (hW9.blk KX.out (by have := HG8.out; omega)).cell e1; have y2 := (hW9.blk KX.out (by have := HG8.out; omega)).cell e2; have y3 := (hW9.blk KX.out (by have := HG8.out; omega)).cell e3; go_simp; try with_reducible rfl
      simp only [Act.put, List.setIfInBounds_toArray, List.set_cons_zero, List.set_cons_succ]
      refine take1 (i := 11) (some 39) rfl rfl (by kernel_rfl) (by kernel_rfl) (by kernel_rfl) (fun _ _ _ _ h => h) rfl hS ?_
      apply Exists.intro
      apply And.intro
      · intro W9 hW9; have y1 := (hW9.blk KX.out (by have := HG8.out; omega)).cell e1; have y2 := (hW9.blk KX.out (by have := HG8.out; omega)).cell e2; have y3 := (hW9.blk KX.out (by have := HG8.out; omega)).cell e3; go_simp; try with_reducible rfl
      simp only [Act.put, List.setIfInBounds_toArray, List.set_cons_zero, List.set_cons_succ]
      refine take1 (i := 12) (some 40) rfl rfl (by kernel_rfl) (by kernel_rfl) (by kernel_rfl) (fun _ _ _ _ h => h) rfl hS ?_
      apply Exists.intro
      apply And.intro
      · intro W9 hW9; have y1 := (hW9.blk KX.out (by have := HG8.out; omega)).cell e1; have y2 := (hW9.blk KX.out (by have := HG8.out; omega)).cell e2; have y3 := (hW9.blk KX.out (by have := HG8.out; omega)).cell e3; go_simp; try with_reducible rfl
      simp only [Act.put, List.setIfInBounds_toArray, List.set_cons_zero, List.set_cons_succ]
      refine take1 (i := 13) (some 41) rfl rfl (by kernel_rfl) (by kernel_rfl) (by kernel_rfl) (fun _ _ _ _ h => h) rfl hS ?_
      refine Exists.intro (.int .i64 x3) ?_
      apply And.intro
      · intro W9 hW9; have y1 := (hW9.blk KX.out (by have := HG8.out; omega)).cell e1; have y2 := (hW9.blk KX.out (by have := HG8.out; omega)).cell e2; have y3 := (hW9.blk KX.out (by have := HG8.out; omega)).cell e3; go_simp; (try go_bits); (try with_reducible rfl); (try trivial)
      simp only [Act.put, List.setIfInBounds_toArray, List.set_cons_zero, List.set_cons_succ]
      refine take1 (i := 14) (some 42) rfl rfl (by kernel_rfl) (by kernel_rfl) (by kernel_rfl) (fun _ _ _ _ h => h) rfl hS ?_
      refine Exists.intro (.int .i64 (3 * x3)) ?_
      apply And.intro
      · intro W9 hW9; have y1 := (hW9.blk KX.out (by have := HG8.out; omega)).cell e1; have y2 := (hW9.blk KX.out (by have := HG8.out; omega)).cell e2; have y3 := (hW9.blk KX.out (by have := HG8.out; omega)).cell e3; go_simp; (try go_bits); (try with_reducible rfl); (try trivial)
      simp only [Act.put, List.setIfInBounds_toArray, List.set_cons_zero, List.set_cons_succ]
      refine take1 (i := 17) (some 45) rfl rfl (by kernel_rfl) (by kernel_rfl) (by kernel_rfl) (fun _ _ _ _ h => h) rfl hS ?_
      apply Exists.intro
      apply And.intro
      · intro W9 hW9; have y1 := (hW9.blk KX.out (by have := HG8.out; omega)).cell e1; have y2 := (hW9.blk KX.out (by have := HG8.out; omega)).cell e2; have y3 := (hW9.blk KX.out (by have := HG8.out; omega)).cell e3; go_simp; try with_reducible rfl
      simp only [Act.put, List.setIfInBounds_toArray, List.set_cons_zero, List.set_cons_succ]
      refine wpAnyH_ready (rs := [15, 16]) (by kernel_rfl) (by simp) ?_
      refine AllReadyH.cons rfl (fun K hK => ?_) ?_
      go_simp
      have hba := Bw.alloc (Bw.refl wd) (.cells #[.int .i64 x1, .int .i64 (2 * x2), .int .i64 (3 * x3)] 3)
      have NB0 := Lib.hid (Blk.new wd 3 #[.int .i64 x1, .int .i64 (2 * x2), .int .i64 (3 * x3)])
      have hle := Nat.le_of_lt KL.out.lt
      replace KL := Lib.hid (KL.out.bw hba)
      refine hK.out _ _ (hS.trans (Kx.of_bw hba hle)) (fun hS => ?_)
      clear hK K
      clear hba hle
      obtain ⟨gb0, hgb⟩ : ∃ gb, wd.heap.size = gb := ⟨_, rfl⟩
      rw [hgb] at NB0
      try rw [hgb]
      clear hgb
      generalize World.alloc wd _ = wd at hS KL NB0  ⊢
      refine wpAnyH_ready (rs := [16]) (by kernel_rfl) (by simp) ?_
      refine AllReadyH.cons rfl (fun K hK => ?_) ?_
      go_simp
      have hba := Bw.alloc (Bw.refl wd) (.cells #[.int .i64 26, .int .i64 16, .int .i64 0] 3)
      have NB1 := Lib.hid (Blk.new wd 3 #[.int .i64 26, .int .i64 16, .int .i64 0])
      have hle := Nat.le_of_lt KL.out.lt
      replace KL := Lib.hid (KL.out.bw hba)
      replace NB0 := Lib.hid (NB0.out.bw hba)
      refine hK.out _ _ (hS.trans (Kx.of_bw hba hle)) (fun hS => ?_)
      clear hK K
      clear hba hle
      obtain ⟨gb1, hgb⟩ : ∃ gb, wd.heap.size = gb := ⟨_, rfl⟩
      rw [hgb] at NB1
      try rw [hgb]
      clear hgb
      generalize World.alloc wd _ = wd at hS KL NB1 NB0 ⊢
      refine wpAnyH_ready (rs := [18]) (by kernel_rfl) (by simp) ?_
      refine AllReadyH.cons rfl (fun K hK => ?_) ?_
      have RD0 := Lib.hid (rdI_blkn [x1, 2 * x2, 3 * x3] 3 rfl NB0.out rfl (by simp))
      have RD1 := Lib.hid (rdI_blkn [26, 16, 0] 3 rfl NB1.out rfl (by simp))
      go_simp
      go_wp2_with (go_at_call 22; go_loud (with_reducible refine Calls.mono (VA.out _ _ _ RD0.out RD1.out) ?_); rintro e1 wd ⟨rfl, hb13⟩)
      have hle := Nat.le_of_lt KL.out.lt
      replace KL := Lib.hid (KL.out.bw hb13)
      replace NB0 := Lib.hid (NB0.out.bw hb13)
      replace NB1 := Lib.hid (NB1.out.bw hb13)
      refine hK.out _ _ (hS.trans (Kx.of_bw hb13 hle)) (fun hS => ?_)
      clear hK K
      clear hb13 hle
      refine wpAnyH_ready (rs := [19]) (by kernel_rfl) (by simp) ?_
      refine AllReadyH.cons rfl (fun K hK => ?_) ?_
      go_simp
      go_wp2_with (go_at_call 24; go_loud (with_reducible refine Calls.mono (UN.out _) ?_); rintro e1 wd ⟨rfl, hb13⟩)
      have hle := Nat.le_of_lt KL.out.lt
      replace KL := Lib.hid (KL.out.bw hb13)
      replace NB0 := Lib.hid (NB0.out.bw hb13)
      replace NB1 := Lib.hid (NB1.out.bw hb13)
      refine hK.out _ _ (hS.trans (Kx.of_bw hb13 hle)) (fun hS => ?_)
      clear hK K
      clear hb13 hle
      refine wpAnyH_ready (rs := [20]) (by kernel_rfl) (by simp) ?_
      refine AllReadyH.cons rfl (fun K hK => ?_) ?_
      go_simp
      go_wp2_with (go_at_call 23; go_loud (with_reducible refine Calls.mono (OV.out _) ?_); rintro e1 wd ⟨rfl, hb13⟩)
      have hle := Nat.le_of_lt KL.out.lt
      replace KL := Lib.hid (KL.out.bw hb13)
      replace NB0 := Lib.hid (NB0.out.bw hb13)
      replace NB1 := Lib.hid (NB1.out.bw hb13)
      refine hK.out _ _ (hS.trans (Kx.of_bw hb13 hle)) (fun hS => ?_)
      clear hK K
      clear hb13 hle
      refine take1 (i := 21) (some 49) rfl rfl (by kernel_rfl) (by kernel_rfl) (by kernel_rfl) (fun _ _ _ _ h => h) rfl hS ?_
      apply Exists.intro
      apply And.intro
      · intro W9 hW9; have y1 := (hW9.blk KX.out (by have := HG8.out; omega)).cell e1; have y2 := (hW9.blk KX.out (by have := HG8.out; omega)).cell e2; have y3 := (hW9.blk KX.out (by have := HG8.out; omega)).cell e3; go_simp; try with_reducible rfl
      simp only [Act.put, List.setIfInBounds_toArray, List.set_cons_zero, List.set_cons_succ]
      refine wpAnyH_ready (rs := [22]) (by kernel_rfl) (by simp) ?_
      refine AllReadyH.cons rfl (fun K hK => ?_) ?_
      have lc := KL.out.cell (l3V_at L i c3)
      have lf := KL.out.frozen i
      go_simp
      have hst := Kx.set (j := i) KL.out.lt (.int .i64 CQ)
      replace KL := Lib.hid (KL.out.set i (.int .i64 CQ))
      refine hK.out _ _ (hS.trans hst) (fun hS => ?_)
      clear hK K
      clear hst lc lf
      refine wpAnyH_done (by kernel_rfl) ?_ _
      rotate_left
      exact AllReadyH.nil
      exact AllReadyH.nil
      exact AllReadyH.nil
      exact AllReadyH.nil
      exact AllReadyH.nil
      refine AllReadyH.cons rfl (fun K hK => ?_) ?_
      go_simp
      have hba := Bw.alloc (Bw.refl wd) (.cells #[.int .i64 26, .int .i64 16, .int .i64 0] 3)
      have NB1 := Lib.hid (Blk.new wd 3 #[.int .i64 26, .int .i64 16, .int .i64 0])
      have hle := Nat.le_of_lt KL.out.lt
      replace KL := Lib.hid (KL.out.bw hba)
      refine hK.out _ _ (hS.trans (Kx.of_bw hba hle)) (fun hS => ?_)
      clear hK K
      clear hba hle
      obtain ⟨gb1, hgb⟩ : ∃ gb, wd.heap.size = gb := ⟨_, rfl⟩
      rw [hgb] at NB1
      try rw [hgb]
      clear hgb
      generalize World.alloc wd _ = wd at hS KL NB1  ⊢
      refine wpAnyH_ready (rs := [15]) (by kernel_rfl) (by simp) ?_
      refine AllReadyH.cons rfl (fun K hK => ?_) ?_
      go_simp
      have hba := Bw.alloc (Bw.refl wd) (.cells #[.int .i64 x1, .int .i64 (2 * x2), .int .i64 (3 * x3)] 3)
      have NB0 := Lib.hid (Blk.new wd 3 #[.int .i64 x1, .int .i64 (2 * x2), .int .i64 (3 * x3)])
      have hle := Nat.le_of_lt KL.out.lt
      replace KL := Lib.hid (KL.out.bw hba)
      replace NB1 := Lib.hid (NB1.out.bw hba)
      refine hK.out _ _ (hS.trans (Kx.of_bw hba hle)) (fun hS => ?_)
      clear hK K
      clear hba hle
      obtain ⟨gb0, hgb⟩ : ∃ gb, wd.heap.size = gb := ⟨_, rfl⟩
      rw [hgb] at NB0
      try rw [hgb]
      clear hgb
      generalize World.alloc wd _ = wd at hS KL NB0 NB1 ⊢
      refine wpAnyH_ready (rs := [18]) (by kernel_rfl) (by simp) ?_
      refine AllReadyH.cons rfl (fun K hK => ?_) ?_
      have RD0 := Lib.hid (rdI_blkn [x1, 2 * x2, 3 * x3] 3 rfl NB0.out rfl (by simp))
      have RD1 := Lib.hid (rdI_blkn [26, 16, 0] 3 rfl NB1.out rfl (by simp))
      go_simp
      go_wp2_with (go_at_call 22; go_loud (with_reducible refine Calls.mono (VA.out _ _ _ RD0.out RD1.out) ?_); rintro e1 wd ⟨rfl, hb13⟩)
      have hle := Nat.le_of_lt KL.out.lt
      replace KL := Lib.hid (KL.out.bw hb13)
      replace NB0 := Lib.hid (NB0.out.bw hb13)
      replace NB1 := Lib.hid (NB1.out.bw hb13)
      refine hK.out _ _ (hS.trans (Kx.of_bw hb13 hle)) (fun hS => ?_)
      clear hK K
      clear hb13 hle
      refine wpAnyH_ready (rs := [19]) (by kernel_rfl) (by simp) ?_
      refine AllReadyH.cons rfl (fun K hK => ?_) ?_
      go_simp
      go_wp2_with (go_at_call 24; go_loud (with_reducible refine Calls.mono (UN.out _) ?_); rintro e1 wd ⟨rfl, hb13⟩)
      have hle := Nat.le_of_lt KL.out.lt
      replace KL := Lib.hid (KL.out.bw hb13)
      replace NB0 := Lib.hid (NB0.out.bw hb13)
      replace NB1 := Lib.hid (NB1.out.bw hb13)
      refine hK.out _ _ (hS.trans (Kx.of_bw hb13 hle)) (fun hS => ?_)
      clear hK K
      clear hb13 hle
      refine wpAnyH_ready (rs := [20]) (by kernel_rfl) (by simp) ?_
      refine AllReadyH.cons rfl (fun K hK => ?_) ?_
      go_simp
      go_wp2_with (go_at_call 23; go_loud (with_reducible refine Calls.mono (OV.out _) ?_); rintro e1 wd ⟨rfl, hb13⟩)
      have hle := Nat.le_of_lt KL.out.lt
      replace KL := Lib.hid (KL.out.bw hb13)
      replace NB0 := Lib.hid (NB0.out.bw hb13)
      replace NB1 := Lib.hid (NB1.out.bw hb13)
      refine hK.out _ _ (hS.trans (Kx.of_bw hb13 hle)) (fun hS => ?_)
      clear hK K
      clear hb13 hle
      refine take1 (i := 21) (some 49) rfl rfl (by kernel_rfl) (by kernel_rfl) (by kernel_rfl) (fun _ _ _ _ h => h) rfl hS ?_
      apply Exists.intro
      apply And.intro
      · intro W9 hW9; have y1 := (hW9.blk KX.out (by have := HG8.out; omega)).cell e1; have y2 := (hW9.blk KX.out (by have := HG8.out; omega)).cell e2; have y3 := (hW9.blk KX.out (by have := HG8.out; omega)).cell e3; go_simp; try with_reducible rfl
      simp only [Act.put, List.setIfInBounds_toArray, List.set_cons_zero, List.set_cons_succ]
      refine wpAnyH_ready (rs := [22]) (by kernel_rfl) (by simp) ?_
      refine AllReadyH.cons rfl (fun K hK => ?_) ?_
      have lc := KL.out.cell (l3V_at L i c3)
      have lf := KL.out.frozen i
      go_simp
      have hst := Kx.set (j := i) KL.out.lt (.int .i64 CQ)
      replace KL := Lib.hid (KL.out.set i (.int .i64 CQ))
      refine hK.out _ _ (hS.trans hst) (fun hS => ?_)
      clear hK K
      clear hst lc lf
      refine wpAnyH_done (by kernel_rfl) ?_ _
      rotate_left
      exact AllReadyH.nil
      exact AllReadyH.nil
      exact AllReadyH.nil
      exact AllReadyH.nil
      exact AllReadyH.nil
      exact AllReadyH.nil
      all_goals
        replace HW := Lib.hid (hS.bw HW.out (by have := HG.out; have := HG8.out; omega))
        replace KX := Lib.hid (hS.blk KX.out (by have := HG8.out; omega))
        replace KP := Lib.hid (hS.blk KP.out (by have := HG8.out; omega))
        replace KA := Lib.hid (hS.blk KA.out (by have := HGA.out; omega))
        rw [l3V_set L i c3] at KL
        go_wp2
        go_roundg (3 - (i + 1))
        case measure => omega
        case rel => exact ⟨i + 1, by omega, by omega, by go_num, HW, KX, KP, KA, _, KL, Lib.hid (fun j hj => by (try dsimp only); by_cases e : j = i; (rw [if_pos e, e, HPI.out]); (rw [if_neg e]; exact HL.out j (by omega)))⟩
end Go.Proofs.Sky
