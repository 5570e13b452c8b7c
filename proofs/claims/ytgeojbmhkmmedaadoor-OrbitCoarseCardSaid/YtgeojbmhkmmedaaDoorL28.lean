/-
  lemmas for the theorems of this claim. No conditions beyond those written in the statements.
-/
import Derived.Test.YtgeojbmhkmmedaaDoorH28
set_option linter.unusedVariables false
set_option linter.unusedSimpArgs false
set_option linter.unnecessarySimpa false
namespace Go.Proofs.Sky
open Go Go.RowKit Go.Shelf
set_option maxHeartbeats 2000000
set_option maxRecDepth 8000
def mx28 (x y : Int) : Int := if y > x then y else x
theorem run_mx28 {P : Program} {w : World} (ts : Array TypeId) (t : TypeId) (k k' : IntKind) (x y : Int) : (Builtin.max_ ts t #[.int k x, .int k' y]).run P w = .ok (.int k (mx28 x y)) w := run_max_int2 w ts t k k' x y
theorem mx28_abs (n : Int) : mx28 n (-n) = (n.natAbs : Int) := by unfold mx28; split <;> omega
attribute [-go_sem] run_max_int2
attribute [local go_sem] run_mx28
/-! chapter 28: axes, point, up, size -/
theorem axes28_any (b : Nat) (w : World) : Calls Tryd.prog 23 #[.pointer (some ⟨b, 0, none⟩)] w fun e w' => (∃ ga, e = .returned (.slice (some ⟨ga, 0, none⟩) 3 3) ∧ w.heap.size ≤ ga ∧ Blk w' ga 54 #[.pointer (some ⟨b, 7, none⟩), .pointer (some ⟨b, 11, none⟩), .pointer (some ⟨b, 15, none⟩)]) ∧ Bw w w' := by
  go_enter Tryd.func23, Tryd.ntmps23
  go_upto_region 1 with fail
  refine wp_region_held_drew (S := Bw w) (by kernel_rfl) (Bw.drew (Bw.refl _)) (fun hS => ?_)
  generalize World.drew _ = wd at hS ⊢
  refine take1 (i := 0) (some 3) rfl rfl (by kernel_rfl) (by kernel_rfl) (by kernel_rfl) (fun _ _ _ _ h => h) rfl hS ?_
  apply Exists.intro
  apply And.intro
  · intro W9 hW9; skip; go_simp; try with_reducible rfl
  simp only [Act.put, List.setIfInBounds_toArray, List.set_cons_zero, List.set_cons_succ]
  refine take1 (i := 1) (some 4) rfl rfl (by kernel_rfl) (by kernel_rfl) (by kernel_rfl) (fun _ _ _ _ h => h) rfl hS ?_
  apply Exists.intro
  apply And.intro
  · intro W9 hW9; skip; go_simp; try with_reducible rfl
  simp only [Act.put, List.setIfInBounds_toArray, List.set_cons_zero, List.set_cons_succ]
  refine take1 (i := 2) (some 5) rfl rfl (by kernel_rfl) (by kernel_rfl) (by kernel_rfl) (fun _ _ _ _ h => h) rfl hS ?_
  apply Exists.intro
  apply And.intro
  · intro W9 hW9; skip; go_simp; try with_reducible rfl
  simp only [Act.put, List.setIfInBounds_toArray, List.set_cons_zero, List.set_cons_succ]
  refine take1 (i := 3) (some 6) rfl rfl (by kernel_rfl) (by kernel_rfl) (by kernel_rfl) (fun _ _ _ _ h => h) rfl hS ?_
  apply Exists.intro
  apply And.intro
  · intro W9 hW9; skip; go_simp; try with_reducible rfl
  simp only [Act.put, List.setIfInBounds_toArray, List.set_cons_zero, List.set_cons_succ]
  refine take1 (i := 4) (some 7) rfl rfl (by kernel_rfl) (by kernel_rfl) (by kernel_rfl) (fun _ _ _ _ h => h) rfl hS ?_
  apply Exists.intro
  apply And.intro
  · intro W9 hW9; skip; go_simp; try with_reducible rfl
  simp only [Act.put, List.setIfInBounds_toArray, List.set_cons_zero, List.set_cons_succ]
  refine take1 (i := 5) (some 8) rfl rfl (by kernel_rfl) (by kernel_rfl) (by kernel_rfl) (fun _ _ _ _ h => h) rfl hS ?_
  apply Exists.intro
  apply And.intro
  · intro W9 hW9; skip; go_simp; try with_reducible rfl
  simp only [Act.put, List.setIfInBounds_toArray, List.set_cons_zero, List.set_cons_succ]
  refine take1 (i := 6) (some 9) rfl rfl (by kernel_rfl) (by kernel_rfl) (by kernel_rfl) (fun _ _ _ _ h => h) rfl hS ?_
  apply Exists.intro
  apply And.intro
  · intro W9 hW9; skip; go_simp; try with_reducible rfl
  simp only [Act.put, List.setIfInBounds_toArray, List.set_cons_zero, List.set_cons_succ]
  refine take1 (i := 7) (some 10) rfl rfl (by kernel_rfl) (by kernel_rfl) (by kernel_rfl) (fun _ _ _ _ h => h) rfl hS ?_
  apply Exists.intro
  apply And.intro
  · intro W9 hW9; skip; go_simp; try with_reducible rfl
  simp only [Act.put, List.setIfInBounds_toArray, List.set_cons_zero, List.set_cons_succ]
  refine take1 (i := 8) (some 11) rfl rfl (by kernel_rfl) (by kernel_rfl) (by kernel_rfl) (fun _ _ _ _ h => h) rfl hS ?_
  apply Exists.intro
  apply And.intro
  · intro W9 hW9; skip; go_simp; try with_reducible rfl
  simp only [Act.put, List.setIfInBounds_toArray, List.set_cons_zero, List.set_cons_succ]
  refine wpAnyH_ready (rs := [9]) (by kernel_rfl) (by simp) ?_
  refine AllReadyH.cons rfl (fun K hK => ?_) ?_
  have HSZ := Lib.hid (Bw.size hS)
  go_simp
  have hba := Bw.alloc (Bw.refl wd) (.cells #[.pointer (some ⟨b, 7, none⟩), .pointer (some ⟨b, 11, none⟩), .pointer (some ⟨b, 15, none⟩)] 54)
  have KB := Lib.hid (Blk.new wd 54 #[.pointer (some ⟨b, 7, none⟩), .pointer (some ⟨b, 11, none⟩), .pointer (some ⟨b, 15, none⟩)])
  refine hK.out _ _ (hS.trans hba) (fun hS => ?_)
  clear hK K
  clear hba
  refine take1 (i := 10) (some 2) rfl rfl (by kernel_rfl) (by kernel_rfl) (by kernel_rfl) (fun _ _ _ _ h => h) rfl hS ?_
  apply Exists.intro
  apply And.intro
  · intro W9 hW9; skip; go_simp; try with_reducible rfl
  simp only [Act.put, List.setIfInBounds_toArray, List.set_cons_zero, List.set_cons_succ]
  refine wpAnyH_done (by kernel_rfl) ?_ _
  rotate_left
  exact AllReadyH.nil
  all_goals
    go_wp2
    go_ret
    exact ⟨⟨_, rfl, HSZ.out, KB.out⟩, hS⟩
theorem point28_any (x y z : Int) (w : World) : Calls Tryd.prog 26 #[.agg #[.int .i64 x, .int .i64 y, .int .i64 z]] w fun e w' => e = .returned (.agg #[.int .i64 x, .int .i64 y, .int .i64 z]) ∧ Bw w w' := by
  have KX := Lib.hid ((Blk.new w 22 #[.int .i64 x, .int .i64 y, .int .i64 z]).alloc (.cells #[.int .i64 0, .int .i64 0, .int .i64 0] 27))
  have HW := Lib.hid (Bw.alloc (Bw.alloc (Bw.refl w) (.cells #[.int .i64 x, .int .i64 y, .int .i64 z] 22)) (.cells #[.int .i64 x, .int .i64 y, .int .i64 z] 27))
  have KO : Hid (Blk ((w.alloc (.cells #[.int .i64 x, .int .i64 y, .int .i64 z] 22)).alloc (.cells #[.int .i64 x, .int .i64 y, .int .i64 z] 27)) (w.heap.size + 1) 27 #[.int .i64 x, .int .i64 y, .int .i64 z]) := Lib.hid (by have h9 := Blk.new (w.alloc (.cells #[.int .i64 x, .int .i64 y, .int .i64 z] 22)) 27 #[.int .i64 x, .int .i64 y, .int .i64 z]; simp only [World.size_alloc] at h9; exact h9)
  go_enter Tryd.func26, Tryd.ntmps26
  go_wp2
  refine bodyPost_ret (v := .agg #[.int .i64 x, .int .i64 y, .int .i64 z]) ?_ rfl ⟨rfl, HW.out⟩
  exact results_cell_row (p := 2) rfl _ _ (w.heap.size + 1) _ _ (0, 0) _ rfl KO.out Tryd.underlying27 rfl (by kernel_rfl)
theorem up28_any (x y : Int) (hx : 0 ≤ x ∧ x ≤ 4000000000000000000) (hy : 1 ≤ y ∧ y ≤ 4000000000000000000) (w : World) : Calls Tryd.prog 24 #[.int .i64 x, .int .i64 y] w fun e w' => e = .returned (.int .i64 ((x + y - 1) / y)) ∧ Bw w w' := by
  have hq : (x + y - 1).tdiv y = (x + y - 1) / y := Int.tdiv_eq_ediv_of_nonneg (by omega)
  have hy0 : (y == 0) = false := by simp; omega
  have hb : 0 ≤ (x + y - 1) / y ∧ (x + y - 1) / y ≤ 9000000000000000000 := by
    refine ⟨Int.ediv_nonneg (by omega) (by omega), ?_⟩
    exact Int.le_trans (Int.ediv_le_self _ (by omega)) (by omega)
  go_enter Tryd.func24, Tryd.ntmps24
  go_wp2
  go_ret
  exact ⟨rfl, Bw.refl _⟩
theorem size28_any (x : Int) (hx : -4000000000000000000 ≤ x ∧ x ≤ 4000000000000000000) (w : World) : Calls Tryd.prog 25 #[.int .i64 x] w fun e w' => e = .returned (.int .i64 (x.natAbs : Int)) ∧ Bw w w' := by
  have hm := mx28_abs x
  go_enter Tryd.func25, Tryd.ntmps25
  go_wp2
  go_ret
  exact ⟨rfl, Bw.refl _⟩
end Go.Proofs.Sky

namespace Go.Proofs.Sky
open Go Go.RowKit Go.Shelf
set_option maxHeartbeats 2000000
set_option maxRecDepth 8000
/-! chapter 28: Position -/
def l3V (L : Nat → Int) : Array Value := #[.int .i64 (L 0), .int .i64 (L 1), .int .i64 (L 2)]
theorem l3V_at (L : Nat → Int) (i : Nat) (hi : i < 3) : (l3V L)[i]? = some (.int .i64 (L i)) := by
  match i, hi with
  | 0, _ => rfl
  | 1, _ => rfl
  | 2, _ => rfl
theorem l3V_set (L : Nat → Int) (k : Nat) (hk : k < 3) (v : Int) : (l3V L).setIfInBounds k (.int .i64 v) = l3V (fun j => if j = k then v else L j) := by
  match k, hk with
  | 0, _ => rfl
  | 1, _ => rfl
  | 2, _ => rfl
theorem l3V_congr {x y : Nat → Int} (h : ∀ j, j < 3 → x j = y j) : l3V x = l3V y := by
  unfold l3V; rw [h 0 (by omega), h 1 (by omega), h 2 (by omega)]
theorem ps_at (g i : Nat) (hi : i < 3) : (#[.pointer (some ⟨g, 7, none⟩), .pointer (some ⟨g, 11, none⟩), .pointer (some ⟨g, 15, none⟩)] : Array Value)[i]? = some (.pointer (some ⟨g, 7 + 4 * i, none⟩)) := by
  match i, hi with
  | 0, _ => rfl
  | 1, _ => rfl
  | 2, _ => rfl
theorem rdI_ax {W : World} {g : Nat} {X : Nat → Int} (hB : Blk W g 25 (eV X)) (i : Nat) (hi : i < 3) : RdI W (.slice (some ⟨g, 7 + 4 * i, none⟩) 4 4) [X (7 + 4 * i), X (7 + 4 * i + 1), X (7 + 4 * i + 2), X (7 + 4 * i + 3)] := by
  refine ⟨by simp, _, _, rfl, .inr ⟨g, 7 + 4 * i, rfl, hB.lt, fun k hk => ?_⟩⟩
  have hk4 : k < 4 := hk
  refine hB.cell ((eV_at X (7 + 4 * i + k) (by omega)).trans ?_)
  match k, hk4 with
  | 0, _ => rfl
  | 1, _ => rfl
  | 2, _ => rfl
  | 3, _ => rfl
theorem atE_ok {X : Nat → Int} {t : Int} (h : (atE X t).2 = 0) : errE X = 0 ∧ (atE X t).1.natAbs ≤ 7200000000000 := by
  unfold atE at h ⊢
  by_cases h1 : errE X = 0
  · refine ⟨h1, ?_⟩
    rw [if_neg (by omega)] at h ⊢
    by_cases h2 : t < 0 ∨ 604800000000000 ≤ t
    · rw [if_pos h2] at h; simp at h
    · rw [if_neg h2] at h ⊢
      split at h
      · simp at h
      · rename_i h3
        rw [if_neg h3]
        dsimp only
        omega
  · rw [if_pos h1] at h
    exact absurd h h1
theorem ax_bd {X : Nat → Int} (h : errE X = 0) (j : Nat) (hj : j < 3) : (X (7 + 4 * j)).natAbs ≤ 2147483648 ∧ (X (7 + 4 * j + 1)).natAbs ≤ 8388608 ∧ (X (7 + 4 * j + 2)).natAbs ≤ 2097152 ∧ (X (7 + 4 * j + 3)).natAbs ≤ 8388608 := by
  have hp := (errE_parts h).2.2
  have h0 := hp 0 (by omega)
  have h1 := hp 1 (by omega)
  have h2 := hp 2 (by omega)
  have h3 := hp 3 (by omega)
  unfold okZ at h0 h1 h2 h3
  simp only [decide_eq_true_eq] at h0 h1 h2 h3
  rw [show lowR (axB 0) true = -2147483648 from by decide, show highR (axB 0) true = 2147483647 from by decide] at h0
  rw [show lowR (axB 1) true = -8388608 from by decide, show highR (axB 1) true = 8388607 from by decide] at h1
  rw [show lowR (axB 2) true = -2097152 from by decide, show highR (axB 2) true = 2097151 from by decide] at h2
  rw [show lowR (axB 3) true = -8388608 from by decide, show highR (axB 3) true = 8388607 from by decide] at h3
  rcases (by omega : j = 0 ∨ j = 1 ∨ j = 2) with rfl | rfl | rfl
  · have e0 : -2147483648 ≤ X 7 ∧ X 7 ≤ 2147483647 := h0.1
    have e1 : -8388608 ≤ X 8 ∧ X 8 ≤ 8388607 := h1.1
    have e2 : -2097152 ≤ X 9 ∧ X 9 ≤ 2097151 := h2.1
    have e3 : -8388608 ≤ X 10 ∧ X 10 ≤ 8388607 := h3.1
    show (X 7).natAbs ≤ _ ∧ (X 8).natAbs ≤ _ ∧ (X 9).natAbs ≤ _ ∧ (X 10).natAbs ≤ _
    clear h0 h1 h2 h3
    omega
  · have e0 : -2147483648 ≤ X 11 ∧ X 11 ≤ 2147483647 := h0.2.1
    have e1 : -8388608 ≤ X 12 ∧ X 12 ≤ 8388607 := h1.2.1
    have e2 : -2097152 ≤ X 13 ∧ X 13 ≤ 2097151 := h2.2.1
    have e3 : -8388608 ≤ X 14 ∧ X 14 ≤ 8388607 := h3.2.1
    show (X 11).natAbs ≤ _ ∧ (X 12).natAbs ≤ _ ∧ (X 13).natAbs ≤ _ ∧ (X 14).natAbs ≤ _
    clear h0 h1 h2 h3
    omega
  · have e0 : -2147483648 ≤ X 15 ∧ X 15 ≤ 2147483647 := h0.2.2
    have e1 : -8388608 ≤ X 16 ∧ X 16 ≤ 8388607 := h1.2.2
    have e2 : -2097152 ≤ X 17 ∧ X 17 ≤ 2097151 := h2.2.2
    have e3 : -8388608 ≤ X 18 ∧ X 18 ≤ 8388607 := h3.2.2
    show (X 15).natAbs ≤ _ ∧ (X 16).natAbs ≤ _ ∧ (X 17).natAbs ≤ _ ∧ (X 18).natAbs ≤ _
    clear h0 h1 h2 h3
    omega
/-- a coordinate, in millimetres -/
def coordQ (c0 c1 c2 c3 d : Int) : Int := rndQ (c0 * 16 * 1000000000 * 1000000000 * 1000000000 * 67108864 + c1 * d * 1000000000 * 1000000000 * 67108864 + c2 * d * d * 1000000000 * 65536 + c3 * d * d * d) 67108864000000000000000000000000000
def posQ (X : Nat → Int) (d : Int) (j : Nat) : Int := coordQ (X (7 + 4 * j)) (X (7 + 4 * j + 1)) (X (7 + 4 * j + 2)) (X (7 + 4 * j + 3)) d
theorem over_pos {c0 c1 c2 c3 d : Int} (h0 : c0.natAbs ≤ 2147483648) (h1 : c1.natAbs ≤ 8388608) (h2 : c2.natAbs ≤ 2097152) (h3 : c3.natAbs ≤ 8388608) (hd : d.natAbs ≤ 7200000000000) (W : World) :
    Calls Tryd.prog 36 #[.agg (nV (hW d (xsW [c0, c1, c2, c3] [30, 26, 16, 0] 4)).1 (hW d (xsW [c0, c1, c2, c3] [30, 26, 16, 0] 4)).2), .agg (nV (unitW 3 26).1 (unitW 3 26).2)] W fun e w' => e = .returned (.int .i64 (coordQ c0 c1 c2 c3 d)) ∧ Bw W w' := by
  have hp := (place4 h0 h1 h2 h3 hd).2
  have hz := place4_z c0 c1 c2 c3 d
  have hu : (unitW 3 26).2 = 67108864000000000000000000000000000 := (unitW_2 3 26).trans (by decide)
  generalize hW d (xsW [c0, c1, c2, c3] [30, 26, 16, 0] 4) = x at *
  have h9 := over28_any x.1 (unitW 3 26).1 x.2 (unitW 3 26).2 W (by rw [hu]; decide) (by rw [hu]; decide) (by rw [hu]; unfold M256; omega) (by
    rw [hu]
    refine Nat.lt_of_le_of_lt (Nat.div_le_div_right (c := 67108864000000000000000000000000000 + 67108864000000000000000000000000000) (show _ ≤ 17000000000000000000000000000000000000000000000 + 17000000000000000000000000000000000000000000000 + 67108864000000000000000000000000000 by omega)) (by decide))
  have he : overR x.1 x.2 (unitW 3 26).2 = coordQ c0 c1 c2 c3 d := by
    rw [over_q x _ (by rw [hu]; decide), hz, hu]; rfl
  rw [he] at h9
  exact h9
end Go.Proofs.Sky

namespace Go.Proofs.Sky
open Go Go.RowKit Go.Shelf
set_option maxHeartbeats 2000000
set_option maxRecDepth 8000
/-! chapter 28: Position, the walk -/
def psE (X : Nat → Int) (t : Int) (j : Nat) : Int := if (atE X t).2 = 0 then posQ X (atE X t).1 j else 0
theorem Position28_any (X : Nat → Int) (t : Int) (w : World) : Calls Tryd.prog 14 #[.agg (eV X), .int .i64 t] w fun e w' => e = .returned (.tuple #[.agg (l3V (psE X t)), .int .i64 (atE X t).2]) ∧ Bw w w' := by
  have AT := Lib.hid (fun W => at28_any X t W)
  have KX := Lib.hid ((Blk.new w 25 (eV X)).alloc (.cells #[.int .i64 0, .int .i64 0, .int .i64 0] 27))
  have KP := Lib.hid (show Blk ((w.alloc (.cells (eV X) 25)).alloc (.cells #[.int .i64 0, .int .i64 0, .int .i64 0] 27)) (w.heap.size + 1) 27 #[.int .i64 0, .int .i64 0, .int .i64 0] from by have h9 := Blk.new (w.alloc (.cells (eV X) 25)) 27 #[.int .i64 0, .int .i64 0, .int .i64 0]; simp only [World.size_alloc] at h9; exact h9)
  have HW := Lib.hid (Bw.alloc (Bw.alloc (Bw.refl w) (.cells (eV X) 25)) (.cells #[.int .i64 0, .int .i64 0, .int .i64 0] 27))
  have HSZ : Hid ((Tryd.prog.info? 25).map (·.size) = some (eV X).size) := Lib.hid (by kernel_rfl)
  have HRA := Lib.hid (fun W g i hi (hB : Blk W g 25 (eV X)) => rdI_ax hB i hi)
  obtain ⟨g, hg⟩ : ∃ g, w.heap.size = g := ⟨_, rfl⟩
  rw [hg] at KX KP
  have HG := Lib.hid hg
  have HOK := Lib.hid (fun h => atE_ok (X := X) (t := t) h)
  have HBD := Lib.hid (fun (h : errE X = 0) j hj => ax_bd h j hj)
  have HPS := Lib.hid (show ∀ j, psE X t j = if (atE X t).2 = 0 then posQ X (atE X t).1 j else 0 from fun j => rfl)
  generalize psE X t = PSF at *
  generalize atE X t = R at *
  obtain ⟨d, er⟩ := R
  dsimp only at AT HOK HPS
  obtain ⟨A, hA⟩ : ∃ A, A = eV X := ⟨_, rfl⟩
  rw [← hA] at AT KX KP HW HSZ HRA ⊢
  clear hA
  go_enter Tryd.func14, Tryd.ntmps14
  go_upto_region 1 with fail
  obtain ⟨W0, hW0⟩ : ∃ W0, (w.alloc (.cells A 25)).alloc (.cells #[.int .i64 0, .int .i64 0, .int .i64 0] 27) = W0 := ⟨_, rfl⟩
  rw [hW0] at KX KP HW ⊢
  clear hW0 hg
  go_upto_region 2 with (first | ((with_reducible refine at_load 25 (.tmp 2) ?_); refine wpList_load_row rfl 25 _ rfl g rfl 25 A (0, 0) _ KX.out Tryd.underlying25 rfl HSZ.out ?_) | (go_at_call 34; (with_reducible refine Calls.mono (AT.out _) ?_); rintro e1 w1 ⟨rfl, hb1⟩; replace KX := Lib.hid (KX.out.bw hb1); replace KP := Lib.hid (KP.out.bw hb1); replace HW := Lib.hid (HW.out.trans hb1); clear hb1))
  by_cases c1 : er = 0
  case neg =>
    have c1z : (er != 0) = true := by simpa using c1
    have HR := Lib.hid (show l3V PSF = #[.int .i64 0, .int .i64 0, .int .i64 0] from l3V_congr (y := fun _ => 0) (fun j hj => by rw [HPS.out j, if_neg c1]))
    clear c1
    go_wp2_with ((with_reducible refine at_store 27 (.tmp 4) (.tmp 19) ?_); refine wpList_store_row rfl 27 (.tmp 4) (.tmp 19) rfl (g + 1) #[.int .i64 0, .int .i64 0, .int .i64 0] rfl rfl 27 _ KP.out (by kernel_rfl) rfl (by simp [Value.oneCell', l3V]) ?_)
    have F9 := KP.out.row #[.int .i64 0, .int .i64 0, .int .i64 0]
    have B9 := Bw.setRow HW.out (show w.heap.size ≤ g + 1 by have := HG.out; omega) #[.int .i64 0, .int .i64 0, .int .i64 0]
    refine bodyPost_ret (v := .tuple #[.agg #[.int .i64 0, .int .i64 0, .int .i64 0], .int .i64 er]) ?_ rfl ⟨by rw [HR.out], B9⟩
    exact results_two_row (p := 4) (u := 5) rfl _ _ (g + 1) _ rfl (run_loadVar_row _ (g + 1) 27 27 #[.int .i64 0, .int .i64 0, .int .i64 0] (0, 0) _ F9 Tryd.underlying27 rfl (by kernel_rfl))
  obtain ⟨hx, hd⟩ := HOK.out c1
  subst c1
  have HBX := Lib.hid (HBD.out hx)
  have HDD := Lib.hid hd
  have HPJ := Lib.hid (show ∀ j, PSF j = posQ X d j from fun j => by rw [HPS.out j, if_pos rfl])
  clear hx hd HBD HOK HPS AT
  have AX := Lib.hid (fun W => axes28_any g W)
  have HG8 := Lib.hid (show g + 1 < w1.heap.size from KP.out.lt)
  have KL := Lib.hid (show Blk (w1.alloc (.cells #[.int .i64 0, .int .i64 0, .int .i64 0] 22)) w1.heap.size 22 (l3V (fun _ => 0)) from Blk.new w1 22 #[.int .i64 0, .int .i64 0, .int .i64 0])
  have hb8 := Bw.alloc (Bw.refl w1) (.cells #[.int .i64 0, .int .i64 0, .int .i64 0] 22)
  replace KX := Lib.hid (KX.out.bw hb8); replace KP := Lib.hid (KP.out.bw hb8); replace HW := Lib.hid (HW.out.trans hb8)
  obtain ⟨g8, hg8⟩ : ∃ g8, w1.heap.size = g8 := ⟨_, rfl⟩
  rw [hg8] at KL HG8
  clear hb8
  go_upto_region 5 with fail
  obtain ⟨W2, hW2⟩ : ∃ W2, w1.alloc (.cells #[.int .i64 0, .int .i64 0, .int .i64 0] 22) = W2 := ⟨_, rfl⟩
  rw [hW2] at KX KP HW KL ⊢
  clear hW2 hg8
  go_wp2_with (go_at_call 23; (with_reducible refine Calls.mono (AX.out _) ?_); rintro e1 w3 ⟨⟨ga, rfl, hga, hpg⟩, hb1⟩; have KA := Lib.hid hpg; have HGA := Lib.hid (show g8 < ga by have := KL.out.lt; omega); replace KX := Lib.hid (KX.out.bw hb1); replace KP := Lib.hid (KP.out.bw hb1); replace KL := Lib.hid (KL.out.bw hb1); replace HW := Lib.hid (HW.out.trans hb1); clear hb1 hpg hga)
  go_loopg [23] 3 (fun gg s23 wr => ∃ i : Nat, i ≤ 3 ∧ 3 - i ≤ gg ∧ s23 = .int .i64 i ∧ Hid (Bw w wr) ∧ Hid (Blk wr g 25 A) ∧ Hid (Blk wr (g + 1) 27 #[.int .i64 0, .int .i64 0, .int .i64 0]) ∧ Hid (Blk wr ga 54 #[.pointer (some ⟨g, 7, none⟩), .pointer (some ⟨g, 11, none⟩), .pointer (some ⟨g, 15, none⟩)]) ∧ ∃ L, Hid (Blk wr g8 22 (l3V L)) ∧ Hid (∀ j, j < i → L j = PSF j))
  case atStart => exact ⟨0, by omega, by omega, rfl, HW, KX, KP, KA, fun _ => 0, KL, Lib.hid (fun j hj => absurd hj (by omega))⟩
  case round =>
    clear KX KP KA KL HW
    obtain ⟨i, hi, hgg, rfl, HW, KX, KP, KA, L, KL, HL⟩ := hrel
    obtain ⟨wb, rfl⟩ : ∃ wb, wb = wr := ⟨_, rfl⟩
    by_cases c3 : i < 3
    case neg =>
      have c3z : ¬ (i : Int) < 3 := by omega
      obtain rfl : i = 3 := by omega
      have PTC : Hid (∀ W, Calls Tryd.prog 26 #[.agg (l3V PSF)] W fun e w' => e = .returned (.agg (l3V PSF)) ∧ Bw W w') := Lib.hid (fun W => point28_any (PSF 0) (PSF 1) (PSF 2) W)
      rw [l3V_congr (fun j hj => HL.out j hj)] at KL
      go_wp2_with (first | ((with_reducible refine at_load 22 (.tmp 8) ?_); refine wpList_load_row rfl 22 _ rfl g8 rfl 22 (l3V PSF) (0, 0) _ KL.out Tryd.underlying22 rfl (by kernel_rfl) ?_) | (go_at_call 26; (with_reducible refine Calls.mono (PTC.out _) ?_); rintro e1 w7 ⟨rfl, hb1⟩; replace KP := Lib.hid (KP.out.bw hb1); replace HW := Lib.hid (HW.out.trans hb1); clear hb1) | ((with_reducible refine at_store 27 (.tmp 4) (.tmp 40) ?_); refine wpList_store_row rfl 27 (.tmp 4) (.tmp 40) rfl (g + 1) (l3V PSF) rfl rfl 27 _ KP.out (by kernel_rfl) rfl (by simp [Value.oneCell', l3V]) ?_))
      have F9 := KP.out.row (l3V PSF)
      have B9 := Bw.setRow HW.out (show w.heap.size ≤ g + 1 by have := HG.out; omega) (l3V PSF)
      refine bodyPost_ret (v := .tuple #[.agg (l3V PSF), .int .i64 0]) ?_ rfl ⟨rfl, B9⟩
      exact results_two_row (p := 4) (u := 5) rfl _ _ (g + 1) _ rfl (run_loadVar_row _ (g + 1) 27 27 (l3V PSF) (0, 0) _ F9 Tryd.underlying27 rfl (by kernel_rfl))
    case pos =>
      have c3z : (i : Int) < 3 := by omega
      have hi0 : (0 : Int) ≤ i := by omega
      obtain ⟨b0, b1, b2, b3⟩ := HBX.out i c3
      have hp4 := (place4 b0 b1 b2 b3 HDD.out).1
      have OV := Lib.hid (fun W => over_pos b0 b1 b2 b3 HDD.out W)
      have HPI := Lib.hid (show PSF i = coordQ (X (7 + 4 * i)) (X (7 + 4 * i + 1)) (X (7 + 4 * i + 2)) (X (7 + 4 * i + 3)) d from HPJ.out i)
      have HRI := Lib.hid (fun W (hB : Blk W g 25 A) => HRA.out W g i c3 hB)
      have VA : Hid (∀ W vs, RdI W (.slice (some ⟨g, 7 + 4 * i, none⟩) 4 4) [X (7 + 4 * i), X (7 + 4 * i + 1), X (7 + 4 * i + 2), X (7 + 4 * i + 3)] → RdI W vs [30, 26, 16, 0] → Calls Tryd.prog 35 #[.slice (some ⟨g, 7 + 4 * i, none⟩) 4 4, vs, .int .i64 d] W fun e w' => e = .returned (.agg (nV (hW d (xsW [X (7 + 4 * i), X (7 + 4 * i + 1), X (7 + 4 * i + 2), X (7 + 4 * i + 3)] [30, 26, 16, 0] 4)).1 (hW d (xsW [X (7 + 4 * i), X (7 + 4 * i + 1), X (7 + 4 * i + 2), X (7 + 4 * i + 3)] [30, 26, 16, 0] 4)).2)) ∧ Bw W w') := Lib.hid (fun W vs h1 h2 => valued_any [X (7 + 4 * i), X (7 + 4 * i + 1), X (7 + 4 * i + 2), X (7 + 4 * i + 3)] [30, 26, 16, 0] d _ vs W h1 h2 (by simp) (by simp) rfl (fun j hj => by
        have hj4 : j < 4 := hj
        rcases (by omega : j = 0 ∨ j = 1 ∨ j = 2 ∨ j = 3) with rfl | rfl | rfl | rfl
        · show -9000000000000000000 ≤ X (7 + 4 * i) ∧ X (7 + 4 * i) ≤ 9000000000000000000; omega
        · show -9000000000000000000 ≤ X (7 + 4 * i + 1) ∧ X (7 + 4 * i + 1) ≤ 9000000000000000000; omega
        · show -9000000000000000000 ≤ X (7 + 4 * i + 2) ∧ X (7 + 4 * i + 2) ≤ 9000000000000000000; omega
        · show -9000000000000000000 ≤ X (7 + 4 * i + 3) ∧ X (7 + 4 * i + 3) ≤ 9000000000000000000; omega) (fun j hj => by
        have hj4 : j < 4 := hj
        rcases (by omega : j = 0 ∨ j = 1 ∨ j = 2 ∨ j = 3) with rfl | rfl | rfl | rfl <;> decide) (by have := HDD.out; omega) hp4)
      clear hp4 b0 b1 b2 b3
      generalize X (7 + 4 * i) = x0 at *
      generalize X (7 + 4 * i + 1) = x1 at *
      generalize X (7 + 4 * i + 2) = x2 at *
      generalize X (7 + 4 * i + 3) = x3 at *
      generalize hW d (xsW [x0, x1, x2, x3] [30, 26, 16, 0] 4) = RES at *
      generalize coordQ x0 x1 x2 x3 d = CQ at *
      have UN : Hid (∀ W, Calls Tryd.prog 37 #[.int .i64 3, .int .i64 26] W fun e w' => e = .returned (.agg (nV (unitW 3 26).1 (unitW 3 26).2)) ∧ Bw W w') := Lib.hid (fun W => unit28_any 3 26 (by decide) (by decide) W)
      generalize unitW 3 26 = UV at *
      have pc := KA.out.cell (ps_at g i c3)
      go_upto_region 8 with fail
      clear pc
      have RS := Lib.hid (show RdI (wb.alloc (.cells #[.int .i64 30, .int .i64 26, .int .i64 16, .int .i64 0] 3)) (.slice (some ⟨wb.heap.size, 0, none⟩) 4 4) [30, 26, 16, 0] from RdI.litN wb #[.int .i64 30, .int .i64 26, .int .i64 16, .int .i64 0] 3 [30, 26, 16, 0] wb.heap.size rfl (by rfl) (by simp))
      have lc := KL.out.cell (l3V_at L i c3)
      have lf := KL.out.frozen i
      go_wp2_with (first | (go_at_call 35; (with_reducible refine Calls.mono (VA.out _ _ (HRI.out _ (KX.out.bw (Bw.alloc (Bw.refl wb) (.cells #[.int .i64 30, .int .i64 26, .int .i64 16, .int .i64 0] 3)))) RS.out) ?_); rintro e1 w4 ⟨rfl, hb1⟩; replace hb1 := (Bw.alloc (Bw.refl wb) (.cells #[.int .i64 30, .int .i64 26, .int .i64 16, .int .i64 0] 3)).trans hb1; replace KX := Lib.hid (KX.out.bw hb1); replace KP := Lib.hid (KP.out.bw hb1); replace KL := Lib.hid (KL.out.bw hb1); replace KA := Lib.hid (KA.out.bw hb1); replace HW := Lib.hid (HW.out.trans hb1); clear hb1 lc lf; have lc := KL.out.cell (l3V_at L i c3); have lf := KL.out.frozen i) | (go_at_call 37; (with_reducible refine Calls.mono (UN.out _) ?_); rintro e1 w5 ⟨rfl, hb1⟩; replace KX := Lib.hid (KX.out.bw hb1); replace KP := Lib.hid (KP.out.bw hb1); replace KL := Lib.hid (KL.out.bw hb1); replace KA := Lib.hid (KA.out.bw hb1); replace HW := Lib.hid (HW.out.trans hb1); clear hb1 lc lf; have lc := KL.out.cell (l3V_at L i c3); have lf := KL.out.frozen i) | (go_at_call 36; (with_reducible refine Calls.mono (OV.out _) ?_); rintro e1 w6 ⟨rfl, hb1⟩; replace KX := Lib.hid (KX.out.bw hb1); replace KP := Lib.hid (KP.out.bw hb1); replace KL := Lib.hid (KL.out.bw hb1); replace KA := Lib.hid (KA.out.bw hb1); replace HW := Lib.hid (HW.out.trans hb1); clear hb1 lc lf; have lc := KL.out.cell (l3V_at L i c3); have lf := KL.out.frozen i))
      have hkx := Kx.set (j := i) KL.out.lt (.int .i64 CQ)
      replace KL := Lib.hid (KL.out.set i (.int .i64 CQ))
      rw [l3V_set L i c3] at KL
      replace HW := Lib.hid (hkx.bw HW.out (by have := HG.out; have := HG8.out; omega))
      replace KX := Lib.hid (hkx.blk KX.out (by have := HG8.out; omega))
      replace KP := Lib.hid (hkx.blk KP.out (by have := HG8.out; omega))
      replace KA := Lib.hid (hkx.blk KA.out (by have := HGA.out; omega))
      go_roundg (3 - (i + 1))
      case measure => omega
      case rel => exact ⟨i + 1, by omega, by omega, by go_num, HW, KX, KP, KA, _, KL, Lib.hid (fun j hj => by (try dsimp only); by_cases e : j = i; (rw [if_pos e, e, HPI.out]); (rw [if_neg e]; exact HL.out j (by omega)))⟩
end Go.Proofs.Sky

namespace Go.Proofs.Sky
open Go Go.RowKit Go.Shelf
set_option maxHeartbeats 2000000
set_option maxRecDepth 8000
/-! chapter 28, plain: velocities, clocks -/
theorem vel3 {c1 c2 c3 d : Int} (h1 : c1.natAbs ≤ 8388608) (h2 : c2.natAbs ≤ 4194304) (h3 : c3.natAbs ≤ 25165824) (hd : d.natAbs ≤ 7200000000000) :
    (∀ i, i + 1 < 3 → (timesW (hW d ((xsW [c1, c2, c3] [26, 16, 0] 3).drop (i + 1))) d).2 < M256 ∧ ((xsW [c1, c2, c3] [26, 16, 0] 3).getD i (false, 0)).2 < M256) ∧ (hW d (xsW [c1, c2, c3] [26, 16, 0] 3)).2 ≤ 3846667199578112000000000000000000 := by
  have a0 := lW_mag (cs := [c1, c2, c3]) (shs := [26, 16, 0]) (n := 3) (i := 0) (sh := 26) h1 rfl
  have a1 := lW_mag (cs := [c1, c2, c3]) (shs := [26, 16, 0]) (n := 3) (i := 1) (sh := 16) h2 rfl
  have a2 := lW_mag (cs := [c1, c2, c3]) (shs := [26, 16, 0]) (n := 3) (i := 2) (sh := 0) h3 rfl
  have e : xsW [c1, c2, c3] [26, 16, 0] 3 = [lW [c1, c2, c3] [26, 16, 0] 3 0, lW [c1, c2, c3] [26, 16, 0] 3 1, lW [c1, c2, c3] [26, 16, 0] 3 2] := rfl
  rw [e]
  generalize lW [c1, c2, c3] [26, 16, 0] 3 0 = x0 at *
  generalize lW [c1, c2, c3] [26, 16, 0] 3 1 = x1 at *
  generalize lW [c1, c2, c3] [26, 16, 0] 3 2 = x2 at *
  obtain ⟨m2, s2⟩ := mag_step a2 a1 hd
  obtain ⟨m1, s1⟩ := mag_step s2 a0 hd
  refine ⟨fun i hi => ?_, Nat.le_trans (show (hW d [x0, x1, x2]).2 ≤ _ from s1) (by decide)⟩
  rcases (by omega : i = 0 ∨ i = 1) with rfl | rfl
  · exact ⟨Nat.lt_of_le_of_lt (show (timesW (hW d [x1, x2]) d).2 ≤ _ from m1) (by decide), Nat.lt_of_le_of_lt a0 (by decide)⟩
  · exact ⟨Nat.lt_of_le_of_lt (show (timesW (hW d [x2]) d).2 ≤ _ from m2) (by decide), Nat.lt_of_le_of_lt a1 (by decide)⟩
theorem vel3_z (c1 c2 c3 d : Int) : zW (hW d (xsW [c1, c2, c3] [26, 16, 0] 3)) = c1 * 67108864000000000000000000 + c2 * d * 65536000000000 + c3 * d * d := by
  have e : xsW [c1, c2, c3] [26, 16, 0] 3 = [lW [c1, c2, c3] [26, 16, 0] 3 0, lW [c1, c2, c3] [26, 16, 0] 3 1, lW [c1, c2, c3] [26, 16, 0] 3 2] := rfl
  rw [e]
  show zW (plusW (timesW (plusW (timesW (lW [c1, c2, c3] [26, 16, 0] 3 2) d) (lW [c1, c2, c3] [26, 16, 0] 3 1)) d) (lW [c1, c2, c3] [26, 16, 0] 3 0)) = _
  simp only [zW_plus, zW_times, lW_z]
  show (c3 * 2 ^ 0 * 1000000000 ^ 0 * d + c2 * 2 ^ 16 * 1000000000 ^ 1) * d + c1 * 2 ^ 26 * 1000000000 ^ 2 = _
  simp only [Int.add_mul]
  have f3 : c3 * 2 ^ 0 * 1000000000 ^ 0 * d * d = c3 * d * d := by simp
  have f2 : c2 * 2 ^ 16 * 1000000000 ^ 1 * d = c2 * d * 65536000000000 := by
    rw [show c2 * 2 ^ 16 * 1000000000 ^ 1 = c2 * 65536000000000 by rw [Int.mul_assoc]; rfl, Int.mul_right_comm c2]
  have f1 : c1 * 2 ^ 26 * 1000000000 ^ 2 = c1 * 67108864000000000000000000 := by rw [Int.mul_assoc]; rfl
  rw [f3, f2, f1]
  omega
theorem clk3 {c1 c2 c3 d : Int} (h1 : c1.natAbs ≤ 2147483648) (h2 : c2.natAbs ≤ 8388608) (h3 : c3.natAbs ≤ 32768) (hd : d.natAbs ≤ 7200000000000) :
    (∀ i, i + 1 < 3 → (timesW (hW d ((xsW [c1, c2, c3] [40, 24, 0] 3).drop (i + 1))) d).2 < M256 ∧ ((xsW [c1, c2, c3] [40, 24, 0] 3).getD i (false, 0)).2 < M256) ∧ (hW d (xsW [c1, c2, c3] [40, 24, 0] 3)).2 ≤ 2362196553049674088448000000000000000000 := by
  have a0 := lW_mag (cs := [c1, c2, c3]) (shs := [40, 24, 0]) (n := 3) (i := 0) (sh := 40) h1 rfl
  have a1 := lW_mag (cs := [c1, c2, c3]) (shs := [40, 24, 0]) (n := 3) (i := 1) (sh := 24) h2 rfl
  have a2 := lW_mag (cs := [c1, c2, c3]) (shs := [40, 24, 0]) (n := 3) (i := 2) (sh := 0) h3 rfl
  have e : xsW [c1, c2, c3] [40, 24, 0] 3 = [lW [c1, c2, c3] [40, 24, 0] 3 0, lW [c1, c2, c3] [40, 24, 0] 3 1, lW [c1, c2, c3] [40, 24, 0] 3 2] := rfl
  rw [e]
  generalize lW [c1, c2, c3] [40, 24, 0] 3 0 = x0 at *
  generalize lW [c1, c2, c3] [40, 24, 0] 3 1 = x1 at *
  generalize lW [c1, c2, c3] [40, 24, 0] 3 2 = x2 at *
  obtain ⟨m2, s2⟩ := mag_step a2 a1 hd
  obtain ⟨m1, s1⟩ := mag_step s2 a0 hd
  refine ⟨fun i hi => ?_, Nat.le_trans (show (hW d [x0, x1, x2]).2 ≤ _ from s1) (by decide)⟩
  rcases (by omega : i = 0 ∨ i = 1) with rfl | rfl
  · exact ⟨Nat.lt_of_le_of_lt (show (timesW (hW d [x1, x2]) d).2 ≤ _ from m1) (by decide), Nat.lt_of_le_of_lt a0 (by decide)⟩
  · exact ⟨Nat.lt_of_le_of_lt (show (timesW (hW d [x2]) d).2 ≤ _ from m2) (by decide), Nat.lt_of_le_of_lt a1 (by decide)⟩
theorem clk3_z (c1 c2 c3 d : Int) : zW (hW d (xsW [c1, c2, c3] [40, 24, 0] 3)) = c1 * 1099511627776000000000000000000 + c2 * d * 16777216000000000 + c3 * d * d := by
  have e : xsW [c1, c2, c3] [40, 24, 0] 3 = [lW [c1, c2, c3] [40, 24, 0] 3 0, lW [c1, c2, c3] [40, 24, 0] 3 1, lW [c1, c2, c3] [40, 24, 0] 3 2] := rfl
  rw [e]
  show zW (plusW (timesW (plusW (timesW (lW [c1, c2, c3] [40, 24, 0] 3 2) d) (lW [c1, c2, c3] [40, 24, 0] 3 1)) d) (lW [c1, c2, c3] [40, 24, 0] 3 0)) = _
  simp only [zW_plus, zW_times, lW_z]
  show (c3 * 2 ^ 0 * 1000000000 ^ 0 * d + c2 * 2 ^ 24 * 1000000000 ^ 1) * d + c1 * 2 ^ 40 * 1000000000 ^ 2 = _
  simp only [Int.add_mul]
  have f3 : c3 * 2 ^ 0 * 1000000000 ^ 0 * d * d = c3 * d * d := by simp
  have f2 : c2 * 2 ^ 24 * 1000000000 ^ 1 * d = c2 * d * 16777216000000000 := by
    rw [show c2 * 2 ^ 24 * 1000000000 ^ 1 = c2 * 16777216000000000 by rw [Int.mul_assoc]; rfl, Int.mul_right_comm c2]
  have f1 : c1 * 2 ^ 40 * 1000000000 ^ 2 = c1 * 1099511627776000000000000000000 := by rw [Int.mul_assoc]; rfl
  rw [f3, f2, f1]
  omega
def velQ (c1 c2 c3 d : Int) : Int := rndQ (c1 * 1000000000 * 1000000000 * 67108864 + 2 * c2 * d * 1000000000 * 65536 + 3 * c3 * d * d) 67108864000000000000000000
theorem vel_sum (c1 c2 c3 d : Int) : c1 * 67108864000000000000000000 + 2 * c2 * d * 65536000000000 + 3 * c3 * d * d = c1 * 1000000000 * 1000000000 * 67108864 + 2 * c2 * d * 1000000000 * 65536 + 3 * c3 * d * d := by omega
theorem over_vel {c1 c2 c3 d : Int} (h1 : c1.natAbs ≤ 8388608) (h2 : c2.natAbs ≤ 2097152) (h3 : c3.natAbs ≤ 8388608) (hd : d.natAbs ≤ 7200000000000) (W : World) :
    Calls Tryd.prog 36 #[.agg (nV (hW d (xsW [c1, 2 * c2, 3 * c3] [26, 16, 0] 3)).1 (hW d (xsW [c1, 2 * c2, 3 * c3] [26, 16, 0] 3)).2), .agg (nV (unitW 2 26).1 (unitW 2 26).2)] W fun e w' => e = .returned (.int .i64 (velQ c1 c2 c3 d)) ∧ Bw W w' := by
  have hp := (vel3 (c1 := c1) (c2 := 2 * c2) (c3 := 3 * c3) h1 (by omega) (by omega) hd).2
  have hz := (vel3_z c1 (2 * c2) (3 * c3) d).trans (vel_sum c1 c2 c3 d)
  have hu : (unitW 2 26).2 = 67108864000000000000000000 := (unitW_2 2 26).trans (by decide)
  generalize hW d (xsW [c1, 2 * c2, 3 * c3] [26, 16, 0] 3) = x at *
  have h9 := over28_any x.1 (unitW 2 26).1 x.2 (unitW 2 26).2 W (by rw [hu]; decide) (by rw [hu]; decide) (by rw [hu]; unfold M256; omega) (by
    rw [hu]
    refine Nat.lt_of_le_of_lt (Nat.div_le_div_right (c := 67108864000000000000000000 + 67108864000000000000000000) (show _ ≤ 3846667199578112000000000000000000 + 3846667199578112000000000000000000 + 67108864000000000000000000 by omega)) (by decide))
  have he : overR x.1 x.2 (unitW 2 26).2 = velQ c1 c2 c3 d := by
    rw [over_q x _ (by rw [hu]; decide), hz, hu]; rfl
  rw [he] at h9
  exact h9
def clkQ (k0 k1 k2 d : Int) : Int := rndQ (299792458 * k0 * 1000000000 * 1000000000 * 1099511627776 + 299792458 * k1 * d * 1000000000 * 16777216 + 299792458 * k2 * d * d) 1125899906842624000000000000000000000000
theorem clk_sum (k0 k1 k2 d : Int) : (k0 * 1099511627776000000000000000000 + k1 * d * 16777216000000000 + k2 * d * d) * 299792458 = 299792458 * k0 * 1000000000 * 1000000000 * 1099511627776 + 299792458 * k1 * d * 1000000000 * 16777216 + 299792458 * k2 * d * d := by
  rw [show 299792458 * k1 * d = k1 * d * 299792458 by rw [Int.mul_assoc, Int.mul_comm], show 299792458 * k2 * d * d = k2 * d * d * 299792458 by rw [Int.mul_assoc, Int.mul_assoc, Int.mul_comm, ← Int.mul_assoc]]
  generalize k2 * d * d = a
  generalize k1 * d = b
  omega
theorem over_clk {k0 k1 k2 d : Int} (h1 : k0.natAbs ≤ 2147483648) (h2 : k1.natAbs ≤ 8388608) (h3 : k2.natAbs ≤ 32768) (hd : d.natAbs ≤ 7200000000000) (W : World) :
    Calls Tryd.prog 36 #[.agg (nV (timesW (hW d (xsW [k0, k1, k2] [40, 24, 0] 3)) 299792458).1 (timesW (hW d (xsW [k0, k1, k2] [40, 24, 0] 3)) 299792458).2), .agg (nV (timesW (unitW 2 50) 1000000).1 (timesW (unitW 2 50) 1000000).2)] W fun e w' => e = .returned (.int .i64 (clkQ k0 k1 k2 d)) ∧ Bw W w' := by
  have hp := (clk3 h1 h2 h3 hd).2
  have hz := clk3_z k0 k1 k2 d
  have hu : (timesW (unitW 2 50) 1000000).2 = 1125899906842624000000000000000000000000 := by
    show (unitW 2 50).2 * 1000000 = _
    rw [unitW_2]
  generalize hW d (xsW [k0, k1, k2] [40, 24, 0] 3) = y at *
  have hz2 : zW (timesW y 299792458) = 299792458 * k0 * 1000000000 * 1000000000 * 1099511627776 + 299792458 * k1 * d * 1000000000 * 16777216 + 299792458 * k2 * d * d := by rw [zW_times, hz, clk_sum]
  have hp2 : (timesW y 299792458).2 ≤ 708168710917889191074735325184000000000000000000 := by
    show y.2 * 299792458 ≤ _
    omega
  generalize timesW y 299792458 = x at *
  have h9 := over28_any x.1 (timesW (unitW 2 50) 1000000).1 x.2 (timesW (unitW 2 50) 1000000).2 W (by rw [hu]; decide) (by rw [hu]; decide) (by rw [hu]; unfold M256; omega) (by
    rw [hu]
    refine Nat.lt_of_le_of_lt (Nat.div_le_div_right (c := 1125899906842624000000000000000000000000 + 1125899906842624000000000000000000000000) (show _ ≤ 708168710917889191074735325184000000000000000000 + 708168710917889191074735325184000000000000000000 + 1125899906842624000000000000000000000000 by omega)) (by decide))
  have he : overR x.1 x.2 (timesW (unitW 2 50) 1000000).2 = clkQ k0 k1 k2 d := by
    rw [over_q x _ (by rw [hu]; decide), hz2, hu]; rfl
  rw [he] at h9
  exact h9
theorem rdI_blk28 {W : World} {b : Nat} {T : TypeId} {cs : Array Value} (zs : List Int) (hB : Blk W b T cs) (h : cs.toList = zs.map (Value.int .i64)) (hl : zs.length ≤ 1000) : RdI W (.slice (some ⟨b, 0, none⟩) zs.length zs.length) zs := by
  refine ⟨by omega, _, _, rfl, .inr ⟨b, 0, rfl, hB.lt, fun i hi => ?_⟩⟩
  rw [Nat.zero_add]
  refine hB.cell ?_
  rw [← Array.getElem?_toList, h, List.getElem?_map, List.getElem?_eq_getElem hi]
  simp [List.getD_eq_getElem?_getD, hi]
end Go.Proofs.Sky
