/-
  lemmas for the theorems of this claim. No conditions beyond those written in the statements.
-/
import Derived.Test.YtgeojbmhkmmedaaDoorProg
import Derived.Test.YtgeojbmhkmmedaaDoorRdAt
import Derived.Test.YtgeojbmhkmmedaaDoorHeld
import Derived.Test.YtgeojbmhkmmedaaDoorAL4
import Derived.Test.YtgeojbmhkmmedaaDoorP28
import Derived.Deep.Cut
import Derived.BigQuiet
import Derived.Shelf.Bits.Mul64
import Derived.Shelf.Spec.BitsCarry
set_option linter.unusedVariables false
set_option linter.unusedSimpArgs false
set_option linter.unnecessarySimpa false
namespace Go.Proofs.Sky
open Go Go.RowKit Go.Shelf
set_option maxHeartbeats 2000000
set_option maxRecDepth 8000
/-! chapter 28: numbers of 256 bits in memory -/
theorem Mul64_any (x y : Nat) (hx : x < 18446744073709551616) (hy : y < 18446744073709551616) (w : World) :
    Calls Tryd.prog 59 #[.int .u64 x, .int .u64 y] w fun e w' => e = .returned (.tuple #[.int .u64 ((x * y / 18446744073709551616 : Nat) : Int), .int .u64 ((x * y % 18446744073709551616 : Nat) : Int)]) ∧ w' = w := by
  obtain ⟨bd, bt, bw, hhi⟩ := Lib.mul64_hi x y hx hy
  have ba := Lib.half_mul_le (a := x / 4294967296) (b := y / 4294967296) (by omega) (by omega)
  have bb := Lib.half_mul_le (a := x / 4294967296) (b := y % 4294967296) (by omega) (by omega)
  have bc := Lib.half_mul_le (a := x % 4294967296) (b := y / 4294967296) (by omega) (by omega)
  have ba' : x / 4294967296 * (y / 4294967296) < 18446744073709551616 := by omega
  have bb' : x / 4294967296 * (y % 4294967296) < 18446744073709551616 := by omega
  have bc' : x % 4294967296 * (y / 4294967296) < 18446744073709551616 := by omega
  have bh1 : x / 4294967296 * (y / 4294967296) + (x / 4294967296 * (y % 4294967296) + x % 4294967296 * (y % 4294967296) / 4294967296) / 4294967296 < 18446744073709551616 := by omega
  have bh : x / 4294967296 * (y / 4294967296) + (x / 4294967296 * (y % 4294967296) + x % 4294967296 * (y % 4294967296) / 4294967296) / 4294967296 + ((x / 4294967296 * (y % 4294967296) + x % 4294967296 * (y % 4294967296) / 4294967296) % 4294967296 + x % 4294967296 * (y / 4294967296)) / 4294967296 < 18446744073709551616 := by omega
  go_enter Tryd.func59, Tryd.ntmps59
  go_wp2
  simp only [Mul64.maskN x hx, Mul64.maskN y hy, Mul64.divN, Mul64.mulN, Mul64.addN, Mul64.wrapN _ bd, Mul64.wrapN _ bb', Mul64.wrapN _ bt, Mul64.maskN _ bt, Mul64.wrapN _ bc', Mul64.wrapN _ bw, Mul64.wrapN _ ba', Mul64.wrapN _ bh1, Mul64.wrapN _ bh, Mul64.wrapM (x * y)]
  rw [hhi]
  go_ret2
  exact ⟨rfl, rfl⟩
theorem run_Add64 (x y c : Nat) (hc : c ≤ 1) (w : World) :
    (callFunc 60 #[.int .u64 x, .int .u64 y, .int .u64 c]).run Tryd.prog w =
      .ok (.value (.tuple #[.int .u64 (((x + y + c) % 18446744073709551616 : Nat) : Int), .int .u64 (((x + y + c) / 18446744073709551616 : Nat) : Int)])) w := by
  rw [run_callFunc_extern Tryd.func60 (by kernel_rfl) (by kernel_rfl) (by kernel_rfl) (e := add64Entry) (by kernel_rfl), run_add64 x y c (by omega) (by omega) (by omega) (by omega)]
  simp only [Result.andThen]
  congr 5 <;> omega
theorem run_Sub64 (x y b : Nat) (hb : b ≤ 1) (w : World) :
    (callFunc 75 #[.int .u64 x, .int .u64 y, .int .u64 b]).run Tryd.prog w =
      .ok (.value (.tuple #[.int .u64 (((x + 18446744073709551616 - y - b) % 18446744073709551616 : Nat) : Int), .int .u64 ((if x < y + b then 1 else 0 : Nat) : Int)])) w := by
  rw [run_callFunc_extern Tryd.func75 (by kernel_rfl) (by kernel_rfl) (by kernel_rfl) (e := sub64Entry) (by kernel_rfl), run_sub64 x y b hb]
  rfl
def oV (x : Nat → Nat) : Array Value := #[.int .u64 ((x 0 : Nat) : Int), .int .u64 ((x 1 : Nat) : Int), .int .u64 ((x 2 : Nat) : Int), .int .u64 ((x 3 : Nat) : Int)]
theorem oV_at (x : Nat → Nat) (i : Nat) (hi : i < 4) : (oV x)[i]? = some (.int .u64 ((x i : Nat) : Int)) := by
  match i, hi with
  | 0, _ => rfl
  | 1, _ => rfl
  | 2, _ => rfl
  | 3, _ => rfl
theorem oV_set (x : Nat → Nat) (i : Nat) (hi : i < 4) (v : Nat) : (oV x).setIfInBounds i (.int .u64 ((v : Nat) : Int)) = oV (fun j => if j = i then v else x j) := by
  match i, hi with
  | 0, _ => rfl
  | 1, _ => rfl
  | 2, _ => rfl
  | 3, _ => rfl
theorem oV_congr {x y : Nat → Nat} (h : ∀ j, j < 4 → x j = y j) : oV x = oV y := by
  unfold oV; rw [h 0 (by omega), h 1 (by omega), h 2 (by omega), h 3 (by omega)]
def pV (N : Nat) : Array Value := oV (d64 N)
/-- a number by its sign and its parts -/
def wV (s : Bool) (x : Nat → Nat) : Array Value := #[.bool s, .int .u64 ((x 0 : Nat) : Int), .int .u64 ((x 1 : Nat) : Int), .int .u64 ((x 2 : Nat) : Int), .int .u64 ((x 3 : Nat) : Int)]
theorem wV_at (s : Bool) (x : Nat → Nat) (i : Nat) (hi : i < 4) : (wV s x)[1 + i]? = some (.int .u64 ((x i : Nat) : Int)) := by
  match i, hi with
  | 0, _ => rfl
  | 1, _ => rfl
  | 2, _ => rfl
  | 3, _ => rfl
theorem wV_set (s : Bool) (x : Nat → Nat) (i : Nat) (hi : i < 4) (v : Nat) : (wV s x).setIfInBounds (1 + i) (.int .u64 ((v : Nat) : Int)) = wV s (fun j => if j = i then v else x j) := by
  match i, hi with
  | 0, _ => rfl
  | 1, _ => rfl
  | 2, _ => rfl
  | 3, _ => rfl
theorem wV_sgn (s s' : Bool) (x : Nat → Nat) : (wV s x).setIfInBounds 0 (.bool s') = wV s' x := rfl
theorem wV_congr {s : Bool} {x y : Nat → Nat} (h : ∀ j, j < 4 → x j = y j) : wV s x = wV s y := by
  unfold wV; rw [h 0 (by omega), h 1 (by omega), h 2 (by omega), h 3 (by omega)]
def nV (s : Bool) (N : Nat) : Array Value := wV s (d64 N)
theorem run_Add64_w (x y c s c' : Nat) (hc : c ≤ 1) (hs : (x + y + c) % 18446744073709551616 = s) (hd : (x + y + c) / 18446744073709551616 = c') (w : World) :
    (callFunc 60 #[.int .u64 x, .int .u64 y, .int .u64 c]).run Tryd.prog w = .ok (.value (.tuple #[.int .u64 (s : Int), .int .u64 (c' : Int)])) w := by
  have h := run_Add64 x y c hc w
  rw [hs, hd] at h
  exact h
theorem run_Sub64_w (x y c s c' : Nat) (hc : c ≤ 1) (hs : (x + 18446744073709551616 - y - c) % 18446744073709551616 = s) (hd : (if x < y + c then 1 else 0) = c') (w : World) :
    (callFunc 75 #[.int .u64 x, .int .u64 y, .int .u64 c]).run Tryd.prog w = .ok (.value (.tuple #[.int .u64 (s : Int), .int .u64 (c' : Int)])) w := by
  have h := run_Sub64 x y c hc w
  rw [hs, hd] at h
  exact h
theorem results_two_row {fn : Func} {p u : Tmp} {ty : TypeId} (h : fn.results = #[.cell p ty, .tmp u]) (tmps : Array Value) (w : World) (g : Nat) (cs : Array Value) (hp : tmps.getD p undef = .pointer (some ⟨g, 0, none⟩))
    (h9 : (loadVar ty ⟨g, 0, none⟩).run Tryd.prog w = .ok (.agg cs) w) :
    (results fn tmps).run Tryd.prog w = .ok (.tuple #[.agg cs, tmps.getD u undef]) w := by
  have h8 : (results fn tmps).run Tryd.prog w = ((asAddr (tmps.getD p undef)).run Tryd.prog w).andThen fun a w₁ => ((loadVar ty a).run Tryd.prog w₁).andThen fun x w₂ => .ok (.tuple #[x, tmps.getD u undef]) w₂ := by
    simp only [results, h]
    simp [Sem.run_bind, Result.andThen]
    try rfl
  rw [h8, hp]
  simp [asAddr, h9, Result.andThen]
theorem add_any (A B : Nat) (w : World) : Calls Tryd.prog 57 #[.agg (pV A), .agg (pV B)] w fun e w' => e = .returned (.agg (pV (A + B))) ∧ Bw w w' := by
  unfold pV
  obtain ⟨g, hg⟩ : ∃ g, w.heap.size = g := ⟨_, rfl⟩
  have HW := Lib.hid (Bw.alloc (Bw.alloc (Bw.alloc (Bw.refl w) (.cells (oV (d64 A)) 64)) (.cells (oV (d64 B)) 64)) (.cells #[.int .u64 0, .int .u64 0, .int .u64 0, .int .u64 0] 64))
  have KA := Lib.hid (((Blk.new w 64 (oV (d64 A))).alloc (.cells (oV (d64 B)) 64)).alloc (.cells #[.int .u64 0, .int .u64 0, .int .u64 0, .int .u64 0] 64))
  have KB := Lib.hid ((Blk.new (w.alloc (.cells (oV (d64 A)) 64)) 64 (oV (d64 B))).alloc (.cells #[.int .u64 0, .int .u64 0, .int .u64 0, .int .u64 0] 64))
  have KO := Lib.hid (show Blk (((w.alloc (.cells (oV (d64 A)) 64)).alloc (.cells (oV (d64 B)) 64)).alloc (.cells #[.int .u64 0, .int .u64 0, .int .u64 0, .int .u64 0] 64)) (w.heap.size + 1 + 1) 64 (oV (fun _ => 0)) from by have h9 := Blk.new ((w.alloc (.cells (oV (d64 A)) 64)).alloc (.cells (oV (d64 B)) 64)) 64 #[.int .u64 0, .int .u64 0, .int .u64 0, .int .u64 0]; simp only [World.size_alloc] at h9; exact h9)
  simp only [World.size_alloc] at KB
  obtain ⟨DA, hDA⟩ : ∃ DA, DA = oV (d64 A) := ⟨_, rfl⟩
  obtain ⟨DB, hDB⟩ : ∃ DB, DB = oV (d64 B) := ⟨_, rfl⟩
  rw [← hDA, ← hDB] at HW KA KB KO ⊢
  have hoA : DA.all (·.oneCell') = true := by rw [hDA]; simp [oV, Value.oneCell']
  have hoB : DB.all (·.oneCell') = true := by rw [hDB]; simp [oV, Value.oneCell']
  have HDA := Lib.hid hDA
  have HDB := Lib.hid hDB
  clear hDA hDB
  have HG := Lib.hid hg
  rw [hg] at KA KB KO
  go_enter Tryd.func57, Tryd.ntmps57
  go_upto_region 1 with fail
  obtain ⟨W0, hW0⟩ : ∃ W0, ((w.alloc (.cells DA 64)).alloc (.cells DB 64)).alloc (.cells #[.int .u64 0, .int .u64 0, .int .u64 0, .int .u64 0] 64) = W0 := ⟨_, rfl⟩
  rw [hW0] at KA KB KO HW ⊢
  clear hW0 hg
  go_wp2
  go_loopg [5, 7] 4 (fun gg s5 s7 wr => ∃ i : Nat, i ≤ 4 ∧ 4 - i ≤ gg ∧ s7 = .int .i64 i ∧ s5 = .int .u64 ((cA A B i : Nat) : Int) ∧ Hid (Bw w wr) ∧ Hid (Blk wr g 64 DA) ∧ Hid (Blk wr (g + 1) 64 DB) ∧ ∃ x, Hid (Blk wr (g + 1 + 1) 64 (oV x)) ∧ Hid (∀ j, j < i → x j = d64 (A + B) j))
  case atStart => exact ⟨0, by omega, by omega, rfl, by rw [cA_zero A B]; rfl, HW, KA, KB, fun _ => 0, KO, Lib.hid (fun j hj => absurd hj (by omega))⟩
  case round =>
    clear KA KB KO HW
    obtain ⟨i, hi, hgg, rfl, rfl, HW, KA, KB, x, KO, HX⟩ := hrel
    obtain ⟨wb, rfl⟩ : ∃ wb, wb = wr := ⟨_, rfl⟩
    by_cases c3 : i < 4
    case neg =>
      have c3z : ¬ (i : Int) < 4 := by omega
      obtain rfl : i = 4 := by omega
      have ex : oV x = oV (d64 (A + B)) := oV_congr HX.out
      rw [ex] at KO
      generalize cA A B 4 = cy at *
      obtain ⟨DO, hDO⟩ : ∃ DO, DO = oV (d64 (A + B)) := ⟨_, rfl⟩
      rw [← hDO] at KO
      have hoO : DO.all (·.oneCell') = true := by rw [hDO]; simp [oV, Value.oneCell']
      have HSZ : Hid ((Tryd.prog.info? 64).map (·.size) = some DO.size) := Lib.hid (by rw [hDO]; kernel_rfl)
      have HDO := Lib.hid hDO
      clear hDO ex
      go_wp2_with (first | ((with_reducible refine at_load 64 (.tmp 4) ?_); refine wpList_load_row rfl 64 _ rfl (g + 1 + 1) rfl 64 DO (0, 0) _ KO.out Tryd.underlying64 rfl HSZ.out ?_) | ((with_reducible refine at_store 64 (.tmp 4) (.tmp 24) ?_); refine wpList_store_row rfl 64 (.tmp 4) (.tmp 24) rfl (g + 1 + 1) DO rfl rfl 64 _ KO.out HSZ.out rfl hoO ?_))
      have F9 := KO.out.row DO
      have B9 := Bw.setRow HW.out (show w.heap.size ≤ g + 1 + 1 by have := HG.out; omega) DO
      refine bodyPost_ret (v := .agg DO) ?_ rfl ⟨by rw [HDO.out], B9⟩
      exact results_cell_row (p := 4) rfl _ _ (g + 1 + 1) _ _ (0, 0) _ rfl F9 Tryd.underlying64 rfl HSZ.out
    case pos =>
      have c3z : (i : Int) < 4 := by omega
      have hi0 : (0 : Int) ≤ i := by omega
      have e1 := d64_add A B i
      have e2 := cA_succ A B i
      have AD := Lib.hid (fun W => run_Add64_w (d64 A i) (d64 B i) (cA A B i) _ _ (cA_le A B i) e1.symm e2.symm W)
      clear e1 e2
      have a0 : DA[i]? = some (.int .u64 ((d64 A i : Nat) : Int)) := by rw [HDA.out]; exact oV_at _ i c3
      have b0 : DB[i]? = some (.int .u64 ((d64 B i : Nat) : Int)) := by rw [HDB.out]; exact oV_at _ i c3
      generalize d64 A i = a1 at *
      generalize d64 B i = b1 at *
      go_upto_region 5 with fail
      refine wp_region_held_drew (S := Kx (g + 1 + 1) wb) (by kernel_rfl) (Kx.of_bw (Bw.drew (Bw.refl _)) (Nat.le_of_lt KO.out.lt)) (fun hS => ?_)
      replace KO := Lib.hid (KO.out.bw (Bw.drew (Bw.refl _)))
      generalize World.drew _ = wd at hS KO ⊢
      have k0 := KO.out.cell (oV_at x i c3)
      have f0 := KO.out.frozen i
      refine take1 (i := 0) (some 11) rfl rfl (by kernel_rfl) (by kernel_rfl) (by kernel_rfl) (fun _ _ _ _ h => h) rfl hS ?_
      apply Exists.intro
      apply And.intro
      · intro W9 hW9; have y0 := (hW9.blk KA.out (by omega)).cell a0; have y1 := (hW9.blk KB.out (by omega)).cell b0; go_simp; try with_reducible rfl
      simp only [Act.put, List.setIfInBounds_toArray, List.set_cons_zero, List.set_cons_succ]
      refine take1 (i := 1) (some 12) rfl rfl (by kernel_rfl) (by kernel_rfl) (by kernel_rfl) (fun _ _ _ _ h => h) rfl hS ?_
      apply Exists.intro
      apply And.intro
      · intro W9 hW9; have y0 := (hW9.blk KA.out (by omega)).cell a0; have y1 := (hW9.blk KB.out (by omega)).cell b0; go_simp; try with_reducible rfl
      simp only [Act.put, List.setIfInBounds_toArray, List.set_cons_zero, List.set_cons_succ]
      refine take1 (i := 2) (some 13) rfl rfl (by kernel_rfl) (by kernel_rfl) (by kernel_rfl) (fun _ _ _ _ h => h) rfl hS ?_
      apply Exists.intro
      apply And.intro
      · intro W9 hW9; have y0 := (hW9.blk KA.out (by omega)).cell a0; have y1 := (hW9.blk KB.out (by omega)).cell b0; go_simp; try with_reducible rfl
      simp only [Act.put, List.setIfInBounds_toArray, List.set_cons_zero, List.set_cons_succ]
      refine take1 (i := 3) (some 14) rfl rfl (by kernel_rfl) (by kernel_rfl) (by kernel_rfl) (fun _ _ _ _ h => h) rfl hS ?_
      apply Exists.intro
      apply And.intro
      · intro W9 hW9; have y0 := (hW9.blk KA.out (by omega)).cell a0; have y1 := (hW9.blk KB.out (by omega)).cell b0; go_simp; try with_reducible rfl
      simp only [Act.put, List.setIfInBounds_toArray, List.set_cons_zero, List.set_cons_succ]
      refine take1 (i := 4) (some 15) rfl rfl (by kernel_rfl) (by kernel_rfl) (by kernel_rfl) (fun _ _ _ _ h => h) rfl hS ?_
      apply Exists.intro
      apply And.intro
      · intro W9 hW9; have y0 := (hW9.blk KA.out (by omega)).cell a0; have y1 := (hW9.blk KB.out (by omega)).cell b0; go_simp; try with_reducible rfl
      simp only [Act.put, List.setIfInBounds_toArray, List.set_cons_zero, List.set_cons_succ]
      refine take1 (i := 5) (some 16) rfl rfl (by kernel_rfl) (by kernel_rfl) (by kernel_rfl) (fun _ _ _ _ h => h) rfl hS ?_
      apply Exists.intro
      apply And.intro
      · intro W9 hW9; have y0 := (hW9.blk KA.out (by omega)).cell a0; have y1 := (hW9.blk KB.out (by omega)).cell b0; go_simp; try with_reducible rfl
      simp only [Act.put, List.setIfInBounds_toArray, List.set_cons_zero, List.set_cons_succ]
      refine take1 (i := 6) (some 17) rfl rfl (by kernel_rfl) (by kernel_rfl) (by kernel_rfl) (fun _ _ _ _ h => h) rfl hS ?_
      apply Exists.intro
      apply And.intro
      · intro W9 hW9; have y0 := (hW9.blk KA.out (by omega)).cell a0; have y1 := (hW9.blk KB.out (by omega)).cell b0; go_simp; try with_reducible rfl
      simp only [Act.put, List.setIfInBounds_toArray, List.set_cons_zero, List.set_cons_succ]
      refine take1 (i := 7) (some 18) rfl rfl (by kernel_rfl) (by kernel_rfl) (by kernel_rfl) (fun _ _ _ _ h => h) rfl hS ?_
      apply Exists.intro
      apply And.intro
      · intro W9 hW9; have y0 := (hW9.blk KA.out (by omega)).cell a0; have y1 := (hW9.blk KB.out (by omega)).cell b0; go_simp; try with_reducible rfl
      simp only [Act.put, List.setIfInBounds_toArray, List.set_cons_zero, List.set_cons_succ]
      refine take1 (i := 8) (some 19) rfl rfl (by kernel_rfl) (by kernel_rfl) (by kernel_rfl) (fun _ _ _ _ h => h) rfl hS ?_
      refine Exists.intro (.tuple #[.int .u64 ((d64 (A + B) i : Nat) : Int), .int .u64 ((cA A B (i + 1) : Nat) : Int)]) ?_
      apply And.intro
      · intro W9 hW9; have y0 := (hW9.blk KA.out (by omega)).cell a0; have y1 := (hW9.blk KB.out (by omega)).cell b0; go_simp; simp only [AD.out]
      simp only [Act.put, List.setIfInBounds_toArray, List.set_cons_zero, List.set_cons_succ]
      refine take1 (i := 9) (some 10) rfl rfl (by kernel_rfl) (by kernel_rfl) (by kernel_rfl) (fun _ _ _ _ h => h) rfl hS ?_
      apply Exists.intro
      apply And.intro
      · intro W9 hW9; have y0 := (hW9.blk KA.out (by omega)).cell a0; have y1 := (hW9.blk KB.out (by omega)).cell b0; go_simp; try with_reducible rfl
      simp only [Act.put, List.setIfInBounds_toArray, List.set_cons_zero, List.set_cons_succ]
      refine take1 (i := 10) (some 20) rfl rfl (by kernel_rfl) (by kernel_rfl) (by kernel_rfl) (fun _ _ _ _ h => h) rfl hS ?_
      apply Exists.intro
      apply And.intro
      · intro W9 hW9; have y0 := (hW9.blk KA.out (by omega)).cell a0; have y1 := (hW9.blk KB.out (by omega)).cell b0; go_simp; try with_reducible rfl
      simp only [Act.put, List.setIfInBounds_toArray, List.set_cons_zero, List.set_cons_succ]
      refine take1 (i := 11) (some 21) rfl rfl (by kernel_rfl) (by kernel_rfl) (by kernel_rfl) (fun _ _ _ _ h => h) rfl hS ?_
      apply Exists.intro
      apply And.intro
      · intro W9 hW9; have y0 := (hW9.blk KA.out (by omega)).cell a0; have y1 := (hW9.blk KB.out (by omega)).cell b0; go_simp; try with_reducible rfl
      simp only [Act.put, List.setIfInBounds_toArray, List.set_cons_zero, List.set_cons_succ]
      refine take1 (i := 12) (some 22) rfl rfl (by kernel_rfl) (by kernel_rfl) (by kernel_rfl) (fun _ _ _ _ h => h) rfl hS ?_
      apply Exists.intro
      apply And.intro
      · intro W9 hW9; have y0 := (hW9.blk KA.out (by omega)).cell a0; have y1 := (hW9.blk KB.out (by omega)).cell b0; go_simp; try with_reducible rfl
      simp only [Act.put, List.setIfInBounds_toArray, List.set_cons_zero, List.set_cons_succ]
      refine wpAnyH_ready (rs := [13]) (by kernel_rfl) (by simp) ?_
      refine AllReadyH.cons rfl (fun K hK => ?_) ?_
      go_simp
      have hst := Kx.set (j := i) KO.out.lt (.int .u64 ((d64 (A + B) i : Nat) : Int))
      replace KO := Lib.hid (KO.out.set i (.int .u64 ((d64 (A + B) i : Nat) : Int)))
      refine hK.out _ _ (hS.trans hst) (fun hS => ?_)
      clear hK K
      clear hst
      refine take1 (i := 14) (some 5) rfl rfl (by kernel_rfl) (by kernel_rfl) (by kernel_rfl) (fun _ _ _ _ h => h) rfl hS ?_
      apply Exists.intro
      apply And.intro
      · intro W9 hW9; have y0 := (hW9.blk KA.out (by omega)).cell a0; have y1 := (hW9.blk KB.out (by omega)).cell b0; go_simp; try with_reducible rfl
      simp only [Act.put, List.setIfInBounds_toArray, List.set_cons_zero, List.set_cons_succ]
      refine wpAnyH_done (by kernel_rfl) ?_ _
      rotate_left
      exact AllReadyH.nil
      go_wp2
      rw [oV_set x i c3] at KO
      go_roundg (4 - (i + 1))
      case measure => omega
      case rel => exact ⟨i + 1, by omega, by omega, by go_num, rfl, Lib.hid (hS.bw HW.out (by have := HG.out; omega)), Lib.hid (hS.blk KA.out (by omega)), Lib.hid (hS.blk KB.out (by omega)), _, KO, Lib.hid (fun j hj => by (try dsimp only); by_cases e : j = i; (rw [if_pos e, e]); (rw [if_neg e]; exact HX.out j (by omega)))⟩
theorem less_any (A B : Nat) (hA : A < M256) (hB : B < M256) (w : World) : Calls Tryd.prog 58 #[.agg (pV A), .agg (pV B)] w fun e w' => e = .returned (.tuple #[.agg (pV (A + M256 - B)), .int .u64 ((if A < B then 1 else 0 : Nat) : Int)]) ∧ Bw w w' := by
  obtain ⟨T, hT⟩ : ∃ T, T = A + M256 - B := ⟨_, rfl⟩
  have HT := Lib.hid (show T + B = A + M256 by omega)
  have HTe := Lib.hid hT
  obtain ⟨bw, hbw⟩ : ∃ bw : Nat, bw = (if A < B then 1 else 0) := ⟨_, rfl⟩
  have HF := Lib.hid (show bS A B 4 = bw by rw [hbw]; exact bS_four hA hB)
  clear hA hB
  rw [← hT, ← hbw]
  clear hT hbw
  unfold pV
  obtain ⟨g, hg⟩ : ∃ g, w.heap.size = g := ⟨_, rfl⟩
  have HW := Lib.hid (Bw.alloc (Bw.alloc (Bw.alloc (Bw.refl w) (.cells (oV (d64 A)) 64)) (.cells (oV (d64 B)) 64)) (.cells #[.int .u64 0, .int .u64 0, .int .u64 0, .int .u64 0] 64))
  have KA := Lib.hid (((Blk.new w 64 (oV (d64 A))).alloc (.cells (oV (d64 B)) 64)).alloc (.cells #[.int .u64 0, .int .u64 0, .int .u64 0, .int .u64 0] 64))
  have KB := Lib.hid ((Blk.new (w.alloc (.cells (oV (d64 A)) 64)) 64 (oV (d64 B))).alloc (.cells #[.int .u64 0, .int .u64 0, .int .u64 0, .int .u64 0] 64))
  have KO := Lib.hid (show Blk (((w.alloc (.cells (oV (d64 A)) 64)).alloc (.cells (oV (d64 B)) 64)).alloc (.cells #[.int .u64 0, .int .u64 0, .int .u64 0, .int .u64 0] 64)) (w.heap.size + 1 + 1) 64 (oV (fun _ => 0)) from by have h9 := Blk.new ((w.alloc (.cells (oV (d64 A)) 64)).alloc (.cells (oV (d64 B)) 64)) 64 #[.int .u64 0, .int .u64 0, .int .u64 0, .int .u64 0]; simp only [World.size_alloc] at h9; exact h9)
  simp only [World.size_alloc] at KB
  obtain ⟨DA, hDA⟩ : ∃ DA, DA = oV (d64 A) := ⟨_, rfl⟩
  obtain ⟨DB, hDB⟩ : ∃ DB, DB = oV (d64 B) := ⟨_, rfl⟩
  rw [← hDA, ← hDB] at HW KA KB KO ⊢
  have hoA : DA.all (·.oneCell') = true := by rw [hDA]; simp [oV, Value.oneCell']
  have hoB : DB.all (·.oneCell') = true := by rw [hDB]; simp [oV, Value.oneCell']
  have HDA := Lib.hid hDA
  have HDB := Lib.hid hDB
  clear hDA hDB
  have HG := Lib.hid hg
  rw [hg] at KA KB KO
  go_enter Tryd.func58, Tryd.ntmps58
  go_upto_region 1 with fail
  obtain ⟨W0, hW0⟩ : ∃ W0, ((w.alloc (.cells DA 64)).alloc (.cells DB 64)).alloc (.cells #[.int .u64 0, .int .u64 0, .int .u64 0, .int .u64 0] 64) = W0 := ⟨_, rfl⟩
  rw [hW0] at KA KB KO HW ⊢
  clear hW0 hg
  go_wp2
  go_loopg [5, 7] 4 (fun gg s5 s7 wr => ∃ i : Nat, i ≤ 4 ∧ 4 - i ≤ gg ∧ s7 = .int .i64 i ∧ s5 = .int .u64 ((bS A B i : Nat) : Int) ∧ Hid (Bw w wr) ∧ Hid (Blk wr g 64 DA) ∧ Hid (Blk wr (g + 1) 64 DB) ∧ ∃ x, Hid (Blk wr (g + 1 + 1) 64 (oV x)) ∧ Hid (∀ j, j < i → x j = d64 T j))
  case atStart => exact ⟨0, by omega, by omega, rfl, by rw [bS_zero A B]; rfl, HW, KA, KB, fun _ => 0, KO, Lib.hid (fun j hj => absurd hj (by omega))⟩
  case round =>
    clear KA KB KO HW
    obtain ⟨i, hi, hgg, rfl, rfl, HW, KA, KB, x, KO, HX⟩ := hrel
    obtain ⟨wb, rfl⟩ : ∃ wb, wb = wr := ⟨_, rfl⟩
    by_cases c3 : i < 4
    case neg =>
      have c3z : ¬ (i : Int) < 4 := by omega
      obtain rfl : i = 4 := by omega
      have ex : oV x = oV (d64 T) := oV_congr HX.out
      rw [ex] at KO
      generalize bS A B 4 = cy at *
      obtain ⟨DO, hDO⟩ : ∃ DO, DO = oV (d64 T) := ⟨_, rfl⟩
      rw [← hDO] at KO
      have hoO : DO.all (·.oneCell') = true := by rw [hDO]; simp [oV, Value.oneCell']
      have HSZ : Hid ((Tryd.prog.info? 64).map (·.size) = some DO.size) := Lib.hid (by rw [hDO]; kernel_rfl)
      have HDO := Lib.hid hDO
      clear hDO ex
      go_wp2_with (first | ((with_reducible refine at_load 64 (.tmp 4) ?_); refine wpList_load_row rfl 64 _ rfl (g + 1 + 1) rfl 64 DO (0, 0) _ KO.out Tryd.underlying64 rfl HSZ.out ?_) | ((with_reducible refine at_store 64 (.tmp 4) (.tmp 24) ?_); refine wpList_store_row rfl 64 (.tmp 4) (.tmp 24) rfl (g + 1 + 1) DO rfl rfl 64 _ KO.out HSZ.out rfl hoO ?_))
      have F9 := KO.out.row DO
      have B9 := Bw.setRow HW.out (show w.heap.size ≤ g + 1 + 1 by have := HG.out; omega) DO
      refine bodyPost_ret (v := .tuple #[.agg DO, .int .u64 (cy : Int)]) ?_ rfl ⟨by rw [HDO.out, HF.out], B9⟩
      exact results_two_row (p := 4) (u := 5) rfl _ _ (g + 1 + 1) _ rfl (run_loadVar_row _ (g + 1 + 1) 64 64 DO (0, 0) _ F9 Tryd.underlying64 rfl HSZ.out)
    case pos =>
      have c3z : (i : Int) < 4 := by omega
      have hi0 : (0 : Int) ≤ i := by omega
      have e1 := d64_sub (A := A) (B := B) (T := T) HT.out i c3
      have AD := Lib.hid (fun W => run_Sub64_w (d64 A i) (d64 B i) (bS A B i) _ _ (bS_le A B i) e1.1 e1.2 W)
      clear e1
      have a0 : DA[i]? = some (.int .u64 ((d64 A i : Nat) : Int)) := by rw [HDA.out]; exact oV_at _ i c3
      have b0 : DB[i]? = some (.int .u64 ((d64 B i : Nat) : Int)) := by rw [HDB.out]; exact oV_at _ i c3
      generalize d64 A i = a1 at *
      generalize d64 B i = b1 at *
      go_upto_region 4 with fail
      refine wp_region_held_drew (S := Kx (g + 1 + 1) wb) (by kernel_rfl) (Kx.of_bw (Bw.drew (Bw.refl _)) (Nat.le_of_lt KO.out.lt)) (fun hS => ?_)
      replace KO := Lib.hid (KO.out.bw (Bw.drew (Bw.refl _)))
      generalize World.drew _ = wd at hS KO ⊢
      have k0 := KO.out.cell (oV_at x i c3)
      have f0 := KO.out.frozen i
      refine take1 (i := 0) (some 11) rfl rfl (by kernel_rfl) (by kernel_rfl) (by kernel_rfl) (fun _ _ _ _ h => h) rfl hS ?_
      apply Exists.intro
      apply And.intro
      · intro W9 hW9; have y0 := (hW9.blk KA.out (by omega)).cell a0; have y1 := (hW9.blk KB.out (by omega)).cell b0; go_simp; try with_reducible rfl
      simp only [Act.put, List.setIfInBounds_toArray, List.set_cons_zero, List.set_cons_succ]
      refine take1 (i := 1) (some 12) rfl rfl (by kernel_rfl) (by kernel_rfl) (by kernel_rfl) (fun _ _ _ _ h => h) rfl hS ?_
      apply Exists.intro
      apply And.intro
      · intro W9 hW9; have y0 := (hW9.blk KA.out (by omega)).cell a0; have y1 := (hW9.blk KB.out (by omega)).cell b0; go_simp; try with_reducible rfl
      simp only [Act.put, List.setIfInBounds_toArray, List.set_cons_zero, List.set_cons_succ]
      refine take1 (i := 2) (some 13) rfl rfl (by kernel_rfl) (by kernel_rfl) (by kernel_rfl) (fun _ _ _ _ h => h) rfl hS ?_
      apply Exists.intro
      apply And.intro
      · intro W9 hW9; have y0 := (hW9.blk KA.out (by omega)).cell a0; have y1 := (hW9.blk KB.out (by omega)).cell b0; go_simp; try with_reducible rfl
      simp only [Act.put, List.setIfInBounds_toArray, List.set_cons_zero, List.set_cons_succ]
      refine take1 (i := 3) (some 14) rfl rfl (by kernel_rfl) (by kernel_rfl) (by kernel_rfl) (fun _ _ _ _ h => h) rfl hS ?_
      apply Exists.intro
      apply And.intro
      · intro W9 hW9; have y0 := (hW9.blk KA.out (by omega)).cell a0; have y1 := (hW9.blk KB.out (by omega)).cell b0; go_simp; try with_reducible rfl
      simp only [Act.put, List.setIfInBounds_toArray, List.set_cons_zero, List.set_cons_succ]
      refine take1 (i := 4) (some 15) rfl rfl (by kernel_rfl) (by kernel_rfl) (by kernel_rfl) (fun _ _ _ _ h => h) rfl hS ?_
      apply Exists.intro
      apply And.intro
      · intro W9 hW9; have y0 := (hW9.blk KA.out (by omega)).cell a0; have y1 := (hW9.blk KB.out (by omega)).cell b0; go_simp; try with_reducible rfl
      simp only [Act.put, List.setIfInBounds_toArray, List.set_cons_zero, List.set_cons_succ]
      refine take1 (i := 5) (some 16) rfl rfl (by kernel_rfl) (by kernel_rfl) (by kernel_rfl) (fun _ _ _ _ h => h) rfl hS ?_
      apply Exists.intro
      apply And.intro
      · intro W9 hW9; have y0 := (hW9.blk KA.out (by omega)).cell a0; have y1 := (hW9.blk KB.out (by omega)).cell b0; go_simp; try with_reducible rfl
      simp only [Act.put, List.setIfInBounds_toArray, List.set_cons_zero, List.set_cons_succ]
      refine take1 (i := 6) (some 17) rfl rfl (by kernel_rfl) (by kernel_rfl) (by kernel_rfl) (fun _ _ _ _ h => h) rfl hS ?_
      apply Exists.intro
      apply And.intro
      · intro W9 hW9; have y0 := (hW9.blk KA.out (by omega)).cell a0; have y1 := (hW9.blk KB.out (by omega)).cell b0; go_simp; try with_reducible rfl
      simp only [Act.put, List.setIfInBounds_toArray, List.set_cons_zero, List.set_cons_succ]
      refine take1 (i := 7) (some 18) rfl rfl (by kernel_rfl) (by kernel_rfl) (by kernel_rfl) (fun _ _ _ _ h => h) rfl hS ?_
      apply Exists.intro
      apply And.intro
      · intro W9 hW9; have y0 := (hW9.blk KA.out (by omega)).cell a0; have y1 := (hW9.blk KB.out (by omega)).cell b0; go_simp; try with_reducible rfl
      simp only [Act.put, List.setIfInBounds_toArray, List.set_cons_zero, List.set_cons_succ]
      refine take1 (i := 8) (some 19) rfl rfl (by kernel_rfl) (by kernel_rfl) (by kernel_rfl) (fun _ _ _ _ h => h) rfl hS ?_
      refine Exists.intro (.tuple #[.int .u64 ((d64 T i : Nat) : Int), .int .u64 ((bS A B (i + 1) : Nat) : Int)]) ?_
      apply And.intro
      · intro W9 hW9; have y0 := (hW9.blk KA.out (by omega)).cell a0; have y1 := (hW9.blk KB.out (by omega)).cell b0; go_simp; simp only [AD.out]
      simp only [Act.put, List.setIfInBounds_toArray, List.set_cons_zero, List.set_cons_succ]
      refine take1 (i := 9) (some 10) rfl rfl (by kernel_rfl) (by kernel_rfl) (by kernel_rfl) (fun _ _ _ _ h => h) rfl hS ?_
      apply Exists.intro
      apply And.intro
      · intro W9 hW9; have y0 := (hW9.blk KA.out (by omega)).cell a0; have y1 := (hW9.blk KB.out (by omega)).cell b0; go_simp; try with_reducible rfl
      simp only [Act.put, List.setIfInBounds_toArray, List.set_cons_zero, List.set_cons_succ]
      refine take1 (i := 10) (some 20) rfl rfl (by kernel_rfl) (by kernel_rfl) (by kernel_rfl) (fun _ _ _ _ h => h) rfl hS ?_
      apply Exists.intro
      apply And.intro
      · intro W9 hW9; have y0 := (hW9.blk KA.out (by omega)).cell a0; have y1 := (hW9.blk KB.out (by omega)).cell b0; go_simp; try with_reducible rfl
      simp only [Act.put, List.setIfInBounds_toArray, List.set_cons_zero, List.set_cons_succ]
      refine take1 (i := 11) (some 21) rfl rfl (by kernel_rfl) (by kernel_rfl) (by kernel_rfl) (fun _ _ _ _ h => h) rfl hS ?_
      apply Exists.intro
      apply And.intro
      · intro W9 hW9; have y0 := (hW9.blk KA.out (by omega)).cell a0; have y1 := (hW9.blk KB.out (by omega)).cell b0; go_simp; try with_reducible rfl
      simp only [Act.put, List.setIfInBounds_toArray, List.set_cons_zero, List.set_cons_succ]
      refine take1 (i := 12) (some 22) rfl rfl (by kernel_rfl) (by kernel_rfl) (by kernel_rfl) (fun _ _ _ _ h => h) rfl hS ?_
      apply Exists.intro
      apply And.intro
      · intro W9 hW9; have y0 := (hW9.blk KA.out (by omega)).cell a0; have y1 := (hW9.blk KB.out (by omega)).cell b0; go_simp; try with_reducible rfl
      simp only [Act.put, List.setIfInBounds_toArray, List.set_cons_zero, List.set_cons_succ]
      refine wpAnyH_ready (rs := [13]) (by kernel_rfl) (by simp) ?_
      refine AllReadyH.cons rfl (fun K hK => ?_) ?_
      go_simp
      have hst := Kx.set (j := i) KO.out.lt (.int .u64 ((d64 T i : Nat) : Int))
      replace KO := Lib.hid (KO.out.set i (.int .u64 ((d64 T i : Nat) : Int)))
      refine hK.out _ _ (hS.trans hst) (fun hS => ?_)
      clear hK K
      clear hst
      refine take1 (i := 14) (some 5) rfl rfl (by kernel_rfl) (by kernel_rfl) (by kernel_rfl) (fun _ _ _ _ h => h) rfl hS ?_
      apply Exists.intro
      apply And.intro
      · intro W9 hW9; have y0 := (hW9.blk KA.out (by omega)).cell a0; have y1 := (hW9.blk KB.out (by omega)).cell b0; go_simp; try with_reducible rfl
      simp only [Act.put, List.setIfInBounds_toArray, List.set_cons_zero, List.set_cons_succ]
      refine wpAnyH_done (by kernel_rfl) ?_ _
      rotate_left
      exact AllReadyH.nil
      go_wp2
      rw [oV_set x i c3] at KO
      go_roundg (4 - (i + 1))
      case measure => omega
      case rel => exact ⟨i + 1, by omega, by omega, by go_num, rfl, Lib.hid (hS.bw HW.out (by have := HG.out; omega)), Lib.hid (hS.blk KA.out (by omega)), Lib.hid (hS.blk KB.out (by omega)), _, KO, Lib.hid (fun j hj => by (try dsimp only); by_cases e : j = i; (rw [if_pos e, e]); (rw [if_neg e]; exact HX.out j (by omega)))⟩
end Go.Proofs.Sky
