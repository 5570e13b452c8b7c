/-
  lemmas for the theorems of this claim. No conditions beyond those written in the statements.
-/
import Derived.Test.YtmfiiocadhdhaaaJ26
import Derived.Deep.Cut
import Derived.Deep.MidRow
import Derived.Laws.CopyRow
import Derived.Laws.ResultCell
set_option linter.unusedVariables false
set_option linter.unusedSimpArgs false
set_option linter.unnecessarySimpa false
namespace Go.Proofs.Sky
open Go Go.RowKit Go.Shelf
set_option maxHeartbeats 4000000
set_option maxRecDepth 4000
/-! chapter 26: one frame -/
theorem res_eph {fn : Func} {p u : Tmp} (h : fn.results = #[.cell p 25, .tmp u]) (tmps : Array Value) (w : World) (g : Nat) (X : Nat → Int) (hp : tmps.getD p undef = .pointer (some ⟨g, 0, none⟩)) (hB : Blk w g 25 (eV X)) :
    (results fn tmps).run Try.prog w = .ok (.tuple #[.agg (eV X), tmps.getD u undef]) w := by
  have h9 := run_loadVar_row (P := Try.prog) w g 25 25 (eV X) (0, 0) _ hB Try.underlying25 rfl (by kernel_rfl)
  rw [results_cell_tmp h, hp]
  simp [asAddr, h9]
def zE : Nat → Int := fun _ => 0
def belX (k : Int) (zs : List Int) : Nat → Int := fillX zE k zs
def belB (t k : Int) (zs : List Int) : Bool := fillB zE k zs && decide (0 ≤ t ∧ t < 131072)
theorem belongs_any (t k : Int) (zs : List Int) (v : Value) (w : World) (hv : RdI w v zs) (hc : Capd v) : Calls Try.prog 36 #[.agg #[.int .i64 t, .int .i64 k, v]] w fun e w' => e = .returned (.tuple #[.agg (eV (belX k zs)), .bool (belB t k zs)]) ∧ Bw w w' := by
  have HV := Lib.hid hv
  have hcc := hc
  obtain ⟨a, c, rfl⟩ := hv.form
  clear hv
  have FL := Lib.hid (fun g W h1 h2 => fill_any g zE k zs (.slice a zs.length c) W h1 h2 hc)
  clear hc hcc
  have HBW := Lib.hid (Bw.alloc (Bw.alloc (Bw.alloc (Bw.refl w) (.cells #[.int .i64 t, .int .i64 k, .slice a zs.length c] 47)) (.cells #[.int .i64 0, .int .i64 0, .int .i64 0, .int .i64 0, .int .i64 0, .int .i64 0, .int .i64 0, .int .i64 0, .int .i64 0, .int .i64 0, .int .i64 0, .int .i64 0, .int .i64 0, .int .i64 0, .int .i64 0, .int .i64 0, .int .i64 0, .int .i64 0, .int .i64 0] 25)) (.cells #[.int .i64 0, .int .i64 0, .int .i64 0, .int .i64 0, .int .i64 0, .int .i64 0, .int .i64 0, .int .i64 0, .int .i64 0, .int .i64 0, .int .i64 0, .int .i64 0, .int .i64 0, .int .i64 0, .int .i64 0, .int .i64 0, .int .i64 0, .int .i64 0, .int .i64 0] 25))
  have KF := Lib.hid (((Blk.new w 47 #[.int .i64 t, .int .i64 k, .slice a zs.length c]).alloc (.cells #[.int .i64 0, .int .i64 0, .int .i64 0, .int .i64 0, .int .i64 0, .int .i64 0, .int .i64 0, .int .i64 0, .int .i64 0, .int .i64 0, .int .i64 0, .int .i64 0, .int .i64 0, .int .i64 0, .int .i64 0, .int .i64 0, .int .i64 0, .int .i64 0, .int .i64 0] 25)).alloc (.cells #[.int .i64 0, .int .i64 0, .int .i64 0, .int .i64 0, .int .i64 0, .int .i64 0, .int .i64 0, .int .i64 0, .int .i64 0, .int .i64 0, .int .i64 0, .int .i64 0, .int .i64 0, .int .i64 0, .int .i64 0, .int .i64 0, .int .i64 0, .int .i64 0, .int .i64 0] 25))
  have KR : Hid (Blk (((w.alloc (.cells #[.int .i64 t, .int .i64 k, .slice a zs.length c] 47)).alloc (.cells #[.int .i64 0, .int .i64 0, .int .i64 0, .int .i64 0, .int .i64 0, .int .i64 0, .int .i64 0, .int .i64 0, .int .i64 0, .int .i64 0, .int .i64 0, .int .i64 0, .int .i64 0, .int .i64 0, .int .i64 0, .int .i64 0, .int .i64 0, .int .i64 0, .int .i64 0] 25)).alloc (.cells #[.int .i64 0, .int .i64 0, .int .i64 0, .int .i64 0, .int .i64 0, .int .i64 0, .int .i64 0, .int .i64 0, .int .i64 0, .int .i64 0, .int .i64 0, .int .i64 0, .int .i64 0, .int .i64 0, .int .i64 0, .int .i64 0, .int .i64 0, .int .i64 0, .int .i64 0] 25)) (w.heap.size + 1) 25 #[.int .i64 0, .int .i64 0, .int .i64 0, .int .i64 0, .int .i64 0, .int .i64 0, .int .i64 0, .int .i64 0, .int .i64 0, .int .i64 0, .int .i64 0, .int .i64 0, .int .i64 0, .int .i64 0, .int .i64 0, .int .i64 0, .int .i64 0, .int .i64 0, .int .i64 0]) := Lib.hid (by have h9 := (Blk.new (w.alloc (.cells #[.int .i64 t, .int .i64 k, .slice a zs.length c] 47)) 25 #[.int .i64 0, .int .i64 0, .int .i64 0, .int .i64 0, .int .i64 0, .int .i64 0, .int .i64 0, .int .i64 0, .int .i64 0, .int .i64 0, .int .i64 0, .int .i64 0, .int .i64 0, .int .i64 0, .int .i64 0, .int .i64 0, .int .i64 0, .int .i64 0, .int .i64 0]).alloc (.cells #[.int .i64 0, .int .i64 0, .int .i64 0, .int .i64 0, .int .i64 0, .int .i64 0, .int .i64 0, .int .i64 0, .int .i64 0, .int .i64 0, .int .i64 0, .int .i64 0, .int .i64 0, .int .i64 0, .int .i64 0, .int .i64 0, .int .i64 0, .int .i64 0, .int .i64 0] 25); simpa using h9)
  have KE : Hid (Blk (((w.alloc (.cells #[.int .i64 t, .int .i64 k, .slice a zs.length c] 47)).alloc (.cells #[.int .i64 0, .int .i64 0, .int .i64 0, .int .i64 0, .int .i64 0, .int .i64 0, .int .i64 0, .int .i64 0, .int .i64 0, .int .i64 0, .int .i64 0, .int .i64 0, .int .i64 0, .int .i64 0, .int .i64 0, .int .i64 0, .int .i64 0, .int .i64 0, .int .i64 0] 25)).alloc (.cells #[.int .i64 0, .int .i64 0, .int .i64 0, .int .i64 0, .int .i64 0, .int .i64 0, .int .i64 0, .int .i64 0, .int .i64 0, .int .i64 0, .int .i64 0, .int .i64 0, .int .i64 0, .int .i64 0, .int .i64 0, .int .i64 0, .int .i64 0, .int .i64 0, .int .i64 0] 25)) (w.heap.size + 1 + 1) 25 (eV zE)) := Lib.hid (by have h9 := Blk.new ((w.alloc (.cells #[.int .i64 t, .int .i64 k, .slice a zs.length c] 47)).alloc (.cells #[.int .i64 0, .int .i64 0, .int .i64 0, .int .i64 0, .int .i64 0, .int .i64 0, .int .i64 0, .int .i64 0, .int .i64 0, .int .i64 0, .int .i64 0, .int .i64 0, .int .i64 0, .int .i64 0, .int .i64 0, .int .i64 0, .int .i64 0, .int .i64 0, .int .i64 0] 25)) 25 #[.int .i64 0, .int .i64 0, .int .i64 0, .int .i64 0, .int .i64 0, .int .i64 0, .int .i64 0, .int .i64 0, .int .i64 0, .int .i64 0, .int .i64 0, .int .i64 0, .int .i64 0, .int .i64 0, .int .i64 0, .int .i64 0, .int .i64 0, .int .i64 0, .int .i64 0]; simp only [World.size_alloc] at h9; exact h9)
  unfold FillP at FL
  obtain ⟨FB, hFB⟩ : ∃ FB, FB = fillB zE k zs := ⟨_, rfl⟩
  rw [← hFB] at FL
  have HBB := Lib.hid (show belB t k zs = (FB && decide (0 ≤ t ∧ t < 131072)) by rw [hFB]; rfl)
  clear hFB
  have HXX := Lib.hid (show belX k zs = fillX zE k zs from rfl)
  generalize fillX zE k zs = X at *
  rw [HXX.out]
  clear HXX
  generalize belB t k zs = BB at *
  go_enter Try.func36, Try.ntmps36
  go_upto_region 2 with fail
  obtain ⟨W0, hW0⟩ : ∃ W0, (((w.alloc (.cells #[.int .i64 t, .int .i64 k, .slice a zs.length c] 47)).alloc (.cells #[.int .i64 0, .int .i64 0, .int .i64 0, .int .i64 0, .int .i64 0, .int .i64 0, .int .i64 0, .int .i64 0, .int .i64 0, .int .i64 0, .int .i64 0, .int .i64 0, .int .i64 0, .int .i64 0, .int .i64 0, .int .i64 0, .int .i64 0, .int .i64 0, .int .i64 0] 25)).alloc (.cells #[.int .i64 0, .int .i64 0, .int .i64 0, .int .i64 0, .int .i64 0, .int .i64 0, .int .i64 0, .int .i64 0, .int .i64 0, .int .i64 0, .int .i64 0, .int .i64 0, .int .i64 0, .int .i64 0, .int .i64 0, .int .i64 0, .int .i64 0, .int .i64 0, .int .i64 0] 25)) = W0 := ⟨_, rfl⟩
  rw [hW0] at HBW KF KR KE ⊢
  clear hW0
  have c0 := KF.out.cell (j := 0) (v := .int .i64 t) rfl
  have c1 := KF.out.cell (j := 1) (v := .int .i64 k) rfl
  have c2 := KF.out.cell (j := 2) (v := .slice a zs.length c) rfl
  skip
  cases FB with
  | false =>
    go_wp2_with (first | (go_at_call 37; (with_reducible refine Calls.mono (FL.out _ _ KE.out (HV.out.mono HBW.out)) ?_); rintro e1 w1 ⟨rfl, hk9, hb9⟩; replace HBW := Lib.hid (hk9.bw HBW.out (by omega)); replace KF := Lib.hid (hk9.blk KF.out (by omega)); replace KR := Lib.hid (hk9.blk KR.out (by omega)); replace KE := Lib.hid hb9; clear hk9 hb9 c0 c1 c2; have c0 := KF.out.cell (j := 0) (v := .int .i64 t) rfl) | ((with_reducible refine at_load 25 (.tmp 4) ?_); refine wpList_load_row rfl 25 _ rfl (w.heap.size + 1 + 1) rfl 25 _ (0, 0) _ KE.out Try.underlying25 rfl (by kernel_rfl) ?_) | ((with_reducible refine at_store 25 (.tmp 2) (.tmp 21) ?_); refine wpList_store_row rfl 25 (.tmp 2) (.tmp 21) rfl (w.heap.size + 1) (eV X) rfl rfl 25 _ KR.out (by kernel_rfl) rfl (by simp [Value.oneCell', eV]) ?_))
    have F3 := KR.out.row (eV X)
    have B3 := Bw.setRow HBW.out (show w.heap.size ≤ w.heap.size + 1 by omega) (eV X)
    generalize World.setRow w1 _ _ = WF at F3 B3 ⊢
    refine bodyPost_ret (v := .tuple #[.agg (eV X), .bool false]) ?_ rfl ⟨by rw [HBB.out]; rfl, B3⟩
    exact res_eph (p := 2) (u := 3) rfl _ _ _ _ rfl F3
  | true =>
    by_cases q1 : 0 ≤ t
    · by_cases q2 : t < 131072
      · go_wp2_with (first | (go_at_call 37; (with_reducible refine Calls.mono (FL.out _ _ KE.out (HV.out.mono HBW.out)) ?_); rintro e1 w1 ⟨rfl, hk9, hb9⟩; replace HBW := Lib.hid (hk9.bw HBW.out (by omega)); replace KF := Lib.hid (hk9.blk KF.out (by omega)); replace KR := Lib.hid (hk9.blk KR.out (by omega)); replace KE := Lib.hid hb9; clear hk9 hb9 c0 c1 c2; have c0 := KF.out.cell (j := 0) (v := .int .i64 t) rfl) | ((with_reducible refine at_load 25 (.tmp 4) ?_); refine wpList_load_row rfl 25 _ rfl (w.heap.size + 1 + 1) rfl 25 _ (0, 0) _ KE.out Try.underlying25 rfl (by kernel_rfl) ?_) | ((with_reducible refine at_store 25 (.tmp 2) (.tmp 21) ?_); refine wpList_store_row rfl 25 (.tmp 2) (.tmp 21) rfl (w.heap.size + 1) (eV X) rfl rfl 25 _ KR.out (by kernel_rfl) rfl (by simp [Value.oneCell', eV]) ?_))
        have F3 := KR.out.row (eV X)
        have B3 := Bw.setRow HBW.out (show w.heap.size ≤ w.heap.size + 1 by omega) (eV X)
        generalize World.setRow w1 _ _ = WF at F3 B3 ⊢
        refine bodyPost_ret (v := .tuple #[.agg (eV X), .bool true]) ?_ rfl ⟨by rw [HBB.out, decide_eq_true (by omega)]; rfl, B3⟩
        exact res_eph (p := 2) (u := 3) rfl _ _ _ _ rfl F3
      · have q2b : decide (t < 131072) = false := decide_eq_false q2
        go_wp2_with (first | (go_at_call 37; (with_reducible refine Calls.mono (FL.out _ _ KE.out (HV.out.mono HBW.out)) ?_); rintro e1 w1 ⟨rfl, hk9, hb9⟩; replace HBW := Lib.hid (hk9.bw HBW.out (by omega)); replace KF := Lib.hid (hk9.blk KF.out (by omega)); replace KR := Lib.hid (hk9.blk KR.out (by omega)); replace KE := Lib.hid hb9; clear hk9 hb9 c0 c1 c2; have c0 := KF.out.cell (j := 0) (v := .int .i64 t) rfl) | ((with_reducible refine at_load 25 (.tmp 4) ?_); refine wpList_load_row rfl 25 _ rfl (w.heap.size + 1 + 1) rfl 25 _ (0, 0) _ KE.out Try.underlying25 rfl (by kernel_rfl) ?_) | ((with_reducible refine at_store 25 (.tmp 2) (.tmp 21) ?_); refine wpList_store_row rfl 25 (.tmp 2) (.tmp 21) rfl (w.heap.size + 1) (eV X) rfl rfl 25 _ KR.out (by kernel_rfl) rfl (by simp [Value.oneCell', eV]) ?_))
        have F3 := KR.out.row (eV X)
        have B3 := Bw.setRow HBW.out (show w.heap.size ≤ w.heap.size + 1 by omega) (eV X)
        generalize World.setRow w1 _ _ = WF at F3 B3 ⊢
        refine bodyPost_ret (v := .tuple #[.agg (eV X), .bool false]) ?_ rfl ⟨by rw [HBB.out, decide_eq_false (by omega)]; rfl, B3⟩
        exact res_eph (p := 2) (u := 3) rfl _ _ _ _ rfl F3
    · go_wp2_with (first | (go_at_call 37; (with_reducible refine Calls.mono (FL.out _ _ KE.out (HV.out.mono HBW.out)) ?_); rintro e1 w1 ⟨rfl, hk9, hb9⟩; replace HBW := Lib.hid (hk9.bw HBW.out (by omega)); replace KF := Lib.hid (hk9.blk KF.out (by omega)); replace KR := Lib.hid (hk9.blk KR.out (by omega)); replace KE := Lib.hid hb9; clear hk9 hb9 c0 c1 c2; have c0 := KF.out.cell (j := 0) (v := .int .i64 t) rfl) | ((with_reducible refine at_load 25 (.tmp 4) ?_); refine wpList_load_row rfl 25 _ rfl (w.heap.size + 1 + 1) rfl 25 _ (0, 0) _ KE.out Try.underlying25 rfl (by kernel_rfl) ?_) | ((with_reducible refine at_store 25 (.tmp 2) (.tmp 21) ?_); refine wpList_store_row rfl 25 (.tmp 2) (.tmp 21) rfl (w.heap.size + 1) (eV X) rfl rfl 25 _ KR.out (by kernel_rfl) rfl (by simp [Value.oneCell', eV]) ?_))
      have F3 := KR.out.row (eV X)
      have B3 := Bw.setRow HBW.out (show w.heap.size ≤ w.heap.size + 1 by omega) (eV X)
      generalize World.setRow w1 _ _ = WF at F3 B3 ⊢
      refine bodyPost_ret (v := .tuple #[.agg (eV X), .bool false]) ?_ rfl ⟨by rw [HBB.out, decide_eq_false (by omega)]; rfl, B3⟩
      exact res_eph (p := 2) (u := 3) rfl _ _ _ _ rfl F3
end Go.Proofs.Sky
