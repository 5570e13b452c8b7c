/-
  lemmas for the theorems of this claim. No conditions beyond those written in the statements.
-/
import Derived.Test.YtiohoallllkagaaTT31
import Derived.Deep.Cut
set_option linter.unusedVariables false
set_option linter.unusedSimpArgs false
set_option linter.unnecessarySimpa false
namespace Go.Proofs.Sky
open Go Go.RowKit Go.Shelf
set_option maxHeartbeats 4000000
set_option maxRecDepth 4000
/-! chapter 31: AtmosDelays, AtmosCorrects -/
theorem corrects_both (x : Nat → Int) (ln bb up ub : Int) : ∃ (F B E : Int), (∀ W, Calls Try.prog 16 #[.agg (atV x), .int .i64 ln, .int .i64 bb, .int .i64 up, .int .i64 ub] W fun e w' => e = .returned (.tuple #[.int .i64 F, .int .i64 B, .int .i64 E]) ∧ Bw W w') ∧ (∀ W, Calls Try.prog 17 #[.agg (atV x), .int .i64 ln, .int .i64 bb, .int .i64 up, .int .i64 ub] W fun e w' => e = .returned (.tuple #[.int .i64 F, .int .i64 B, .int .i64 E]) ∧ Bw W w') := by
  by_cases h : errA x = 0
  · by_cases hr : (-10000000000000 ≤ ln ∧ ln ≤ 10000000000000) ∧ (0 ≤ bb ∧ bb ≤ 10000000000000) ∧ (0 ≤ up ∧ up ≤ 1073741824) ∧ 0 ≤ ub ∧ ub ≤ 1073741824
    · exact ⟨_, _, _, fun W => Correct_ok2 x ln bb up ub W h (by omega) (by omega), fun W => RCorrect_ok x ln bb up ub W h hr⟩
    · refine ⟨0, 0, 2, fun W => ?_, fun W => RCorrect_range x ln bb up ub W h hr⟩
      by_cases h2 : ln < -10000000000000 ∨ 10000000000000 < ln ∨ bb < 0 ∨ 10000000000000 < bb ∨ ub < 0 ∨ 1073741824 < ub
      · exact Correct_range x ln bb up ub W h h2
      · exact Correct_up x ln bb up ub W h (by omega) (by omega)
  · exact ⟨_, _, _, fun W => Correct_bad x ln bb up ub W h, fun W => RCorrect_bad x ln bb up ub W h⟩
theorem law_corrects (x : Nat → Int) (ln bb up ub : Int) (w : World) :
    Calls Try.prog 4 #[.agg (atV x), .int .i64 ln, .int .i64 bb, .int .i64 up, .int .i64 ub] w fun e w' => e = .returned (.bool true) ∧ Bw w w' := by
  obtain ⟨F, B, E, hp, hr⟩ := corrects_both x ln bb up ub
  unfold atV at hp hr ⊢
  have PC := Lib.hid hp
  have RC := Lib.hid hr
  clear hp hr
  have AW := Lib.hid (fun W => awake_any W)
  have HBW := Lib.hid (Bw.alloc (Bw.refl w) (.cells #[.int .i64 (x 0), .int .i64 (x 1), .int .i64 (x 2), .int .i64 (x 3), .int .i64 (x 4), .int .i64 (x 5), .int .i64 (x 6), .int .i64 (x 7), .int .i64 (x 8)] 25))
  have KX := Lib.hid (Blk.new w 25 #[.int .i64 (x 0), .int .i64 (x 1), .int .i64 (x 2), .int .i64 (x 3), .int .i64 (x 4), .int .i64 (x 5), .int .i64 (x 6), .int .i64 (x 7), .int .i64 (x 8)])
  go_enter Try.func4, Try.ntmps4
  go_upto_region 1 with fail
  obtain ⟨W0, hW0⟩ : ∃ W0, (w.alloc (.cells #[.int .i64 (x 0), .int .i64 (x 1), .int .i64 (x 2), .int .i64 (x 3), .int .i64 (x 4), .int .i64 (x 5), .int .i64 (x 6), .int .i64 (x 7), .int .i64 (x 8)] 25)) = W0 := ⟨_, rfl⟩
  rw [hW0] at HBW KX ⊢
  clear hW0
  have k0 : W0.cell? ⟨w.heap.size, 0, none⟩ = some (.int .i64 (x 0)) := KX.out.cell rfl
  have k1 : W0.cell? ⟨w.heap.size, 1, none⟩ = some (.int .i64 (x 1)) := KX.out.cell rfl
  have k2 : W0.cell? ⟨w.heap.size, 2, none⟩ = some (.int .i64 (x 2)) := KX.out.cell rfl
  have k3 : W0.cell? ⟨w.heap.size, 3, none⟩ = some (.int .i64 (x 3)) := KX.out.cell rfl
  have k4 : W0.cell? ⟨w.heap.size, 4, none⟩ = some (.int .i64 (x 4)) := KX.out.cell rfl
  have k5 : W0.cell? ⟨w.heap.size, 5, none⟩ = some (.int .i64 (x 5)) := KX.out.cell rfl
  have k6 : W0.cell? ⟨w.heap.size, 6, none⟩ = some (.int .i64 (x 6)) := KX.out.cell rfl
  have k7 : W0.cell? ⟨w.heap.size, 7, none⟩ = some (.int .i64 (x 7)) := KX.out.cell rfl
  have k8 : W0.cell? ⟨w.heap.size, 8, none⟩ = some (.int .i64 (x 8)) := KX.out.cell rfl
  go_wp2_with (first | (go_at_call 16; (with_reducible refine Calls.mono (PC.out _) ?_); rintro e1 w1 ⟨rfl, hb9⟩; replace HBW := Lib.hid (HBW.out.trans hb9); replace KX := Lib.hid (KX.out.bw hb9); clear hb9; clear k0 k1 k2 k3 k4 k5 k6 k7 k8; have k0 : w1.cell? ⟨w.heap.size, 0, none⟩ = some (.int .i64 (x 0)) := KX.out.cell rfl; have k1 : w1.cell? ⟨w.heap.size, 1, none⟩ = some (.int .i64 (x 1)) := KX.out.cell rfl; have k2 : w1.cell? ⟨w.heap.size, 2, none⟩ = some (.int .i64 (x 2)) := KX.out.cell rfl; have k3 : w1.cell? ⟨w.heap.size, 3, none⟩ = some (.int .i64 (x 3)) := KX.out.cell rfl; have k4 : w1.cell? ⟨w.heap.size, 4, none⟩ = some (.int .i64 (x 4)) := KX.out.cell rfl; have k5 : w1.cell? ⟨w.heap.size, 5, none⟩ = some (.int .i64 (x 5)) := KX.out.cell rfl; have k6 : w1.cell? ⟨w.heap.size, 6, none⟩ = some (.int .i64 (x 6)) := KX.out.cell rfl; have k7 : w1.cell? ⟨w.heap.size, 7, none⟩ = some (.int .i64 (x 7)) := KX.out.cell rfl; have k8 : w1.cell? ⟨w.heap.size, 8, none⟩ = some (.int .i64 (x 8)) := KX.out.cell rfl) | (go_at_call 17; (with_reducible refine Calls.mono (RC.out _) ?_); rintro e1 w2 ⟨rfl, hb9⟩; replace HBW := Lib.hid (HBW.out.trans hb9); replace KX := Lib.hid (KX.out.bw hb9); clear hb9; clear k0 k1 k2 k3 k4 k5 k6 k7 k8; have k0 : w2.cell? ⟨w.heap.size, 0, none⟩ = some (.int .i64 (x 0)) := KX.out.cell rfl; have k1 : w2.cell? ⟨w.heap.size, 1, none⟩ = some (.int .i64 (x 1)) := KX.out.cell rfl; have k2 : w2.cell? ⟨w.heap.size, 2, none⟩ = some (.int .i64 (x 2)) := KX.out.cell rfl; have k3 : w2.cell? ⟨w.heap.size, 3, none⟩ = some (.int .i64 (x 3)) := KX.out.cell rfl; have k4 : w2.cell? ⟨w.heap.size, 4, none⟩ = some (.int .i64 (x 4)) := KX.out.cell rfl; have k5 : w2.cell? ⟨w.heap.size, 5, none⟩ = some (.int .i64 (x 5)) := KX.out.cell rfl; have k6 : w2.cell? ⟨w.heap.size, 6, none⟩ = some (.int .i64 (x 6)) := KX.out.cell rfl; have k7 : w2.cell? ⟨w.heap.size, 7, none⟩ = some (.int .i64 (x 7)) := KX.out.cell rfl; have k8 : w2.cell? ⟨w.heap.size, 8, none⟩ = some (.int .i64 (x 8)) := KX.out.cell rfl) | (go_at_call 15; (with_reducible refine Calls.mono (AW.out _) ?_); rintro e1 w3 ⟨rfl, hb9⟩; replace HBW := Lib.hid (HBW.out.trans hb9); replace KX := Lib.hid (KX.out.bw hb9); clear hb9; clear k0 k1 k2 k3 k4 k5 k6 k7 k8; have k0 : w3.cell? ⟨w.heap.size, 0, none⟩ = some (.int .i64 (x 0)) := KX.out.cell rfl; have k1 : w3.cell? ⟨w.heap.size, 1, none⟩ = some (.int .i64 (x 1)) := KX.out.cell rfl; have k2 : w3.cell? ⟨w.heap.size, 2, none⟩ = some (.int .i64 (x 2)) := KX.out.cell rfl; have k3 : w3.cell? ⟨w.heap.size, 3, none⟩ = some (.int .i64 (x 3)) := KX.out.cell rfl; have k4 : w3.cell? ⟨w.heap.size, 4, none⟩ = some (.int .i64 (x 4)) := KX.out.cell rfl; have k5 : w3.cell? ⟨w.heap.size, 5, none⟩ = some (.int .i64 (x 5)) := KX.out.cell rfl; have k6 : w3.cell? ⟨w.heap.size, 6, none⟩ = some (.int .i64 (x 6)) := KX.out.cell rfl; have k7 : w3.cell? ⟨w.heap.size, 7, none⟩ = some (.int .i64 (x 7)) := KX.out.cell rfl; have k8 : w3.cell? ⟨w.heap.size, 8, none⟩ = some (.int .i64 (x 8)) := KX.out.cell rfl))
  go_ret
  exact ⟨rfl, HBW.out⟩
theorem law_delays (x : Nat → Int) (up : Int) (w : World) :
    Calls Try.prog 3 #[.agg (atV x), .int .i64 up] w fun e w' => e = .returned (.bool true) ∧ Bw w w' := by
  have PD := Lib.hid (fun W => Delay_any x up W)
  have RD := Lib.hid (fun W => RDelay_any x up W)
  have PS := Lib.hid (fun W => Slope_any x W)
  have RS := Lib.hid (fun W => RSlope_any x W)
  have PK := Lib.hid (fun W => ACheck_any x W)
  have RK := Lib.hid (fun W => rCheck_any x W)
  have AW := Lib.hid (fun W => awake_any W)
  unfold atV
  generalize ionoD x up = I at *
  generalize tropoD x up = Tr9 at *
  generalize errD x up = E9 at *
  generalize (if errA x = 0 then slopeN x else 0) = S9 at *
  generalize errA x = EA at *
  have HBW := Lib.hid (Bw.alloc (Bw.refl w) (.cells #[.int .i64 (x 0), .int .i64 (x 1), .int .i64 (x 2), .int .i64 (x 3), .int .i64 (x 4), .int .i64 (x 5), .int .i64 (x 6), .int .i64 (x 7), .int .i64 (x 8)] 25))
  have KX := Lib.hid (Blk.new w 25 #[.int .i64 (x 0), .int .i64 (x 1), .int .i64 (x 2), .int .i64 (x 3), .int .i64 (x 4), .int .i64 (x 5), .int .i64 (x 6), .int .i64 (x 7), .int .i64 (x 8)])
  go_enter Try.func3, Try.ntmps3
  go_upto_region 1 with fail
  obtain ⟨W0, hW0⟩ : ∃ W0, (w.alloc (.cells #[.int .i64 (x 0), .int .i64 (x 1), .int .i64 (x 2), .int .i64 (x 3), .int .i64 (x 4), .int .i64 (x 5), .int .i64 (x 6), .int .i64 (x 7), .int .i64 (x 8)] 25)) = W0 := ⟨_, rfl⟩
  rw [hW0] at HBW KX ⊢
  clear hW0
  have k0 : W0.cell? ⟨w.heap.size, 0, none⟩ = some (.int .i64 (x 0)) := KX.out.cell rfl
  have k1 : W0.cell? ⟨w.heap.size, 1, none⟩ = some (.int .i64 (x 1)) := KX.out.cell rfl
  have k2 : W0.cell? ⟨w.heap.size, 2, none⟩ = some (.int .i64 (x 2)) := KX.out.cell rfl
  have k3 : W0.cell? ⟨w.heap.size, 3, none⟩ = some (.int .i64 (x 3)) := KX.out.cell rfl
  have k4 : W0.cell? ⟨w.heap.size, 4, none⟩ = some (.int .i64 (x 4)) := KX.out.cell rfl
  have k5 : W0.cell? ⟨w.heap.size, 5, none⟩ = some (.int .i64 (x 5)) := KX.out.cell rfl
  have k6 : W0.cell? ⟨w.heap.size, 6, none⟩ = some (.int .i64 (x 6)) := KX.out.cell rfl
  have k7 : W0.cell? ⟨w.heap.size, 7, none⟩ = some (.int .i64 (x 7)) := KX.out.cell rfl
  have k8 : W0.cell? ⟨w.heap.size, 8, none⟩ = some (.int .i64 (x 8)) := KX.out.cell rfl
  go_upto_region 5 with (first | (go_at_call 9; (with_reducible refine Calls.mono (PD.out _) ?_); rintro e1 w1 ⟨rfl, hb9⟩; replace HBW := Lib.hid (HBW.out.trans hb9); replace KX := Lib.hid (KX.out.bw hb9); clear hb9; clear k0 k1 k2 k3 k4 k5 k6 k7 k8; have k0 : w1.cell? ⟨w.heap.size, 0, none⟩ = some (.int .i64 (x 0)) := KX.out.cell rfl; have k1 : w1.cell? ⟨w.heap.size, 1, none⟩ = some (.int .i64 (x 1)) := KX.out.cell rfl; have k2 : w1.cell? ⟨w.heap.size, 2, none⟩ = some (.int .i64 (x 2)) := KX.out.cell rfl; have k3 : w1.cell? ⟨w.heap.size, 3, none⟩ = some (.int .i64 (x 3)) := KX.out.cell rfl; have k4 : w1.cell? ⟨w.heap.size, 4, none⟩ = some (.int .i64 (x 4)) := KX.out.cell rfl; have k5 : w1.cell? ⟨w.heap.size, 5, none⟩ = some (.int .i64 (x 5)) := KX.out.cell rfl; have k6 : w1.cell? ⟨w.heap.size, 6, none⟩ = some (.int .i64 (x 6)) := KX.out.cell rfl; have k7 : w1.cell? ⟨w.heap.size, 7, none⟩ = some (.int .i64 (x 7)) := KX.out.cell rfl; have k8 : w1.cell? ⟨w.heap.size, 8, none⟩ = some (.int .i64 (x 8)) := KX.out.cell rfl) | (go_at_call 10; (with_reducible refine Calls.mono (RD.out _) ?_); rintro e1 w2 ⟨rfl, hb9⟩; replace HBW := Lib.hid (HBW.out.trans hb9); replace KX := Lib.hid (KX.out.bw hb9); clear hb9; clear k0 k1 k2 k3 k4 k5 k6 k7 k8; have k0 : w2.cell? ⟨w.heap.size, 0, none⟩ = some (.int .i64 (x 0)) := KX.out.cell rfl; have k1 : w2.cell? ⟨w.heap.size, 1, none⟩ = some (.int .i64 (x 1)) := KX.out.cell rfl; have k2 : w2.cell? ⟨w.heap.size, 2, none⟩ = some (.int .i64 (x 2)) := KX.out.cell rfl; have k3 : w2.cell? ⟨w.heap.size, 3, none⟩ = some (.int .i64 (x 3)) := KX.out.cell rfl; have k4 : w2.cell? ⟨w.heap.size, 4, none⟩ = some (.int .i64 (x 4)) := KX.out.cell rfl; have k5 : w2.cell? ⟨w.heap.size, 5, none⟩ = some (.int .i64 (x 5)) := KX.out.cell rfl; have k6 : w2.cell? ⟨w.heap.size, 6, none⟩ = some (.int .i64 (x 6)) := KX.out.cell rfl; have k7 : w2.cell? ⟨w.heap.size, 7, none⟩ = some (.int .i64 (x 7)) := KX.out.cell rfl; have k8 : w2.cell? ⟨w.heap.size, 8, none⟩ = some (.int .i64 (x 8)) := KX.out.cell rfl) | (go_at_call 11; (with_reducible refine Calls.mono (PS.out _) ?_); rintro e1 w3 ⟨rfl, hb9⟩; replace HBW := Lib.hid (HBW.out.trans hb9); replace KX := Lib.hid (KX.out.bw hb9); clear hb9; clear k0 k1 k2 k3 k4 k5 k6 k7 k8; have k0 : w3.cell? ⟨w.heap.size, 0, none⟩ = some (.int .i64 (x 0)) := KX.out.cell rfl; have k1 : w3.cell? ⟨w.heap.size, 1, none⟩ = some (.int .i64 (x 1)) := KX.out.cell rfl; have k2 : w3.cell? ⟨w.heap.size, 2, none⟩ = some (.int .i64 (x 2)) := KX.out.cell rfl; have k3 : w3.cell? ⟨w.heap.size, 3, none⟩ = some (.int .i64 (x 3)) := KX.out.cell rfl; have k4 : w3.cell? ⟨w.heap.size, 4, none⟩ = some (.int .i64 (x 4)) := KX.out.cell rfl; have k5 : w3.cell? ⟨w.heap.size, 5, none⟩ = some (.int .i64 (x 5)) := KX.out.cell rfl; have k6 : w3.cell? ⟨w.heap.size, 6, none⟩ = some (.int .i64 (x 6)) := KX.out.cell rfl; have k7 : w3.cell? ⟨w.heap.size, 7, none⟩ = some (.int .i64 (x 7)) := KX.out.cell rfl; have k8 : w3.cell? ⟨w.heap.size, 8, none⟩ = some (.int .i64 (x 8)) := KX.out.cell rfl) | (go_at_call 12; (with_reducible refine Calls.mono (RS.out _) ?_); rintro e1 w4 ⟨rfl, hb9⟩; replace HBW := Lib.hid (HBW.out.trans hb9); replace KX := Lib.hid (KX.out.bw hb9); clear hb9; clear k0 k1 k2 k3 k4 k5 k6 k7 k8; have k0 : w4.cell? ⟨w.heap.size, 0, none⟩ = some (.int .i64 (x 0)) := KX.out.cell rfl; have k1 : w4.cell? ⟨w.heap.size, 1, none⟩ = some (.int .i64 (x 1)) := KX.out.cell rfl; have k2 : w4.cell? ⟨w.heap.size, 2, none⟩ = some (.int .i64 (x 2)) := KX.out.cell rfl; have k3 : w4.cell? ⟨w.heap.size, 3, none⟩ = some (.int .i64 (x 3)) := KX.out.cell rfl; have k4 : w4.cell? ⟨w.heap.size, 4, none⟩ = some (.int .i64 (x 4)) := KX.out.cell rfl; have k5 : w4.cell? ⟨w.heap.size, 5, none⟩ = some (.int .i64 (x 5)) := KX.out.cell rfl; have k6 : w4.cell? ⟨w.heap.size, 6, none⟩ = some (.int .i64 (x 6)) := KX.out.cell rfl; have k7 : w4.cell? ⟨w.heap.size, 7, none⟩ = some (.int .i64 (x 7)) := KX.out.cell rfl; have k8 : w4.cell? ⟨w.heap.size, 8, none⟩ = some (.int .i64 (x 8)) := KX.out.cell rfl))
  have e0 := fun p : Ext w4 => Ext.cell' k0 p
  have e1 := fun p : Ext w4 => Ext.cell' k1 p
  have e2 := fun p : Ext w4 => Ext.cell' k2 p
  have e3 := fun p : Ext w4 => Ext.cell' k3 p
  have e4 := fun p : Ext w4 => Ext.cell' k4 p
  have e5 := fun p : Ext w4 => Ext.cell' k5 p
  have e6 := fun p : Ext w4 => Ext.cell' k6 p
  have e7 := fun p : Ext w4 => Ext.cell' k7 p
  have e8 := fun p : Ext w4 => Ext.cell' k8 p
  (refine wp_region_quiet_ext (by kernel_rfl) (by kernel_rfl) ?_; (repeat (go_big_quiet_step ((first | (go_at_call 13; exact Calls.ext_of (PK.out _)) | (go_at_call 14; exact Calls.ext_of (RK.out _)) | (go_at_call 15; exact Calls.ext_of (AW.out _)))))); refine wpQuiet_nil ?_; rintro wq ⟨⟨_, hbq⟩, rfl⟩; obtain ⟨hccq, hffq⟩ := Bw.cells hbq; have hszq := Bw.size hbq)
  replace HBW := Lib.hid (HBW.out.trans hbq)
  go_wp2
  go_ret
  exact ⟨rfl, HBW.out⟩
end Go.Proofs.Sky
