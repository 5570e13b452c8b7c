/-
  lemmas for the theorems of this claim. No conditions beyond those written in the statements.
-/
import Derived.Test.YtiohoallllkagaaP31
set_option linter.unusedVariables false
set_option linter.unusedSimpArgs false
set_option linter.unnecessarySimpa false
namespace Go.Proofs.Sky
open Go Go.RowKit Go.Shelf
set_option maxHeartbeats 4000000
set_option maxRecDepth 4000
theorem Correct_bad (x : Nat → Int) (ln bb up ub : Int) (w : World) (h : errA x ≠ 0) :
    Calls Try.prog 16 #[.agg #[.int .i64 (x 0), .int .i64 (x 1), .int .i64 (x 2), .int .i64 (x 3), .int .i64 (x 4), .int .i64 (x 5), .int .i64 (x 6), .int .i64 (x 7), .int .i64 (x 8)], .int .i64 ln, .int .i64 bb, .int .i64 up, .int .i64 ub] w fun e w' => e = .returned (.tuple #[.int .i64 0, .int .i64 0, .int .i64 (errA x)]) ∧ Bw w w' := by
  have CK := Lib.hid (fun W => ACheck_any x W)
  have HBW := Lib.hid (Bw.alloc (Bw.refl w) (.cells (atV x) 25))
  have KX := Lib.hid (Blk.new w 25 (atV x))
  unfold atV at HBW KX
  have CKA := Lib.hid (show ∀ W1, Blk W1 w.heap.size 25 (atV x) → ∀ i, i < 9 → W1.cell? ⟨w.heap.size, i, none⟩ = some (.int .i64 (x i)) from fun W1 hB i hi => hB.cell (atV_at x i hi))
  generalize errA x = er at *
  have hne : (er != 0) = true := by simpa using h
  go_enter Try.func16, Try.ntmps16
  go_wp2_with (go_at_call 13; (with_reducible refine Calls.mono (CK.out _) ?_); rintro e1 w1 ⟨rfl, hb9⟩; replace HBW := Lib.hid (HBW.out.trans hb9); replace KX := Lib.hid (KX.out.bw hb9); clear hb9; have k0 : w1.cell? ⟨w.heap.size, 0, none⟩ = some (.int .i64 (x 0)) := CKA.out _ KX.out 0 (by omega); have k1 : w1.cell? ⟨w.heap.size, 1, none⟩ = some (.int .i64 (x 1)) := CKA.out _ KX.out 1 (by omega); have k2 : w1.cell? ⟨w.heap.size, 2, none⟩ = some (.int .i64 (x 2)) := CKA.out _ KX.out 2 (by omega); have k3 : w1.cell? ⟨w.heap.size, 3, none⟩ = some (.int .i64 (x 3)) := CKA.out _ KX.out 3 (by omega); have k4 : w1.cell? ⟨w.heap.size, 4, none⟩ = some (.int .i64 (x 4)) := CKA.out _ KX.out 4 (by omega); have k5 : w1.cell? ⟨w.heap.size, 5, none⟩ = some (.int .i64 (x 5)) := CKA.out _ KX.out 5 (by omega); have k6 : w1.cell? ⟨w.heap.size, 6, none⟩ = some (.int .i64 (x 6)) := CKA.out _ KX.out 6 (by omega); have k7 : w1.cell? ⟨w.heap.size, 7, none⟩ = some (.int .i64 (x 7)) := CKA.out _ KX.out 7 (by omega); have k8 : w1.cell? ⟨w.heap.size, 8, none⟩ = some (.int .i64 (x 8)) := CKA.out _ KX.out 8 (by omega))
  refine bodyPost_ret (v := .tuple #[.int .i64 0, .int .i64 0, .int .i64 er]) ?_ rfl ⟨rfl, HBW.out⟩
  simp [results, Try.results16, go_sem]
theorem Correct_range (x : Nat → Int) (ln bb up ub : Int) (w : World) (h : errA x = 0) (hr : ln < -10000000000000 ∨ 10000000000000 < ln ∨ bb < 0 ∨ 10000000000000 < bb ∨ ub < 0 ∨ 1073741824 < ub) :
    Calls Try.prog 16 #[.agg #[.int .i64 (x 0), .int .i64 (x 1), .int .i64 (x 2), .int .i64 (x 3), .int .i64 (x 4), .int .i64 (x 5), .int .i64 (x 6), .int .i64 (x 7), .int .i64 (x 8)], .int .i64 ln, .int .i64 bb, .int .i64 up, .int .i64 ub] w fun e w' => e = .returned (.tuple #[.int .i64 0, .int .i64 0, .int .i64 2]) ∧ Bw w w' := by
  have CK := Lib.hid (fun W => ACheck_any x W)
  have HBW := Lib.hid (Bw.alloc (Bw.refl w) (.cells (atV x) 25))
  have KX := Lib.hid (Blk.new w 25 (atV x))
  unfold atV at HBW KX
  have CKA := Lib.hid (show ∀ W1, Blk W1 w.heap.size 25 (atV x) → ∀ i, i < 9 → W1.cell? ⟨w.heap.size, i, none⟩ = some (.int .i64 (x i)) from fun W1 hB i hi => hB.cell (atV_at x i hi))
  rw [h] at CK
  by_cases q6 : ln < -10000000000000
  · clear hr
    go_enter Try.func16, Try.ntmps16
    go_wp2_with (go_at_call 13; (with_reducible refine Calls.mono (CK.out _) ?_); rintro e1 w1 ⟨rfl, hb9⟩; replace HBW := Lib.hid (HBW.out.trans hb9); replace KX := Lib.hid (KX.out.bw hb9); clear hb9; have k0 : w1.cell? ⟨w.heap.size, 0, none⟩ = some (.int .i64 (x 0)) := CKA.out _ KX.out 0 (by omega); have k1 : w1.cell? ⟨w.heap.size, 1, none⟩ = some (.int .i64 (x 1)) := CKA.out _ KX.out 1 (by omega); have k2 : w1.cell? ⟨w.heap.size, 2, none⟩ = some (.int .i64 (x 2)) := CKA.out _ KX.out 2 (by omega); have k3 : w1.cell? ⟨w.heap.size, 3, none⟩ = some (.int .i64 (x 3)) := CKA.out _ KX.out 3 (by omega); have k4 : w1.cell? ⟨w.heap.size, 4, none⟩ = some (.int .i64 (x 4)) := CKA.out _ KX.out 4 (by omega); have k5 : w1.cell? ⟨w.heap.size, 5, none⟩ = some (.int .i64 (x 5)) := CKA.out _ KX.out 5 (by omega); have k6 : w1.cell? ⟨w.heap.size, 6, none⟩ = some (.int .i64 (x 6)) := CKA.out _ KX.out 6 (by omega); have k7 : w1.cell? ⟨w.heap.size, 7, none⟩ = some (.int .i64 (x 7)) := CKA.out _ KX.out 7 (by omega); have k8 : w1.cell? ⟨w.heap.size, 8, none⟩ = some (.int .i64 (x 8)) := CKA.out _ KX.out 8 (by omega))
    refine bodyPost_ret (v := .tuple #[.int .i64 0, .int .i64 0, .int .i64 2]) ?_ rfl ⟨rfl, HBW.out⟩
    simp [results, Try.results16, go_sem]
  by_cases q12 : 10000000000000 < ln
  · clear hr
    go_enter Try.func16, Try.ntmps16
    go_wp2_with (go_at_call 13; (with_reducible refine Calls.mono (CK.out _) ?_); rintro e1 w1 ⟨rfl, hb9⟩; replace HBW := Lib.hid (HBW.out.trans hb9); replace KX := Lib.hid (KX.out.bw hb9); clear hb9; have k0 : w1.cell? ⟨w.heap.size, 0, none⟩ = some (.int .i64 (x 0)) := CKA.out _ KX.out 0 (by omega); have k1 : w1.cell? ⟨w.heap.size, 1, none⟩ = some (.int .i64 (x 1)) := CKA.out _ KX.out 1 (by omega); have k2 : w1.cell? ⟨w.heap.size, 2, none⟩ = some (.int .i64 (x 2)) := CKA.out _ KX.out 2 (by omega); have k3 : w1.cell? ⟨w.heap.size, 3, none⟩ = some (.int .i64 (x 3)) := CKA.out _ KX.out 3 (by omega); have k4 : w1.cell? ⟨w.heap.size, 4, none⟩ = some (.int .i64 (x 4)) := CKA.out _ KX.out 4 (by omega); have k5 : w1.cell? ⟨w.heap.size, 5, none⟩ = some (.int .i64 (x 5)) := CKA.out _ KX.out 5 (by omega); have k6 : w1.cell? ⟨w.heap.size, 6, none⟩ = some (.int .i64 (x 6)) := CKA.out _ KX.out 6 (by omega); have k7 : w1.cell? ⟨w.heap.size, 7, none⟩ = some (.int .i64 (x 7)) := CKA.out _ KX.out 7 (by omega); have k8 : w1.cell? ⟨w.heap.size, 8, none⟩ = some (.int .i64 (x 8)) := CKA.out _ KX.out 8 (by omega))
    refine bodyPost_ret (v := .tuple #[.int .i64 0, .int .i64 0, .int .i64 2]) ?_ rfl ⟨rfl, HBW.out⟩
    simp [results, Try.results16, go_sem]
  by_cases q18 : bb < 0
  · clear hr
    go_enter Try.func16, Try.ntmps16
    go_wp2_with (go_at_call 13; (with_reducible refine Calls.mono (CK.out _) ?_); rintro e1 w1 ⟨rfl, hb9⟩; replace HBW := Lib.hid (HBW.out.trans hb9); replace KX := Lib.hid (KX.out.bw hb9); clear hb9; have k0 : w1.cell? ⟨w.heap.size, 0, none⟩ = some (.int .i64 (x 0)) := CKA.out _ KX.out 0 (by omega); have k1 : w1.cell? ⟨w.heap.size, 1, none⟩ = some (.int .i64 (x 1)) := CKA.out _ KX.out 1 (by omega); have k2 : w1.cell? ⟨w.heap.size, 2, none⟩ = some (.int .i64 (x 2)) := CKA.out _ KX.out 2 (by omega); have k3 : w1.cell? ⟨w.heap.size, 3, none⟩ = some (.int .i64 (x 3)) := CKA.out _ KX.out 3 (by omega); have k4 : w1.cell? ⟨w.heap.size, 4, none⟩ = some (.int .i64 (x 4)) := CKA.out _ KX.out 4 (by omega); have k5 : w1.cell? ⟨w.heap.size, 5, none⟩ = some (.int .i64 (x 5)) := CKA.out _ KX.out 5 (by omega); have k6 : w1.cell? ⟨w.heap.size, 6, none⟩ = some (.int .i64 (x 6)) := CKA.out _ KX.out 6 (by omega); have k7 : w1.cell? ⟨w.heap.size, 7, none⟩ = some (.int .i64 (x 7)) := CKA.out _ KX.out 7 (by omega); have k8 : w1.cell? ⟨w.heap.size, 8, none⟩ = some (.int .i64 (x 8)) := CKA.out _ KX.out 8 (by omega))
    refine bodyPost_ret (v := .tuple #[.int .i64 0, .int .i64 0, .int .i64 2]) ?_ rfl ⟨rfl, HBW.out⟩
    simp [results, Try.results16, go_sem]
  by_cases q24 : 10000000000000 < bb
  · clear hr
    go_enter Try.func16, Try.ntmps16
    go_wp2_with (go_at_call 13; (with_reducible refine Calls.mono (CK.out _) ?_); rintro e1 w1 ⟨rfl, hb9⟩; replace HBW := Lib.hid (HBW.out.trans hb9); replace KX := Lib.hid (KX.out.bw hb9); clear hb9; have k0 : w1.cell? ⟨w.heap.size, 0, none⟩ = some (.int .i64 (x 0)) := CKA.out _ KX.out 0 (by omega); have k1 : w1.cell? ⟨w.heap.size, 1, none⟩ = some (.int .i64 (x 1)) := CKA.out _ KX.out 1 (by omega); have k2 : w1.cell? ⟨w.heap.size, 2, none⟩ = some (.int .i64 (x 2)) := CKA.out _ KX.out 2 (by omega); have k3 : w1.cell? ⟨w.heap.size, 3, none⟩ = some (.int .i64 (x 3)) := CKA.out _ KX.out 3 (by omega); have k4 : w1.cell? ⟨w.heap.size, 4, none⟩ = some (.int .i64 (x 4)) := CKA.out _ KX.out 4 (by omega); have k5 : w1.cell? ⟨w.heap.size, 5, none⟩ = some (.int .i64 (x 5)) := CKA.out _ KX.out 5 (by omega); have k6 : w1.cell? ⟨w.heap.size, 6, none⟩ = some (.int .i64 (x 6)) := CKA.out _ KX.out 6 (by omega); have k7 : w1.cell? ⟨w.heap.size, 7, none⟩ = some (.int .i64 (x 7)) := CKA.out _ KX.out 7 (by omega); have k8 : w1.cell? ⟨w.heap.size, 8, none⟩ = some (.int .i64 (x 8)) := CKA.out _ KX.out 8 (by omega))
    refine bodyPost_ret (v := .tuple #[.int .i64 0, .int .i64 0, .int .i64 2]) ?_ rfl ⟨rfl, HBW.out⟩
    simp [results, Try.results16, go_sem]
  by_cases q30 : ub < 0
  · clear hr
    go_enter Try.func16, Try.ntmps16
    go_wp2_with (go_at_call 13; (with_reducible refine Calls.mono (CK.out _) ?_); rintro e1 w1 ⟨rfl, hb9⟩; replace HBW := Lib.hid (HBW.out.trans hb9); replace KX := Lib.hid (KX.out.bw hb9); clear hb9; have k0 : w1.cell? ⟨w.heap.size, 0, none⟩ = some (.int .i64 (x 0)) := CKA.out _ KX.out 0 (by omega); have k1 : w1.cell? ⟨w.heap.size, 1, none⟩ = some (.int .i64 (x 1)) := CKA.out _ KX.out 1 (by omega); have k2 : w1.cell? ⟨w.heap.size, 2, none⟩ = some (.int .i64 (x 2)) := CKA.out _ KX.out 2 (by omega); have k3 : w1.cell? ⟨w.heap.size, 3, none⟩ = some (.int .i64 (x 3)) := CKA.out _ KX.out 3 (by omega); have k4 : w1.cell? ⟨w.heap.size, 4, none⟩ = some (.int .i64 (x 4)) := CKA.out _ KX.out 4 (by omega); have k5 : w1.cell? ⟨w.heap.size, 5, none⟩ = some (.int .i64 (x 5)) := CKA.out _ KX.out 5 (by omega); have k6 : w1.cell? ⟨w.heap.size, 6, none⟩ = some (.int .i64 (x 6)) := CKA.out _ KX.out 6 (by omega); have k7 : w1.cell? ⟨w.heap.size, 7, none⟩ = some (.int .i64 (x 7)) := CKA.out _ KX.out 7 (by omega); have k8 : w1.cell? ⟨w.heap.size, 8, none⟩ = some (.int .i64 (x 8)) := CKA.out _ KX.out 8 (by omega))
    refine bodyPost_ret (v := .tuple #[.int .i64 0, .int .i64 0, .int .i64 2]) ?_ rfl ⟨rfl, HBW.out⟩
    simp [results, Try.results16, go_sem]
  have q99 : 1073741824 < ub := by omega
  clear hr
  go_enter Try.func16, Try.ntmps16
  go_wp2_with (go_at_call 13; (with_reducible refine Calls.mono (CK.out _) ?_); rintro e1 w1 ⟨rfl, hb9⟩; replace HBW := Lib.hid (HBW.out.trans hb9); replace KX := Lib.hid (KX.out.bw hb9); clear hb9; have k0 : w1.cell? ⟨w.heap.size, 0, none⟩ = some (.int .i64 (x 0)) := CKA.out _ KX.out 0 (by omega); have k1 : w1.cell? ⟨w.heap.size, 1, none⟩ = some (.int .i64 (x 1)) := CKA.out _ KX.out 1 (by omega); have k2 : w1.cell? ⟨w.heap.size, 2, none⟩ = some (.int .i64 (x 2)) := CKA.out _ KX.out 2 (by omega); have k3 : w1.cell? ⟨w.heap.size, 3, none⟩ = some (.int .i64 (x 3)) := CKA.out _ KX.out 3 (by omega); have k4 : w1.cell? ⟨w.heap.size, 4, none⟩ = some (.int .i64 (x 4)) := CKA.out _ KX.out 4 (by omega); have k5 : w1.cell? ⟨w.heap.size, 5, none⟩ = some (.int .i64 (x 5)) := CKA.out _ KX.out 5 (by omega); have k6 : w1.cell? ⟨w.heap.size, 6, none⟩ = some (.int .i64 (x 6)) := CKA.out _ KX.out 6 (by omega); have k7 : w1.cell? ⟨w.heap.size, 7, none⟩ = some (.int .i64 (x 7)) := CKA.out _ KX.out 7 (by omega); have k8 : w1.cell? ⟨w.heap.size, 8, none⟩ = some (.int .i64 (x 8)) := CKA.out _ KX.out 8 (by omega))
  refine bodyPost_ret (v := .tuple #[.int .i64 0, .int .i64 0, .int .i64 2]) ?_ rfl ⟨rfl, HBW.out⟩
  simp [results, Try.results16, go_sem]
theorem Correct_up (x : Nat → Int) (ln bb up ub : Int) (w : World) (h : errA x = 0) (hr : -10000000000000 ≤ ln ∧ ln ≤ 10000000000000 ∧ 0 ≤ bb ∧ bb ≤ 10000000000000 ∧ 0 ≤ ub ∧ ub ≤ 1073741824) (hu : up < 0 ∨ 1073741824 < up) :
    Calls Try.prog 16 #[.agg #[.int .i64 (x 0), .int .i64 (x 1), .int .i64 (x 2), .int .i64 (x 3), .int .i64 (x 4), .int .i64 (x 5), .int .i64 (x 6), .int .i64 (x 7), .int .i64 (x 8)], .int .i64 ln, .int .i64 bb, .int .i64 up, .int .i64 ub] w fun e w' => e = .returned (.tuple #[.int .i64 0, .int .i64 0, .int .i64 2]) ∧ Bw w w' := by
  have CK := Lib.hid (fun W => ACheck_any x W)
  have HBW := Lib.hid (Bw.alloc (Bw.refl w) (.cells (atV x) 25))
  have KX := Lib.hid (Blk.new w 25 (atV x))
  unfold atV at HBW KX
  have CKA := Lib.hid (show ∀ W1, Blk W1 w.heap.size 25 (atV x) → ∀ i, i < 9 → W1.cell? ⟨w.heap.size, i, none⟩ = some (.int .i64 (x i)) from fun W1 hB i hi => hB.cell (atV_at x i hi))
  rw [h] at CK
  have DL := Lib.hid (fun W => Delay_range x up W h hu)
  have hne : ((2 : Int) != 0) = true := by decide
  have q1 : ¬ ln < -10000000000000 := by omega
  have q2 : ¬ 10000000000000 < ln := by omega
  have q3 : ¬ bb < 0 := by omega
  have q4 : ¬ 10000000000000 < bb := by omega
  have q5 : ¬ ub < 0 := by omega
  have q6 : ¬ 1073741824 < ub := by omega
  clear hu
  go_enter Try.func16, Try.ntmps16
  go_wp2_with (first | (go_at_call 13; (with_reducible refine Calls.mono (CK.out _) ?_); rintro e1 w1 ⟨rfl, hb9⟩; replace HBW := Lib.hid (HBW.out.trans hb9); replace KX := Lib.hid (KX.out.bw hb9); clear hb9; have k0 : w1.cell? ⟨w.heap.size, 0, none⟩ = some (.int .i64 (x 0)) := CKA.out _ KX.out 0 (by omega); have k1 : w1.cell? ⟨w.heap.size, 1, none⟩ = some (.int .i64 (x 1)) := CKA.out _ KX.out 1 (by omega); have k2 : w1.cell? ⟨w.heap.size, 2, none⟩ = some (.int .i64 (x 2)) := CKA.out _ KX.out 2 (by omega); have k3 : w1.cell? ⟨w.heap.size, 3, none⟩ = some (.int .i64 (x 3)) := CKA.out _ KX.out 3 (by omega); have k4 : w1.cell? ⟨w.heap.size, 4, none⟩ = some (.int .i64 (x 4)) := CKA.out _ KX.out 4 (by omega); have k5 : w1.cell? ⟨w.heap.size, 5, none⟩ = some (.int .i64 (x 5)) := CKA.out _ KX.out 5 (by omega); have k6 : w1.cell? ⟨w.heap.size, 6, none⟩ = some (.int .i64 (x 6)) := CKA.out _ KX.out 6 (by omega); have k7 : w1.cell? ⟨w.heap.size, 7, none⟩ = some (.int .i64 (x 7)) := CKA.out _ KX.out 7 (by omega); have k8 : w1.cell? ⟨w.heap.size, 8, none⟩ = some (.int .i64 (x 8)) := CKA.out _ KX.out 8 (by omega)) | (go_at_call 9; (with_reducible refine Calls.mono (DL.out _) ?_); rintro e1 w2 ⟨rfl, hb9⟩; replace HBW := Lib.hid (HBW.out.trans hb9); replace KX := Lib.hid (KX.out.bw hb9); clear hb9; clear k0 k1 k2 k3 k4 k5 k6 k7 k8; have k0 : w2.cell? ⟨w.heap.size, 0, none⟩ = some (.int .i64 (x 0)) := CKA.out _ KX.out 0 (by omega); have k1 : w2.cell? ⟨w.heap.size, 1, none⟩ = some (.int .i64 (x 1)) := CKA.out _ KX.out 1 (by omega); have k2 : w2.cell? ⟨w.heap.size, 2, none⟩ = some (.int .i64 (x 2)) := CKA.out _ KX.out 2 (by omega); have k3 : w2.cell? ⟨w.heap.size, 3, none⟩ = some (.int .i64 (x 3)) := CKA.out _ KX.out 3 (by omega); have k4 : w2.cell? ⟨w.heap.size, 4, none⟩ = some (.int .i64 (x 4)) := CKA.out _ KX.out 4 (by omega); have k5 : w2.cell? ⟨w.heap.size, 5, none⟩ = some (.int .i64 (x 5)) := CKA.out _ KX.out 5 (by omega); have k6 : w2.cell? ⟨w.heap.size, 6, none⟩ = some (.int .i64 (x 6)) := CKA.out _ KX.out 6 (by omega); have k7 : w2.cell? ⟨w.heap.size, 7, none⟩ = some (.int .i64 (x 7)) := CKA.out _ KX.out 7 (by omega); have k8 : w2.cell? ⟨w.heap.size, 8, none⟩ = some (.int .i64 (x 8)) := CKA.out _ KX.out 8 (by omega)))
  refine bodyPost_ret (v := .tuple #[.int .i64 0, .int .i64 0, .int .i64 2]) ?_ rfl ⟨rfl, HBW.out⟩
  simp [results, Try.results16, go_sem]
theorem Correct_ok (x : Nat → Int) (ln bb up ub : Int) (w : World) (h : errA x = 0) (hr : -10000000000000 ≤ ln ∧ ln ≤ 10000000000000 ∧ 0 ≤ bb ∧ bb ≤ 10000000000000 ∧ 0 ≤ ub ∧ ub ≤ 1073741824) (hu : 0 ≤ up ∧ up ≤ 1073741824) :
    Calls Try.prog 16 #[.agg #[.int .i64 (x 0), .int .i64 (x 1), .int .i64 (x 2), .int .i64 (x 3), .int .i64 (x 4), .int .i64 (x 5), .int .i64 (x 6), .int .i64 (x 7), .int .i64 (x 8)], .int .i64 ln, .int .i64 bb, .int .i64 up, .int .i64 ub] w fun e w' => e = .returned (.tuple #[.int .i64 (ln - rndH (hsum x (zD up) 4 4) 90 - rndH (hsum (fun i => x (4 + i)) (zD up) 3 3) 60), .int .i64 (bb + x 7 + x 8 + (slopeN x * ub + 1073741824 - 1) / 1073741824 + 2), .int .i64 0]) ∧ Bw w w' := by
  have CK := Lib.hid (fun W => ACheck_any x W)
  have HBW := Lib.hid (Bw.alloc (Bw.refl w) (.cells (atV x) 25))
  have KX := Lib.hid (Blk.new w 25 (atV x))
  unfold atV at HBW KX
  have CKA := Lib.hid (show ∀ W1, Blk W1 w.heap.size 25 (atV x) → ∀ i, i < 9 → W1.cell? ⟨w.heap.size, i, none⟩ = some (.int .i64 (x i)) from fun W1 hB i hi => hB.cell (atV_at x i hi))
  rw [h] at CK
  have hxb := errA_bd h
  have DL := Lib.hid (fun W => Delay_ok x up W h hu.1 hu.2)
  have SL := Lib.hid (fun W => slope_any x W hxb)
  have hi9 := rnd90 _ (hsum_bd (fun i => if i < 4 then x i else 0) (zD up) 4 (fun i => by by_cases hi : i < 4 <;> simp [hi]; exact hxb i (by omega)) (by unfold zD; omega) 4)
  have ht9 := rnd60 _ (hsum_bd (fun i => if i < 3 then x (4 + i) else 0) (zD up) 3 (fun i => by by_cases hi : i < 3 <;> simp [hi]; exact hxb (4 + i) (by omega)) (by unfold zD; omega) 3)
  rw [show hsum (fun i => if i < 4 then x i else 0) (zD up) 4 4 = hsum x (zD up) 4 4 by simp [hsum]] at hi9
  rw [show hsum (fun i => if i < 3 then x (4 + i) else 0) (zD up) 3 3 = hsum (fun i => x (4 + i)) (zD up) 3 3 by simp [hsum]] at ht9
  generalize rndH (hsum x (zD up) 4 4) 90 = r1 at *
  generalize rndH (hsum (fun i => x (4 + i)) (zD up) 3 3) 60 = r2 at *
  have hs0 := sl_bd x 0 4 (by omega) (fun j hj => hxb (0 + j) (by omega))
  have hs1 := sl_bd x 4 3 (by omega) (fun j hj => hxb (4 + j) (by omega))
  have hsn : 0 ≤ slopeN x ∧ slopeN x ≤ 21000000 := by unfold slopeN; omega
  have hx7 := hxb 7 (by omega)
  have hx8 := hxb 8 (by omega)
  generalize slopeN x = sn at *
  have hmu := mul_bd3 sn ub 21000000 1073741824 (by omega) (by omega) (by omega) (by omega)
  have hmn : 0 ≤ sn * ub := Int.mul_nonneg (by omega) (by omega)
  clear hxb hs0 hs1 h
  have q1 : ¬ ln < -10000000000000 := by omega
  have q2 : ¬ 10000000000000 < ln := by omega
  have q3 : ¬ bb < 0 := by omega
  have q4 : ¬ 10000000000000 < bb := by omega
  have q5 : ¬ ub < 0 := by omega
  have q6 : ¬ 1073741824 < ub := by omega
  clear hu
  go_enter Try.func16, Try.ntmps16
  go_upto_region 9 with (first | (go_at_call 13; (with_reducible refine Calls.mono (CK.out _) ?_); rintro e1 w1 ⟨rfl, hb9⟩; replace HBW := Lib.hid (HBW.out.trans hb9); replace KX := Lib.hid (KX.out.bw hb9); clear hb9; have k0 : w1.cell? ⟨w.heap.size, 0, none⟩ = some (.int .i64 (x 0)) := CKA.out _ KX.out 0 (by omega); have k1 : w1.cell? ⟨w.heap.size, 1, none⟩ = some (.int .i64 (x 1)) := CKA.out _ KX.out 1 (by omega); have k2 : w1.cell? ⟨w.heap.size, 2, none⟩ = some (.int .i64 (x 2)) := CKA.out _ KX.out 2 (by omega); have k3 : w1.cell? ⟨w.heap.size, 3, none⟩ = some (.int .i64 (x 3)) := CKA.out _ KX.out 3 (by omega); have k4 : w1.cell? ⟨w.heap.size, 4, none⟩ = some (.int .i64 (x 4)) := CKA.out _ KX.out 4 (by omega); have k5 : w1.cell? ⟨w.heap.size, 5, none⟩ = some (.int .i64 (x 5)) := CKA.out _ KX.out 5 (by omega); have k6 : w1.cell? ⟨w.heap.size, 6, none⟩ = some (.int .i64 (x 6)) := CKA.out _ KX.out 6 (by omega); have k7 : w1.cell? ⟨w.heap.size, 7, none⟩ = some (.int .i64 (x 7)) := CKA.out _ KX.out 7 (by omega); have k8 : w1.cell? ⟨w.heap.size, 8, none⟩ = some (.int .i64 (x 8)) := CKA.out _ KX.out 8 (by omega)) | (go_at_call 9; (with_reducible refine Calls.mono (DL.out _) ?_); rintro e1 w2 ⟨rfl, hb9⟩; replace HBW := Lib.hid (HBW.out.trans hb9); replace KX := Lib.hid (KX.out.bw hb9); clear hb9; clear k0 k1 k2 k3 k4 k5 k6 k7 k8; have k0 : w2.cell? ⟨w.heap.size, 0, none⟩ = some (.int .i64 (x 0)) := CKA.out _ KX.out 0 (by omega); have k1 : w2.cell? ⟨w.heap.size, 1, none⟩ = some (.int .i64 (x 1)) := CKA.out _ KX.out 1 (by omega); have k2 : w2.cell? ⟨w.heap.size, 2, none⟩ = some (.int .i64 (x 2)) := CKA.out _ KX.out 2 (by omega); have k3 : w2.cell? ⟨w.heap.size, 3, none⟩ = some (.int .i64 (x 3)) := CKA.out _ KX.out 3 (by omega); have k4 : w2.cell? ⟨w.heap.size, 4, none⟩ = some (.int .i64 (x 4)) := CKA.out _ KX.out 4 (by omega); have k5 : w2.cell? ⟨w.heap.size, 5, none⟩ = some (.int .i64 (x 5)) := CKA.out _ KX.out 5 (by omega); have k6 : w2.cell? ⟨w.heap.size, 6, none⟩ = some (.int .i64 (x 6)) := CKA.out _ KX.out 6 (by omega); have k7 : w2.cell? ⟨w.heap.size, 7, none⟩ = some (.int .i64 (x 7)) := CKA.out _ KX.out 7 (by omega); have k8 : w2.cell? ⟨w.heap.size, 8, none⟩ = some (.int .i64 (x 8)) := CKA.out _ KX.out 8 (by omega)))
  have e0 := fun p' : Ext w2 => Ext.cell' k0 p'
  have e1 := fun p' : Ext w2 => Ext.cell' k1 p'
  have e2 := fun p' : Ext w2 => Ext.cell' k2 p'
  have e3 := fun p' : Ext w2 => Ext.cell' k3 p'
  have e4 := fun p' : Ext w2 => Ext.cell' k4 p'
  have e5 := fun p' : Ext w2 => Ext.cell' k5 p'
  have e6 := fun p' : Ext w2 => Ext.cell' k6 p'
  have e7 := fun p' : Ext w2 => Ext.cell' k7 p'
  have e8 := fun p' : Ext w2 => Ext.cell' k8 p'
  clear k0 k1 k2 k3 k4 k5 k6 k7 k8
  (refine wp_region_quiet_ext (by kernel_rfl) (by kernel_rfl) ?_; (repeat (go_big_quiet_step ((go_at_call 35; with_reducible refine Calls.ext_of (SL.out _))))); refine wpQuiet_nil ?_; rintro wq ⟨⟨_, hbq⟩, rfl⟩; obtain ⟨hccq, hffq⟩ := Bw.cells hbq; have hszq := Bw.size hbq)
  replace HBW := Lib.hid (HBW.out.trans hbq)
  go_wp2
  refine bodyPost_ret (v := .tuple #[.int .i64 (ln - r1 - r2), .int .i64 (bb + x 7 + x 8 + (sn * ub + 1073741824 - 1) / 1073741824 + 2), .int .i64 0]) ?_ rfl ⟨rfl, HBW.out⟩
  simp [results, Try.results16, go_sem]
end Go.Proofs.Sky
