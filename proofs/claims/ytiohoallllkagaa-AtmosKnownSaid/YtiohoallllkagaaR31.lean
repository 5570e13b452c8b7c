/-
  lemmas for the theorems of this claim. No conditions beyond those written in the statements.
-/
import Derived.Test.YtiohoallllkagaaP31
import Derived.Test.YtiohoallllkagaaKit
set_option linter.unusedVariables false
set_option linter.unusedSimpArgs false
set_option linter.unnecessarySimpa false
namespace Go.Proofs.Sky
open Go Go.RowKit Go.Shelf
set_option maxHeartbeats 4000000
set_option maxRecDepth 4000
theorem Correct_bad (x : Nat → Int) (ln bb up ub : Int) (w : World) (h : errA x ≠ 0) :
    Calls Try.prog 16 #[.agg #[.int .i64 (x 0), .int .i64 (x 1), .int .i64 (x 2), .int .i64 (x 3), .int .i64 (x 4), .int .i64 (x 5), .int .i64 (x 6), .int .i64 (x 7), .int .i64 (x 8)], .int .i64 ln, .int .i64 bb, .int .i64 up, .int .i64 ub] w fun e w' => e = .returned (.tuple #[.int .i64 0, .int .i64 0, .int .i64 (errA x)]) ∧ Bw w w' := by
  have CK := Lib.hid (fun W => ACheck_any x W)
  have HBW := Lib.hid (Bw.alloc (Bw.refl w) (.cells (atV x) 25))
  have KX := Lib.hid (Blk.new w 25 (atV x))
  unfold atV at HBW KX
  have CKA := Lib.hid (show ∀ W1, Blk W1 w.heap.size 25 (atV x) → ∀ i, i < 9 → W1.cell? ⟨w.heap.size, i, none⟩ = some (.int .i64 (x i)) from fun W1 hB i hi => hB.cell (atV_at x i hi))
  generalize errA x = er at *
  have hne : (er != 0) = true := by simpa using h
  go_enter Try.func16, Try.ntmps16
  go_wp2_with (go_at_call 13; (with_reducible refine Calls.mono (CK.out _) ?_); rintro e1 w1 ⟨rfl, hb9⟩; replace HBW := Lib.hid (HBW.out.trans hb9); replace KX := Lib.hid (KX.out.bw hb9); clear hb9; have k0 : w1.cell? ⟨w.heap.size, 0, none⟩ = some (.int .i64 (x 0)) := CKA.out _ KX.out 0 (by omega); have k1 : w1.cell? ⟨w.heap.size, 1, none⟩ = some (.int .i64 (x 1)) := CKA.out _ KX.out 1 (by omega); have k2 : w1.cell? ⟨w.heap.size, 2, none⟩ = some (.int .i64 (x 2)) := CKA.out _ KX.out 2 (by omega); have k3 : w1.cell? ⟨w.heap.size, 3, none⟩ = some (.int .i64 (x 3)) := CKA.out _ KX.out 3 (by omega); have k4 : w1.cell? ⟨w.heap.size, 4, none⟩ = some (.int .i64 (x 4)) := CKA.out _ KX.out 4 (by omega); have k5 : w1.cell? ⟨w.heap.size, 5, none⟩ = some (.int .i64 (x 5)) := CKA.out _ KX.out 5 (by omega); have k6 : w1.cell? ⟨w.heap.size, 6, none⟩ = some (.int .i64 (x 6)) := CKA.out _ KX.out 6 (by omega); have k7 : w1.cell? ⟨w.heap.size, 7, none⟩ = some (.int .i64 (x 7)) := CKA.out _ KX.out 7 (by omega); have k8 : w1.cell? ⟨w.heap.size, 8, none⟩ = some (.int .i64 (x 8)) := CKA.out _ KX.out 8 (by omega))
  refine bodyPost_ret (v := .tuple #[.int .i64 0, .int .i64 0, .int .i64 er]) ?_ rfl ⟨rfl, HBW.out⟩
  simp [results, Try.results16, go_sem]
theorem Correct_range (x : Nat → Int) (ln bb up ub : Int) (w : World) (h : errA x = 0) (hr : ln < -10000000000000 ∨ 10000000000000 < ln ∨ bb < 0 ∨ 10000000000000 < bb ∨ ub < 0 ∨ 1073741824 < ub) :
    Calls Try.prog 16 #[.agg #[.int .i64 (x 0), .int .i64 (x 1), .int .i64 (x 2), .int .i64 (x 3), .int .i64 (x 4), .int .i64 (x 5), .int .i64 (x 6), .int .i64 (x 7), .int .i64 (x 8)], .int .i64 ln, .int .i64 bb, .int .i64 up, .int .i64 ub] w fun e w' => e = .returned (.tuple #[.int .i64 0, .int .i64 0, .int .i64 2]) ∧ Bw w w' := by
  have CK := Lib.hid (fun W => ACheck_any x W)
  have HBW := Lib.hid (Bw.alloc (Bw.refl w) (.cells (atV x) 25))
  have KX := Lib.hid (Blk.new w 25 (atV x))
  unfold atV at HBW KX
  have CKA := Lib.hid (show ∀ W1, Blk W1 w.heap.size 25 (atV x) → ∀ i, i < 9 → W1.cell? ⟨w.heap.size, i, none⟩ = some (.int .i64 (x i)) from fun W1 hB i hi => hB.cell (atV_at x i hi))
  rw [h] at CK
  by_cases q6 : ln < -10000000000000
  · clear hr
    go_enter Try.func16, Try.ntmps16
    go_wp2_with (go_at_call 13; (with_reducible refine Calls.mono (CK.out _) ?_); rintro e1 w1 ⟨rfl, hb9⟩; replace HBW := Lib.hid (HBW.out.trans hb9); replace KX := Lib.hid (KX.out.bw hb9); clear hb9; have k0 : w1.cell? ⟨w.heap.size, 0, none⟩ = some (.int .i64 (x 0)) := CKA.out _ KX.out 0 (by omega); have k1 : w1.cell? ⟨w.heap.size, 1, none⟩ = some (.int .i64 (x 1)) := CKA.out _ KX.out 1 (by omega); have k2 : w1.cell? ⟨w.heap.size, 2, none⟩ = some (.int .i64 (x 2)) := CKA.out _ KX.out 2 (by omega); have k3 : w1.cell? ⟨w.heap.size, 3, none⟩ = some (.int .i64 (x 3)) := CKA.out _ KX.out 3 (by omega); have k4 : w1.cell? ⟨w.heap.size, 4, none⟩ = some (.int .i64 (x 4)) := CKA.out _ KX.out 4 (by omega); have k5 : w1.cell? ⟨w.heap.size, 5, none⟩ = some (.int .i64 (x 5)) := CKA.out _ KX.out 5 (by omega); have k6 : w1.cell? ⟨w.heap.size, 6, none⟩ = some (.int .i64 (x 6)) := CKA.out _ KX.out 6 (by omega); have k7 : w1.cell? ⟨w.heap.size, 7, none⟩ = some (.int .i64 (x 7)) := CKA.out _ KX.out 7 (by omega); have k8 : w1.cell? ⟨w.heap.size, 8, none⟩ = some (.int .i64 (x 8)) := CKA.out _ KX.out 8 (by omega))
    refine bodyPost_ret (v := .tuple #[.int .i64 0, .int .i64 0, .int .i64 2]) ?_ rfl ⟨rfl, HBW.out⟩
    simp [results, Try.results16, go_sem]
  by_cases q12 : 10000000000000 < ln
  · clear hr
    go_enter Try.func16, Try.ntmps16
    go_wp2_with (go_at_call 13; (with_reducible refine Calls.mono (CK.out _) ?_); rintro e1 w1 ⟨rfl, hb9⟩; replace HBW := Lib.hid (HBW.out.trans hb9); replace KX := Lib.hid (KX.out.bw hb9); clear hb9; have k0 : w1.cell? ⟨w.heap.size, 0, none⟩ = some (.int .i64 (x 0)) := CKA.out _ KX.out 0 (by omega); have k1 : w1.cell? ⟨w.heap.size, 1, none⟩ = some (.int .i64 (x 1)) := CKA.out _ KX.out 1 (by omega); have k2 : w1.cell? ⟨w.heap.size, 2, none⟩ = some (.int .i64 (x 2)) := CKA.out _ KX.out 2 (by omega); have k3 : w1.cell? ⟨w.heap.size, 3, none⟩ = some (.int .i64 (x 3)) := CKA.out _ KX.out 3 (by omega); have k4 : w1.cell? ⟨w.heap.size, 4, none⟩ = some (.int .i64 (x 4)) := CKA.out _ KX.out 4 (by omega); have k5 : w1.cell? ⟨w.heap.size, 5, none⟩ = some (.int .i64 (x 5)) := CKA.out _ KX.out 5 (by omega); have k6 : w1.cell? ⟨w.heap.size, 6, none⟩ = some (.int .i64 (x 6)) := CKA.out _ KX.out 6 (by omega); have k7 : w1.cell? ⟨w.heap.size, 7, none⟩ = some (.int .i64 (x 7)) := CKA.out _ KX.out 7 (by omega); have k8 : w1.cell? ⟨w.heap.size, 8, none⟩ = some (.int .i64 (x 8)) := CKA.out _ KX.out 8 (by omega))
    refine bodyPost_ret (v := .tuple #[.int .i64 0, .int .i64 0, .int .i64 2]) ?_ rfl ⟨rfl, HBW.out⟩
    simp [results, Try.results16, go_sem]
  by_cases q18 : bb < 0
  · clear hr
    go_enter Try.func16, Try.ntmps16
    go_wp2_with (go_at_call 13; (with_reducible refine Calls.mono (CK.out _) ?_); rintro e1 w1 ⟨rfl, hb9⟩; replace HBW := Lib.hid (HBW.out.trans hb9); replace KX := Lib.hid (KX.out.bw hb9); clear hb9; have k0 : w1.cell? ⟨w.heap.size, 0, none⟩ = some (.int .i64 (x 0)) := CKA.out _ KX.out 0 (by omega); have k1 : w1.cell? ⟨w.heap.size, 1, none⟩ = some (.int .i64 (x 1)) := CKA.out _ KX.out 1 (by omega); have k2 : w1.cell? ⟨w.heap.size, 2, none⟩ = some (.int .i64 (x 2)) := CKA.out _ KX.out 2 (by omega); have k3 : w1.cell? ⟨w.heap.size, 3, none⟩ = some (.int .i64 (x 3)) := CKA.out _ KX.out 3 (by omega); have k4 : w1.cell? ⟨w.heap.size, 4, none⟩ = some (.int .i64 (x 4)) := CKA.out _ KX.out 4 (by omega); have k5 : w1.cell? ⟨w.heap.size, 5, none⟩ = some (.int .i64 (x 5)) := CKA.out _ KX.out 5 (by omega); have k6 : w1.cell? ⟨w.heap.size, 6, none⟩ = some (.int .i64 (x 6)) := CKA.out _ KX.out 6 (by omega); have k7 : w1.cell? ⟨w.heap.size, 7, none⟩ = some (.int .i64 (x 7)) := CKA.out _ KX.out 7 (by omega); have k8 : w1.cell? ⟨w.heap.size, 8, none⟩ = some (.int .i64 (x 8)) := CKA.out _ KX.out 8 (by omega))
    refine bodyPost_ret (v := .tuple #[.int .i64 0, .int .i64 0, .int .i64 2]) ?_ rfl ⟨rfl, HBW.out⟩
    simp [results, Try.results16, go_sem]
  by_cases q24 : 10000000000000 < bb
  · clear hr
    go_enter Try.func16, Try.ntmps16
    go_wp2_with (go_at_call 13; (with_reducible refine Calls.mono (CK.out _) ?_); rintro e1 w1 ⟨rfl, hb9⟩; replace HBW := Lib.hid (HBW.out.trans hb9); replace KX := Lib.hid (KX.out.bw hb9); clear hb9; have k0 : w1.cell? ⟨w.heap.size, 0, none⟩ = some (.int .i64 (x 0)) := CKA.out _ KX.out 0 (by omega); have k1 : w1.cell? ⟨w.heap.size, 1, none⟩ = some (.int .i64 (x 1)) := CKA.out _ KX.out 1 (by omega); have k2 : w1.cell? ⟨w.heap.size, 2, none⟩ = some (.int .i64 (x 2)) := CKA.out _ KX.out 2 (by omega); have k3 : w1.cell? ⟨w.heap.size, 3, none⟩ = some (.int .i64 (x 3)) := CKA.out _ KX.out 3 (by omega); have k4 : w1.cell? ⟨w.heap.size, 4, none⟩ = some (.int .i64 (x 4)) := CKA.out _ KX.out 4 (by omega); have k5 : w1.cell? ⟨w.heap.size, 5, none⟩ = some (.int .i64 (x 5)) := CKA.out _ KX.out 5 (by omega); have k6 : w1.cell? ⟨w.heap.size, 6, none⟩ = some (.int .i64 (x 6)) := CKA.out _ KX.out 6 (by omega); have k7 : w1.cell? ⟨w.heap.size, 7, none⟩ = some (.int .i64 (x 7)) := CKA.out _ KX.out 7 (by omega); have k8 : w1.cell? ⟨w.heap.size, 8, none⟩ = some (.int .i64 (x 8)) := CKA.out _ KX.out 8 (by omega))
    refine bodyPost_ret (v := .tuple #[.int .i64 0, .int .i64 0, .int .i64 2]) ?_ rfl ⟨rfl, HBW.out⟩
    simp [results, Try.results16, go_sem]
  by_cases q30 : ub < 0
  · clear hr
    go_enter Try.func16, Try.ntmps16
    go_wp2_with (go_at_call 13; (with_reducible refine Calls.mono (CK.out _) ?_); rintro e1 w1 ⟨rfl, hb9⟩; replace HBW := Lib.hid (HBW.out.trans hb9); replace KX := Lib.hid (KX.out.bw hb9); clear hb9; have k0 : w1.cell? ⟨w.heap.size, 0, none⟩ = some (.int .i64 (x 0)) := CKA.out _ KX.out 0 (by omega); have k1 : w1.cell? ⟨w.heap.size, 1, none⟩ = some (.int .i64 (x 1)) := CKA.out _ KX.out 1 (by omega); have k2 : w1.cell? ⟨w.heap.size, 2, none⟩ = some (.int .i64 (x 2)) := CKA.out _ KX.out 2 (by omega); have k3 : w1.cell? ⟨w.heap.size, 3, none⟩ = some (.int .i64 (x 3)) := CKA.out _ KX.out 3 (by omega); have k4 : w1.cell? ⟨w.heap.size, 4, none⟩ = some (.int .i64 (x 4)) := CKA.out _ KX.out 4 (by omega); have k5 : w1.cell? ⟨w.heap.size, 5, none⟩ = some (.int .i64 (x 5)) := CKA.out _ KX.out 5 (by omega); have k6 : w1.cell? ⟨w.heap.size, 6, none⟩ = some (.int .i64 (x 6)) := CKA.out _ KX.out 6 (by omega); have k7 : w1.cell? ⟨w.heap.size, 7, none⟩ = some (.int .i64 (x 7)) := CKA.out _ KX.out 7 (by omega); have k8 : w1.cell? ⟨w.heap.size, 8, none⟩ = some (.int .i64 (x 8)) := CKA.out _ KX.out 8 (by omega))
    refine bodyPost_ret (v := .tuple #[.int .i64 0, .int .i64 0, .int .i64 2]) ?_ rfl ⟨rfl, HBW.out⟩
    simp [results, Try.results16, go_sem]
  have q99 : 1073741824 < ub := by omega
  clear hr
  go_enter Try.func16, Try.ntmps16
  go_wp2_with (go_at_call 13; (with_reducible refine Calls.mono (CK.out _) ?_); rintro e1 w1 ⟨rfl, hb9⟩; replace HBW := Lib.hid (HBW.out.trans hb9); replace KX := Lib.hid (KX.out.bw hb9); clear hb9; have k0 : w1.cell? ⟨w.heap.size, 0, none⟩ = some (.int .i64 (x 0)) := CKA.out _ KX.out 0 (by omega); have k1 : w1.cell? ⟨w.heap.size, 1, none⟩ = some (.int .i64 (x 1)) := CKA.out _ KX.out 1 (by omega); have k2 : w1.cell? ⟨w.heap.size, 2, none⟩ = some (.int .i64 (x 2)) := CKA.out _ KX.out 2 (by omega); have k3 : w1.cell? ⟨w.heap.size, 3, none⟩ = some (.int .i64 (x 3)) := CKA.out _ KX.out 3 (by omega); have k4 : w1.cell? ⟨w.heap.size, 4, none⟩ = some (.int .i64 (x 4)) := CKA.out _ KX.out 4 (by omega); have k5 : w1.cell? ⟨w.heap.size, 5, none⟩ = some (.int .i64 (x 5)) := CKA.out _ KX.out 5 (by omega); have k6 : w1.cell? ⟨w.heap.size, 6, none⟩ = some (.int .i64 (x 6)) := CKA.out _ KX.out 6 (by omega); have k7 : w1.cell? ⟨w.heap.size, 7, none⟩ = some (.int .i64 (x 7)) := CKA.out _ KX.out 7 (by omega); have k8 : w1.cell? ⟨w.heap.size, 8, none⟩ = some (.int .i64 (x 8)) := CKA.out _ KX.out 8 (by omega))
  refine bodyPost_ret (v := .tuple #[.int .i64 0, .int .i64 0, .int .i64 2]) ?_ rfl ⟨rfl, HBW.out⟩
  simp [results, Try.results16, go_sem]
theorem Correct_up (x : Nat → Int) (ln bb up ub : Int) (w : World) (h : errA x = 0) (hr : -10000000000000 ≤ ln ∧ ln ≤ 10000000000000 ∧ 0 ≤ bb ∧ bb ≤ 10000000000000 ∧ 0 ≤ ub ∧ ub ≤ 1073741824) (hu : up < 0 ∨ 1073741824 < up) :
    Calls Try.prog 16 #[.agg #[.int .i64 (x 0), .int .i64 (x 1), .int .i64 (x 2), .int .i64 (x 3), .int .i64 (x 4), .int .i64 (x 5), .int .i64 (x 6), .int .i64 (x 7), .int .i64 (x 8)], .int .i64 ln, .int .i64 bb, .int .i64 up, .int .i64 ub] w fun e w' => e = .returned (.tuple #[.int .i64 0, .int .i64 0, .int .i64 2]) ∧ Bw w w' := by
  have CK := Lib.hid (fun W => ACheck_any x W)
  have HBW := Lib.hid (Bw.alloc (Bw.refl w) (.cells (atV x) 25))
  have KX := Lib.hid (Blk.new w 25 (atV x))
  unfold atV at HBW KX
  have CKA := Lib.hid (show ∀ W1, Blk W1 w.heap.size 25 (atV x) → ∀ i, i < 9 → W1.cell? ⟨w.heap.size, i, none⟩ = some (.int .i64 (x i)) from fun W1 hB i hi => hB.cell (atV_at x i hi))
  rw [h] at CK
  have DL := Lib.hid (fun W => Delay_range x up W h hu)
  have hne : ((2 : Int) != 0) = true := by decide
  have q1 : ¬ ln < -10000000000000 := by omega
  have q2 : ¬ 10000000000000 < ln := by omega
  have q3 : ¬ bb < 0 := by omega
  have q4 : ¬ 10000000000000 < bb := by omega
  have q5 : ¬ ub < 0 := by omega
  have q6 : ¬ 1073741824 < ub := by omega
  clear hu
  go_enter Try.func16, Try.ntmps16
  go_wp2_with (first | (go_at_call 13; (with_reducible refine Calls.mono (CK.out _) ?_); rintro e1 w1 ⟨rfl, hb9⟩; replace HBW := Lib.hid (HBW.out.trans hb9); replace KX := Lib.hid (KX.out.bw hb9); clear hb9; have k0 : w1.cell? ⟨w.heap.size, 0, none⟩ = some (.int .i64 (x 0)) := CKA.out _ KX.out 0 (by omega); have k1 : w1.cell? ⟨w.heap.size, 1, none⟩ = some (.int .i64 (x 1)) := CKA.out _ KX.out 1 (by omega); have k2 : w1.cell? ⟨w.heap.size, 2, none⟩ = some (.int .i64 (x 2)) := CKA.out _ KX.out 2 (by omega); have k3 : w1.cell? ⟨w.heap.size, 3, none⟩ = some (.int .i64 (x 3)) := CKA.out _ KX.out 3 (by omega); have k4 : w1.cell? ⟨w.heap.size, 4, none⟩ = some (.int .i64 (x 4)) := CKA.out _ KX.out 4 (by omega); have k5 : w1.cell? ⟨w.heap.size, 5, none⟩ = some (.int .i64 (x 5)) := CKA.out _ KX.out 5 (by omega); have k6 : w1.cell? ⟨w.heap.size, 6, none⟩ = some (.int .i64 (x 6)) := CKA.out _ KX.out 6 (by omega); have k7 : w1.cell? ⟨w.heap.size, 7, none⟩ = some (.int .i64 (x 7)) := CKA.out _ KX.out 7 (by omega); have k8 : w1.cell? ⟨w.heap.size, 8, none⟩ = some (.int .i64 (x 8)) := CKA.out _ KX.out 8 (by omega)) | (go_at_call 9; (with_reducible refine Calls.mono (DL.out _) ?_); rintro e1 w2 ⟨rfl, hb9⟩; replace HBW := Lib.hid (HBW.out.trans hb9); replace KX := Lib.hid (KX.out.bw hb9); clear hb9; clear k0 k1 k2 k3 k4 k5 k6 k7 k8; have k0 : w2.cell? ⟨w.heap.size, 0, none⟩ = some (.int .i64 (x 0)) := CKA.out _ KX.out 0 (by omega); have k1 : w2.cell? ⟨w.heap.size, 1, none⟩ = some (.int .i64 (x 1)) := CKA.out _ KX.out 1 (by omega); have k2 : w2.cell? ⟨w.heap.size, 2, none⟩ = some (.int .i64 (x 2)) := CKA.out _ KX.out 2 (by omega); have k3 : w2.cell? ⟨w.heap.size, 3, none⟩ = some (.int .i64 (x 3)) := CKA.out _ KX.out 3 (by omega); have k4 : w2.cell? ⟨w.heap.size, 4, none⟩ = some (.int .i64 (x 4)) := CKA.out _ KX.out 4 (by omega); have k5 : w2.cell? ⟨w.heap.size, 5, none⟩ = some (.int .i64 (x 5)) := CKA.out _ KX.out 5 (by omega); have k6 : w2.cell? ⟨w.heap.size, 6, none⟩ = some (.int .i64 (x 6)) := CKA.out _ KX.out 6 (by omega); have k7 : w2.cell? ⟨w.heap.size, 7, none⟩ = some (.int .i64 (x 7)) := CKA.out _ KX.out 7 (by omega); have k8 : w2.cell? ⟨w.heap.size, 8, none⟩ = some (.int .i64 (x 8)) := CKA.out _ KX.out 8 (by omega)))
  refine bodyPost_ret (v := .tuple #[.int .i64 0, .int .i64 0, .int .i64 2]) ?_ rfl ⟨rfl, HBW.out⟩
  simp [results, Try.results16, go_sem]
theorem Correct_ok (x : Nat → Int) (ln bb up ub : Int) (w : World) (h : errA x = 0) (hr : -10000000000000 ≤ ln ∧ ln ≤ 10000000000000 ∧ 0 ≤ bb ∧ bb ≤ 10000000000000 ∧ 0 ≤ ub ∧ ub ≤ 1073741824) (hu : 0 ≤ up ∧ up ≤ 1073741824) :
    Calls Try.prog 16 #[.agg #[.int .i64 (x 0), .int .i64 (x 1), .int .i64 (x 2), .int .i64 (x 3), .int .i64 (x 4), .int .i64 (x 5), .int .i64 (x 6), .int .i64 (x 7), .int .i64 (x 8)], .int .i64 ln, .int .i64 bb, .int .i64 up, .int .i64 ub] w fun e w' => e = .returned (.tuple #[.int .i64 (ln - rndH (hsum x (zD up) 4 4) 90 - rndH (hsum (fun i => x (4 + i)) (zD up) 3 3) 60), .int .i64 (bb + x 7 + x 8 + (slopeN x * ub + 1073741824 - 1) / 1073741824 + 2), .int .i64 0]) ∧ Bw w w' := by
  have CK := Lib.hid (fun W => ACheck_any x W)
  have HBW := Lib.hid (Bw.alloc (Bw.refl w) (.cells (atV x) 25))
  have KX := Lib.hid (Blk.new w 25 (atV x))
  unfold atV at HBW KX
  have CKA := Lib.hid (show ∀ W1, Blk W1 w.heap.size 25 (atV x) → ∀ i, i < 9 → W1.cell? ⟨w.heap.size, i, none⟩ = some (.int .i64 (x i)) from fun W1 hB i hi => hB.cell (atV_at x i hi))
  rw [h] at CK
  have hxb := errA_bd h
  have DL := Lib.hid (fun W => Delay_ok x up W h hu.1 hu.2)
  have SL := Lib.hid (fun W => slope_any x W hxb)
  have hi9 := rnd90 _ (hsum_bd (fun i => if i < 4 then x i else 0) (zD up) 4 (fun i => by by_cases hi : i < 4 <;> simp [hi]; exact hxb i (by omega)) (by unfold zD; omega) 4)
  have ht9 := rnd60 _ (hsum_bd (fun i => if i < 3 then x (4 + i) else 0) (zD up) 3 (fun i => by by_cases hi : i < 3 <;> simp [hi]; exact hxb (4 + i) (by omega)) (by unfold zD; omega) 3)
  rw [show hsum (fun i => if i < 4 then x i else 0) (zD up) 4 4 = hsum x (zD up) 4 4 by simp [hsum]] at hi9
  rw [show hsum (fun i => if i < 3 then x (4 + i) else 0) (zD up) 3 3 = hsum (fun i => x (4 + i)) (zD up) 3 3 by simp [hsum]] at ht9
  generalize rndH (hsum x (zD up) 4 4) 90 = r1 at *
  generalize rndH (hsum (fun i => x (4 + i)) (zD up) 3 3) 60 = r2 at *
  have hs0 := sl_bd x 0 4 (by omega) (fun j hj => hxb (0 + j) (by omega))
  have hs1 := sl_bd x 4 3 (by omega) (fun j hj => hxb (4 + j) (by omega))
  have hsn : 0 ≤ slopeN x ∧ slopeN x ≤ 21000000 := by unfold slopeN; omega
  have hx7 := hxb 7 (by omega)
  have hx8 := hxb 8 (by omega)
  generalize slopeN x = sn at *
  have hmu := mul_bd3 sn ub 21000000 1073741824 (by omega) (by omega) (by omega) (by omega)
  have hmn : 0 ≤ sn * ub := Int.mul_nonneg (by omega) (by omega)
  clear hxb hs0 hs1 h
  have q1 : ¬ ln < -10000000000000 := by omega
  have q2 : ¬ 10000000000000 < ln := by omega
  have q3 : ¬ bb < 0 := by omega
  have q4 : ¬ 10000000000000 < bb := by omega
  have q5 : ¬ ub < 0 := by omega
  have q6 : ¬ 1073741824 < ub := by omega
  clear hu
  go_enter Try.func16, Try.ntmps16
  go_upto_region 9 with (first | (go_at_call 13; (with_reducible refine Calls.mono (CK.out _) ?_); rintro e1 w1 ⟨rfl, hb9⟩; replace HBW := Lib.hid (HBW.out.trans hb9); replace KX := Lib.hid (KX.out.bw hb9); clear hb9; have k0 : w1.cell? ⟨w.heap.size, 0, none⟩ = some (.int .i64 (x 0)) := CKA.out _ KX.out 0 (by omega); have k1 : w1.cell? ⟨w.heap.size, 1, none⟩ = some (.int .i64 (x 1)) := CKA.out _ KX.out 1 (by omega); have k2 : w1.cell? ⟨w.heap.size, 2, none⟩ = some (.int .i64 (x 2)) := CKA.out _ KX.out 2 (by omega); have k3 : w1.cell? ⟨w.heap.size, 3, none⟩ = some (.int .i64 (x 3)) := CKA.out _ KX.out 3 (by omega); have k4 : w1.cell? ⟨w.heap.size, 4, none⟩ = some (.int .i64 (x 4)) := CKA.out _ KX.out 4 (by omega); have k5 : w1.cell? ⟨w.heap.size, 5, none⟩ = some (.int .i64 (x 5)) := CKA.out _ KX.out 5 (by omega); have k6 : w1.cell? ⟨w.heap.size, 6, none⟩ = some (.int .i64 (x 6)) := CKA.out _ KX.out 6 (by omega); have k7 : w1.cell? ⟨w.heap.size, 7, none⟩ = some (.int .i64 (x 7)) := CKA.out _ KX.out 7 (by omega); have k8 : w1.cell? ⟨w.heap.size, 8, none⟩ = some (.int .i64 (x 8)) := CKA.out _ KX.out 8 (by omega)) | (go_at_call 9; (with_reducible refine Calls.mono (DL.out _) ?_); rintro e1 w2 ⟨rfl, hb9⟩; replace HBW := Lib.hid (HBW.out.trans hb9); replace KX := Lib.hid (KX.out.bw hb9); clear hb9; clear k0 k1 k2 k3 k4 k5 k6 k7 k8; have k0 : w2.cell? ⟨w.heap.size, 0, none⟩ = some (.int .i64 (x 0)) := CKA.out _ KX.out 0 (by omega); have k1 : w2.cell? ⟨w.heap.size, 1, none⟩ = some (.int .i64 (x 1)) := CKA.out _ KX.out 1 (by omega); have k2 : w2.cell? ⟨w.heap.size, 2, none⟩ = some (.int .i64 (x 2)) := CKA.out _ KX.out 2 (by omega); have k3 : w2.cell? ⟨w.heap.size, 3, none⟩ = some (.int .i64 (x 3)) := CKA.out _ KX.out 3 (by omega); have k4 : w2.cell? ⟨w.heap.size, 4, none⟩ = some (.int .i64 (x 4)) := CKA.out _ KX.out 4 (by omega); have k5 : w2.cell? ⟨w.heap.size, 5, none⟩ = some (.int .i64 (x 5)) := CKA.out _ KX.out 5 (by omega); have k6 : w2.cell? ⟨w.heap.size, 6, none⟩ = some (.int .i64 (x 6)) := CKA.out _ KX.out 6 (by omega); have k7 : w2.cell? ⟨w.heap.size, 7, none⟩ = some (.int .i64 (x 7)) := CKA.out _ KX.out 7 (by omega); have k8 : w2.cell? ⟨w.heap.size, 8, none⟩ = some (.int .i64 (x 8)) := CKA.out _ KX.out 8 (by omega)))
  have e0 := fun p' : Ext w2 => Ext.cell' k0 p'
  have e1 := fun p' : Ext w2 => Ext.cell' k1 p'
  have e2 := fun p' : Ext w2 => Ext.cell' k2 p'
  have e3 := fun p' : Ext w2 => Ext.cell' k3 p'
  have e4 := fun p' : Ext w2 => Ext.cell' k4 p'
  have e5 := fun p' : Ext w2 => Ext.cell' k5 p'
  have e6 := fun p' : Ext w2 => Ext.cell' k6 p'
  have e7 := fun p' : Ext w2 => Ext.cell' k7 p'
  have e8 := fun p' : Ext w2 => Ext.cell' k8 p'
  clear k0 k1 k2 k3 k4 k5 k6 k7 k8
  (refine wp_region_quiet_ext (by kernel_rfl) (by kernel_rfl) ?_; (repeat (go_big_quiet_step ((go_at_call 35; with_reducible refine Calls.ext_of (SL.out _))))); refine wpQuiet_nil ?_; rintro wq ⟨⟨_, hbq⟩, rfl⟩; obtain ⟨hccq, hffq⟩ := Bw.cells hbq; have hszq := Bw.size hbq)
  replace HBW := Lib.hid (HBW.out.trans hbq)
  go_wp2
  refine bodyPost_ret (v := .tuple #[.int .i64 (ln - r1 - r2), .int .i64 (bb + x 7 + x 8 + (sn * ub + 1073741824 - 1) / 1073741824 + 2), .int .i64 0]) ?_ rfl ⟨rfl, HBW.out⟩
  simp [results, Try.results16, go_sem]
end Go.Proofs.Sky

namespace Go.Proofs.Sky
open Go Go.RowKit Go.Shelf
set_option maxHeartbeats 4000000
set_option maxRecDepth 4000
/-! chapter 31: the chapter's examples -/
def xP : Nat → Int := fun i => [2000, 3000, 0, 1000, 2300, 5000, 8000, 500, 100].getD i 0
theorem errXP : errA xP = 0 := by decide
theorem plain_any (w : World) : Calls Try.prog 24 #[] w fun e w' => e = .returned (.agg #[.int .i64 2000, .int .i64 3000, .int .i64 0, .int .i64 1000, .int .i64 2300, .int .i64 5000, .int .i64 8000, .int .i64 500, .int .i64 100]) ∧ Bw w w' := by
  go_enter Try.func24, Try.ntmps24
  go_wp2
  refine bodyPost_ret (v := .agg #[.int .i64 2000, .int .i64 3000, .int .i64 0, .int .i64 1000, .int .i64 2300, .int .i64 5000, .int .i64 8000, .int .i64 500, .int .i64 100]) ?_ rfl ⟨rfl, (by repeat (first | exact Bw.refl _ | assumption | refine Bw.alloc ?_ _ | refine Bw.drew ?_ | refine Bw.trans ?_ (by assumption) | refine Bw.setCell ?_ (by simp; try omega) _))⟩
  simp [results, Try.results24, go_sem]
theorem delays_true (x : Nat → Int) (up i t : Int) (w : World) (hi : ionoD x up = i) (ht : tropoD x up = t) (he : errD x up = 0) :
    Calls Try.prog 23 #[.agg #[.int .i64 (x 0), .int .i64 (x 1), .int .i64 (x 2), .int .i64 (x 3), .int .i64 (x 4), .int .i64 (x 5), .int .i64 (x 6), .int .i64 (x 7), .int .i64 (x 8)], .int .i64 up, .int .i64 i, .int .i64 t] w fun e w' => e = .returned (.bool true) ∧ Bw w w' := by
  have DL := Lib.hid (fun W => Delay_any x up W)
  rw [hi, ht, he] at DL
  clear hi ht he
  have HBW := Lib.hid (Bw.alloc (Bw.refl w) (.cells (atV x) 25))
  have KX := Lib.hid (Blk.new w 25 (atV x))
  unfold atV at HBW KX
  go_enter Try.func23, Try.ntmps23
  go_wp2_with (go_at_call 9; (with_reducible refine Calls.mono (DL.out _) ?_); rintro e1 w1 ⟨rfl, hb9⟩; replace HBW := Lib.hid (HBW.out.trans hb9); clear hb9)
  go_ret
  exact ⟨rfl, HBW.out⟩
theorem corrects_true (ub bd : Int) (w : World) (h1 : 0 ≤ ub) (h2 : ub ≤ 1073741824) (h : bd = 612 + (27000 * ub + 1073741823) / 1073741824) :
    Calls Try.prog 25 #[.int .i64 ub, .int .i64 bd] w fun e w' => e = .returned (.bool true) ∧ Bw w w' := by
  have CR : Hid (∀ W, Calls Try.prog 16 #[.agg #[.int .i64 2000, .int .i64 3000, .int .i64 0, .int .i64 1000, .int .i64 2300, .int .i64 5000, .int .i64 8000, .int .i64 500, .int .i64 100], .int .i64 1000000, .int .i64 10, .int .i64 536870912, .int .i64 ub] W fun e w' => e = .returned (.tuple #[.int .i64 989575, .int .i64 bd, .int .i64 0]) ∧ Bw W w') := Lib.hid (fun W => by
    have h9 := Correct_ok xP 1000000 10 536870912 ub W errXP ⟨by decide, by decide, by decide, by decide, h1, h2⟩ (by decide)
    rw [show (1000000 : Int) - rndH (hsum xP (zD 536870912) 4 4) 90 - rndH (hsum (fun i => xP (4 + i)) (zD 536870912) 3 3) 60 = 989575 by decide, show (10 : Int) + xP 7 + xP 8 + (slopeN xP * ub + 1073741824 - 1) / 1073741824 + 2 = bd by rw [h, show slopeN xP = 27000 by decide, show (10 : Int) + xP 7 + xP 8 = 610 by decide]; omega] at h9
    exact h9)
  have PL := Lib.hid (fun W => plain_any W)
  clear h h1 h2
  go_enter Try.func25, Try.ntmps25
  go_wp2_with (first | (go_at_call 24; (with_reducible refine Calls.mono (PL.out _) ?_); rintro e1 w1 ⟨rfl, hb1⟩) | (go_at_call 16; (with_reducible refine Calls.mono (CR.out _) ?_); rintro e1 w2 ⟨rfl, hb2⟩))
  go_ret
  exact ⟨rfl, hb1.trans hb2⟩
theorem awake_any (w : World) : Calls Try.prog 15 #[] w fun e w' => e = .returned (.bool true) ∧ Bw w w' := by
  have PL := Lib.hid (fun W => plain_any W)
  have SL : Hid (∀ W, Calls Try.prog 11 #[.agg #[.int .i64 2000, .int .i64 3000, .int .i64 0, .int .i64 1000, .int .i64 2300, .int .i64 5000, .int .i64 8000, .int .i64 500, .int .i64 100]] W fun e w' => e = .returned (.tuple #[.int .i64 27000, .int .i64 0]) ∧ Bw W w') := Lib.hid (fun W => by have h9 := Slope_any xP W; exact h9)
  have FR : Hid (∀ W, Calls Try.prog 18 #[.agg #[.int .i64 2000, .int .i64 3000, .int .i64 0, .int .i64 1000, .int .i64 2300, .int .i64 5000, .int .i64 8000, .int .i64 500, .int .i64 100], .int .i64 3] W fun e w' => FrP W.heap.size 3 5 (FrA xP) 0 e w' ∧ Bw W w') := Lib.hid (fun W => Frame_any xP 3 W errXP (by decide) (by decide))
  unfold FrP at FR
  have RD : Hid (∀ W v, RdI W v (FrA xP) → Capd v → Calls Try.prog 20 #[.agg #[.int .i64 3, .int .i64 5, v]] W fun e w' => e = .returned (.tuple #[.agg #[.int .i64 2000, .int .i64 3000, .int .i64 0, .int .i64 1000, .int .i64 2300, .int .i64 5000, .int .i64 8000, .int .i64 500, .int .i64 100], .int .i64 0]) ∧ Bw W w') := Lib.hid (fun W v hv hc => Read_back errXP 3 (by decide) (by decide) v W hv hc)
  have DE : Hid (∀ W, Calls Try.prog 23 #[.agg #[.int .i64 2000, .int .i64 3000, .int .i64 0, .int .i64 1000, .int .i64 2300, .int .i64 5000, .int .i64 8000, .int .i64 500, .int .i64 100], .int .i64 536870912, .int .i64 3625, .int .i64 6800] W fun e w' => e = .returned (.bool true) ∧ Bw W w') := Lib.hid (fun W => delays_true xP 536870912 3625 6800 W (by decide) (by decide) (by decide))
  have CO := Lib.hid (fun W => corrects_true 0 612 W (by decide) (by decide) (by decide))
  generalize FrA xP = FA at *
  go_enter Try.func15, Try.ntmps15
  go_upto_region 2 with (first | (go_at_call 24; (with_reducible refine Calls.mono (PL.out _) ?_); rintro e1 w1 ⟨rfl, hb1⟩) | (go_at_call 11; (with_reducible refine Calls.mono (SL.out _) ?_); rintro e1 w2 ⟨rfl, hb2⟩))
  have HBW := Lib.hid (hb1.trans hb2)
  clear hb1 hb2
  go_upto_region 3 with (first | (go_at_call 24; (with_reducible refine Calls.mono (PL.out _) ?_); rintro e1 w3 ⟨rfl, hb3⟩) | (go_at_call 18; (with_reducible refine Calls.mono (FR.out _) ?_); rintro e1 w4 ⟨⟨v4, rfl, hr4, hf4, hc4⟩, hb4⟩; obtain ⟨a4, c4, rfl⟩ := hr4.form))
  have FX := Blk.new w4 38 #[.int .i64 3, .int .i64 5, .slice a4 FA.length c4]
  have HR := Lib.hid (hr4.mono (Bw.alloc (Bw.refl w4) (.cells #[.int .i64 3, .int .i64 5, .slice a4 FA.length c4] 38)))
  have HC := Lib.hid hc4
  replace HBW := Lib.hid (Bw.alloc (HBW.out.trans (hb3.trans hb4)) (.cells #[.int .i64 3, .int .i64 5, .slice a4 FA.length c4] 38))
  clear hr4 hf4 hc4 hb3 hb4
  generalize hWF : w4.alloc (.cells #[.int .i64 3, .int .i64 5, .slice a4 FA.length c4] 38) = WF at FX HR HBW ⊢
  clear hWF
  have g0 : WF.cell? ⟨w4.heap.size, 0, none⟩ = some (.int .i64 3) := FX.cell rfl
  have g1 : WF.cell? ⟨w4.heap.size, 1, none⟩ = some (.int .i64 5) := FX.cell rfl
  have g2 : WF.cell? ⟨w4.heap.size, 2, none⟩ = some (.slice a4 FA.length c4) := FX.cell rfl
  go_upto_region 4 with (go_at_call 20; (with_reducible refine Calls.mono (RD.out _ _ HR.out HC.out) ?_); rintro e1 w5 ⟨rfl, hb5⟩)
  replace HBW := Lib.hid (Bw.alloc (HBW.out.trans hb5) (.cells #[.int .i64 2000, .int .i64 3000, .int .i64 0, .int .i64 1000, .int .i64 2300, .int .i64 5000, .int .i64 8000, .int .i64 500, .int .i64 100] 25))
  have MX := Blk.new w5 25 #[.int .i64 2000, .int .i64 3000, .int .i64 0, .int .i64 1000, .int .i64 2300, .int .i64 5000, .int .i64 8000, .int .i64 500, .int .i64 100]
  have h1 := (Bw.alloc hb5 (.cells #[.int .i64 2000, .int .i64 3000, .int .i64 0, .int .i64 1000, .int .i64 2300, .int .i64 5000, .int .i64 8000, .int .i64 500, .int .i64 100] 25)).cell' g1
  generalize hW4 : w5.alloc (.cells #[.int .i64 2000, .int .i64 3000, .int .i64 0, .int .i64 1000, .int .i64 2300, .int .i64 5000, .int .i64 8000, .int .i64 500, .int .i64 100] 25) = W4 at MX HBW h1 ⊢
  clear hW4 g0 g1 g2 hb5
  have e9 := fun p' : Ext W4 => Ext.cell' h1 p'
  have e0 := fun p' : Ext W4 => Ext.cell' (MX.cell (j := 0) (v := .int .i64 2000) rfl) p'
  have e1 := fun p' : Ext W4 => Ext.cell' (MX.cell (j := 1) (v := .int .i64 3000) rfl) p'
  have e2 := fun p' : Ext W4 => Ext.cell' (MX.cell (j := 2) (v := .int .i64 0) rfl) p'
  have e3 := fun p' : Ext W4 => Ext.cell' (MX.cell (j := 3) (v := .int .i64 1000) rfl) p'
  have e4 := fun p' : Ext W4 => Ext.cell' (MX.cell (j := 4) (v := .int .i64 2300) rfl) p'
  have e5 := fun p' : Ext W4 => Ext.cell' (MX.cell (j := 5) (v := .int .i64 5000) rfl) p'
  have e6 := fun p' : Ext W4 => Ext.cell' (MX.cell (j := 6) (v := .int .i64 8000) rfl) p'
  have e7 := fun p' : Ext W4 => Ext.cell' (MX.cell (j := 7) (v := .int .i64 500) rfl) p'
  have e8 := fun p' : Ext W4 => Ext.cell' (MX.cell (j := 8) (v := .int .i64 100) rfl) p'
  clear h1
  have hq1 : ∀ w, (Op.equalIn 10000 25 (.agg #[.int .i64 2000, .int .i64 3000, .int .i64 0, .int .i64 1000, .int .i64 2300, .int .i64 5000, .int .i64 8000, .int .i64 500, .int .i64 100]) (.agg #[.int .i64 2000, .int .i64 3000, .int .i64 0, .int .i64 1000, .int .i64 2300, .int .i64 5000, .int .i64 8000, .int .i64 500, .int .i64 100])).run Try.prog w = .ok true w := fun w => eqAt_self xP w
  have hq2 : ∀ w op p q, (eqGuard op 25 p q (.agg #[.int .i64 2000, .int .i64 3000, .int .i64 0, .int .i64 1000, .int .i64 2300, .int .i64 5000, .int .i64 8000, .int .i64 500, .int .i64 100]) (.agg #[.int .i64 2000, .int .i64 3000, .int .i64 0, .int .i64 1000, .int .i64 2300, .int .i64 5000, .int .i64 8000, .int .i64 500, .int .i64 100])).run Try.prog w = .ok () w := fun w op p q => eqAt_guard xP xP op p q w
  (refine wp_region_quiet_ext (by kernel_rfl) (by kernel_rfl) ?_; (repeat (go_big_quiet_step ((first | (go_at_call 24; with_reducible refine Calls.ext_of (PL.out _)) | (go_at_call 23; with_reducible refine Calls.ext_of (DE.out _)) | (go_at_call 25; with_reducible refine Calls.ext_of (CO.out _)))))); refine wpQuiet_nil ?_; rintro wq ⟨⟨_, hbq⟩, rfl⟩; obtain ⟨hccq, hffq⟩ := Bw.cells hbq; have hszq := Bw.size hbq)
  replace HBW := Lib.hid (HBW.out.trans hbq)
  go_wp2
  go_ret
  exact ⟨rfl, HBW.out⟩
end Go.Proofs.Sky

namespace Go.Proofs.Sky
open Go Go.RowKit Go.Shelf
set_option maxHeartbeats 4000000
set_option maxRecDepth 4000
/-! chapter 31: AtmosKnown -/
def xB : Nat → Int := fun i => [2000, 3000, 0, 1000, 2300, 5000, 8000, 1000001, 100].getD i 0
def xU : Nat → Int := fun i => [0, 1, 0, 0, 0, 0, 0, 0, 0].getD i 0
def xV : Nat → Int := fun i => [0, -1, 0, 0, 0, 0, 0, 0, 0].getD i 0
theorem law_known (w : World) : Calls Try.prog 6 #[] w fun e w' => e = .returned (.bool true) ∧ Bw w w' := by
  have PL := Lib.hid (fun W => plain_any W)
  have D1 : Hid (∀ W, Calls Try.prog 23 #[.agg #[.int .i64 2000, .int .i64 3000, .int .i64 0, .int .i64 1000, .int .i64 2300, .int .i64 5000, .int .i64 8000, .int .i64 500, .int .i64 100], .int .i64 1073741824, .int .i64 2000, .int .i64 2300] W fun e w' => e = .returned (.bool true) ∧ Bw W w') := Lib.hid (fun W => delays_true xP 1073741824 2000 2300 W (by decide) (by decide) (by decide))
  have D2 : Hid (∀ W, Calls Try.prog 23 #[.agg #[.int .i64 2000, .int .i64 3000, .int .i64 0, .int .i64 1000, .int .i64 2300, .int .i64 5000, .int .i64 8000, .int .i64 500, .int .i64 100], .int .i64 0, .int .i64 6000, .int .i64 15300] W fun e w' => e = .returned (.bool true) ∧ Bw W w') := Lib.hid (fun W => delays_true xP 0 6000 15300 W (by decide) (by decide) (by decide))
  have D3 : Hid (∀ W, Calls Try.prog 23 #[.agg #[.int .i64 0, .int .i64 1, .int .i64 0, .int .i64 0, .int .i64 0, .int .i64 0, .int .i64 0, .int .i64 0, .int .i64 0], .int .i64 536870912, .int .i64 1, .int .i64 0] W fun e w' => e = .returned (.bool true) ∧ Bw W w') := Lib.hid (fun W => delays_true xU 536870912 1 0 W (by decide) (by decide) (by decide))
  have D4 : Hid (∀ W, Calls Try.prog 23 #[.agg #[.int .i64 0, .int .i64 (-1), .int .i64 0, .int .i64 0, .int .i64 0, .int .i64 0, .int .i64 0, .int .i64 0, .int .i64 0], .int .i64 536870912, .int .i64 (-1), .int .i64 0] W fun e w' => e = .returned (.bool true) ∧ Bw W w') := Lib.hid (fun W => delays_true xV 536870912 (-1) 0 W (by decide) (by decide) (by decide))
  have CO := Lib.hid (fun W => corrects_true 1 613 W (by decide) (by decide) (by decide))
  have DY : Hid (∀ W, Calls Try.prog 9 #[.agg #[.int .i64 2000, .int .i64 3000, .int .i64 0, .int .i64 1000, .int .i64 2300, .int .i64 5000, .int .i64 8000, .int .i64 500, .int .i64 100], .int .i64 1073741825] W fun e w' => e = .returned (.tuple #[.int .i64 0, .int .i64 0, .int .i64 2]) ∧ Bw W w') := Lib.hid (fun W => Delay_any xP 1073741825 W)
  have DB : Hid (∀ W, Calls Try.prog 9 #[.agg #[.int .i64 2000, .int .i64 3000, .int .i64 0, .int .i64 1000, .int .i64 2300, .int .i64 5000, .int .i64 8000, .int .i64 1000001, .int .i64 100], .int .i64 0] W fun e w' => e = .returned (.tuple #[.int .i64 0, .int .i64 0, .int .i64 2]) ∧ Bw W w') := Lib.hid (fun W => Delay_any xB 0 W)
  have CR : Hid (∀ W, Calls Try.prog 16 #[.agg #[.int .i64 2000, .int .i64 3000, .int .i64 0, .int .i64 1000, .int .i64 2300, .int .i64 5000, .int .i64 8000, .int .i64 500, .int .i64 100], .int .i64 1000000, .int .i64 (-1), .int .i64 536870912, .int .i64 0] W fun e w' => e = .returned (.tuple #[.int .i64 0, .int .i64 0, .int .i64 2]) ∧ Bw W w') := Lib.hid (fun W => Correct_range xP 1000000 (-1) 536870912 0 W errXP (by decide))
  have CB : Hid (∀ W, Calls Try.prog 13 #[.agg #[.int .i64 2000, .int .i64 3000, .int .i64 0, .int .i64 1000, .int .i64 2300, .int .i64 5000, .int .i64 8000, .int .i64 1000001, .int .i64 100]] W fun e w' => e = .returned (.int .i64 2) ∧ Bw W w') := Lib.hid (fun W => ACheck_any xB W)
  have FL := Lib.hid (packed31 errXP).1
  have FR : Hid (∀ W, Calls Try.prog 18 #[.agg #[.int .i64 2000, .int .i64 3000, .int .i64 0, .int .i64 1000, .int .i64 2300, .int .i64 5000, .int .i64 8000, .int .i64 500, .int .i64 100], .int .i64 3] W fun e w' => FrP W.heap.size 3 5 (FrA xP) 0 e w' ∧ Bw W w') := Lib.hid (fun W => Frame_any xP 3 W errXP (by decide) (by decide))
  unfold FrP at FR
  have RD : Hid (∀ W v, RdI W v (FrA xP) → Capd v → Calls Try.prog 20 #[.agg #[.int .i64 3, .int .i64 4, v]] W fun e w' => e = .returned (.tuple #[.agg #[.int .i64 0, .int .i64 0, .int .i64 0, .int .i64 0, .int .i64 0, .int .i64 0, .int .i64 0, .int .i64 0, .int .i64 0], .int .i64 3]) ∧ Bw W w') := Lib.hid (fun W v hv hc => Read_kind4 (FrA xP) 3 v W hv hc)
  have AW := Lib.hid (fun W => awake_any W)
  generalize FrA xP = FA at *
  have HBW := Lib.hid (Bw.refl w)
  go_enter Try.func6, Try.ntmps6
  go_upto_region 3 with (first | (go_at_call 24; (with_reducible refine Calls.mono (PL.out _) ?_); rintro e1 w1 ⟨rfl, hb9⟩; replace HBW := Lib.hid (HBW.out.trans hb9); clear hb9) | (go_at_call 23; (with_reducible first | refine Calls.mono (D1.out _) ?_ | refine Calls.mono (D2.out _) ?_ | refine Calls.mono (D3.out _) ?_ | refine Calls.mono (D4.out _) ?_); rintro e1 w1 ⟨rfl, hb9⟩; replace HBW := Lib.hid (HBW.out.trans hb9); clear hb9) | (go_at_call 25; (with_reducible refine Calls.mono (CO.out _) ?_); rintro e1 w1 ⟨rfl, hb9⟩; replace HBW := Lib.hid (HBW.out.trans hb9); clear hb9))
  go_upto_region 4 with (first | (go_at_call 24; (with_reducible refine Calls.mono (PL.out _) ?_); rintro e1 w1 ⟨rfl, hb9⟩; replace HBW := Lib.hid (HBW.out.trans hb9); clear hb9) | (go_at_call 9; (with_reducible refine Calls.mono (DY.out _) ?_); rintro e1 w1 ⟨rfl, hb9⟩; replace HBW := Lib.hid (HBW.out.trans hb9); clear hb9))
  go_upto_region 5 with (first | (go_at_call 24; (with_reducible refine Calls.mono (PL.out _) ?_); rintro e1 w1 ⟨rfl, hb9⟩; replace HBW := Lib.hid (HBW.out.trans hb9); clear hb9) | (go_at_call 16; (with_reducible refine Calls.mono (CR.out _) ?_); rintro e1 w1 ⟨rfl, hb9⟩; replace HBW := Lib.hid (HBW.out.trans hb9); clear hb9))
  go_upto_region 6 with (first | (go_at_call 24; (with_reducible refine Calls.mono (PL.out _) ?_); rintro e1 w1 ⟨rfl, hb9⟩; replace HBW := Lib.hid (HBW.out.trans hb9); clear hb9) | (go_at_call 18; (with_reducible refine Calls.mono (FR.out _) ?_); rintro e1 w7 ⟨⟨v7, rfl, hr7, _, hc7⟩, hb9⟩; have HG7 := (HBW.out.trans hb9).size; replace HBW := Lib.hid (HBW.out.trans hb9); clear hb9; obtain ⟨a7, c7, rfl⟩ := hr7.form; rw [FL.out] at hr7 hc7 ⊢))
  have HC := Lib.hid hc7
  clear hc7
  have FX := Blk.new w7 38 #[.int .i64 3, .int .i64 5, .slice a7 206 c7]
  have HR := Lib.hid (hr7.mono (Bw.alloc (Bw.refl w7) (.cells #[.int .i64 3, .int .i64 5, .slice a7 206 c7] 38)))
  replace HBW := Lib.hid (Bw.alloc HBW.out (.cells #[.int .i64 3, .int .i64 5, .slice a7 206 c7] 38))
  have HB7 := Bw.alloc (Bw.refl w7) (.cells #[.int .i64 3, .int .i64 5, .slice a7 206 c7] 38)
  obtain ⟨G7, hG7⟩ : ∃ G7, w7.heap.size = G7 := ⟨_, rfl⟩
  generalize hWF : w7.alloc (.cells #[.int .i64 3, .int .i64 5, .slice a7 206 c7] 38) = WF at FX HR HBW HB7 ⊢
  clear hWF
  rw [hG7] at FX ⊢
  have R8 := Lib.hid (hr7.mono (Bw.setCell HB7 (p := ⟨G7, 1, none⟩) (by simp; omega) (.int .i64 4)))
  have B8 := Lib.hid (Bw.setCell HBW.out (p := ⟨G7, 1, none⟩) (by simp; omega) (.int .i64 4))
  have F8 : Hid (Blk (WF.setCell ⟨G7, 1, none⟩ (.int .i64 4)) G7 38 #[.int .i64 3, .int .i64 4, .slice a7 206 c7]) := Lib.hid (FX.set 1 (.int .i64 4))
  have c1 := FX.cell (j := 1) (v := .int .i64 5) rfl
  have f1 := FX.frozen 1
  clear HB7 hG7 hr7 HR HBW
  go_upto_region 7 with fail
  generalize WF.setCell ⟨G7, 1, none⟩ (.int .i64 4) = W8 at R8 B8 F8 ⊢
  clear c1 f1 FX
  have c0 := F8.out.cell (j := 0) (v := .int .i64 3) rfl
  have c1 := F8.out.cell (j := 1) (v := .int .i64 4) rfl
  have c2 := F8.out.cell (j := 2) (v := .slice a7 206 c7) rfl
  go_upto_region 8 with (go_at_call 20; (with_reducible refine Calls.mono (RD.out _ _ R8.out HC.out) ?_); rintro e1 w9 ⟨rfl, hb9⟩; replace F8 := Lib.hid (F8.out.bw hb9); replace B8 := Lib.hid (B8.out.trans hb9); clear hb9 c0 c1 c2)
  replace F8 := Lib.hid (F8.out.alloc (.cells #[.int .i64 0, .int .i64 0, .int .i64 0, .int .i64 0, .int .i64 0, .int .i64 0, .int .i64 0, .int .i64 0, .int .i64 0] 25))
  replace B8 := Lib.hid (Bw.alloc B8.out (.cells #[.int .i64 0, .int .i64 0, .int .i64 0, .int .i64 0, .int .i64 0, .int .i64 0, .int .i64 0, .int .i64 0, .int .i64 0] 25))
  generalize w9.alloc (.cells #[.int .i64 0, .int .i64 0, .int .i64 0, .int .i64 0, .int .i64 0, .int .i64 0, .int .i64 0, .int .i64 0, .int .i64 0] 25) = W9 at F8 B8 ⊢
  go_upto_region 9 with (go_at_call 24; (with_reducible refine Calls.mono (PL.out _) ?_); rintro e1 w10 ⟨rfl, hb9⟩; replace F8 := Lib.hid (F8.out.bw hb9); replace B8 := Lib.hid (B8.out.trans hb9); clear hb9)
  have MX := Blk.new w10 25 #[.int .i64 2000, .int .i64 3000, .int .i64 0, .int .i64 1000, .int .i64 2300, .int .i64 5000, .int .i64 8000, .int .i64 500, .int .i64 100]
  have HL := F8.out.lt
  have HG8 := B8.out.size
  replace F8 := Lib.hid (F8.out.alloc (.cells #[.int .i64 2000, .int .i64 3000, .int .i64 0, .int .i64 1000, .int .i64 2300, .int .i64 5000, .int .i64 8000, .int .i64 500, .int .i64 100] 25))
  replace B8 := Lib.hid (Bw.alloc B8.out (.cells #[.int .i64 2000, .int .i64 3000, .int .i64 0, .int .i64 1000, .int .i64 2300, .int .i64 5000, .int .i64 8000, .int .i64 500, .int .i64 100] 25))
  obtain ⟨G9, hG9⟩ : ∃ G9, w10.heap.size = G9 := ⟨_, rfl⟩
  generalize w10.alloc (.cells #[.int .i64 2000, .int .i64 3000, .int .i64 0, .int .i64 1000, .int .i64 2300, .int .i64 5000, .int .i64 8000, .int .i64 500, .int .i64 100] 25) = W10 at F8 B8 MX ⊢
  rw [hG9] at MX HL HG8 ⊢
  clear hG9
  have M11 : Hid (Blk (W10.setCell ⟨G9, 7, none⟩ (.int .i64 1000001)) G9 25 #[.int .i64 2000, .int .i64 3000, .int .i64 0, .int .i64 1000, .int .i64 2300, .int .i64 5000, .int .i64 8000, .int .i64 1000001, .int .i64 100]) := Lib.hid (MX.set 7 (.int .i64 1000001))
  replace F8 := Lib.hid (F8.out.set_other (show G7 ≠ G9 by omega) 7 (.int .i64 1000001))
  have c7' := MX.cell (j := 7) (v := .int .i64 500) rfl
  have f7 := MX.frozen 7
  replace B8 := Lib.hid (Bw.setCell B8.out (p := ⟨G9, 7, none⟩) (by simp; omega) (.int .i64 1000001))
  clear MX HL HG8
  go_upto_region 10 with fail
  generalize W10.setCell ⟨G9, 7, none⟩ (.int .i64 1000001) = W11 at F8 B8 M11 ⊢
  clear c7' f7
  have k0 := M11.out.cell (j := 0) (v := .int .i64 2000) rfl
  have k1 := M11.out.cell (j := 1) (v := .int .i64 3000) rfl
  have k2 := M11.out.cell (j := 2) (v := .int .i64 0) rfl
  have k3 := M11.out.cell (j := 3) (v := .int .i64 1000) rfl
  have k4 := M11.out.cell (j := 4) (v := .int .i64 2300) rfl
  have k5 := M11.out.cell (j := 5) (v := .int .i64 5000) rfl
  have k6 := M11.out.cell (j := 6) (v := .int .i64 8000) rfl
  have k7 := M11.out.cell (j := 7) (v := .int .i64 1000001) rfl
  have k8 := M11.out.cell (j := 8) (v := .int .i64 100) rfl
  go_upto_region 11 with (go_at_call 9; (with_reducible refine Calls.mono (DB.out _) ?_); rintro e1 w12 ⟨rfl, hb9⟩; replace F8 := Lib.hid (F8.out.bw hb9); replace B8 := Lib.hid (B8.out.trans hb9); replace M11 := Lib.hid (M11.out.bw hb9); clear hb9 k0 k1 k2 k3 k4 k5 k6 k7 k8)
  have k0 := M11.out.cell (j := 0) (v := .int .i64 2000) rfl
  have k1 := M11.out.cell (j := 1) (v := .int .i64 3000) rfl
  have k2 := M11.out.cell (j := 2) (v := .int .i64 0) rfl
  have k3 := M11.out.cell (j := 3) (v := .int .i64 1000) rfl
  have k4 := M11.out.cell (j := 4) (v := .int .i64 2300) rfl
  have k5 := M11.out.cell (j := 5) (v := .int .i64 5000) rfl
  have k6 := M11.out.cell (j := 6) (v := .int .i64 8000) rfl
  have k7 := M11.out.cell (j := 7) (v := .int .i64 1000001) rfl
  have k8 := M11.out.cell (j := 8) (v := .int .i64 100) rfl
  have c2 := F8.out.cell (j := 2) (v := .slice a7 206 c7) rfl
  go_wp2_with (first | (go_at_call 13; (with_reducible refine Calls.mono (CB.out _) ?_); rintro e1 w13 ⟨rfl, hb9⟩; replace F8 := Lib.hid (F8.out.bw hb9); replace B8 := Lib.hid (B8.out.trans hb9); clear hb9 k0 k1 k2 k3 k4 k5 k6 k7 k8 c2; have c2 := F8.out.cell (j := 2) (v := .slice a7 206 c7) rfl) | (go_at_call 15; (with_reducible refine Calls.mono (AW.out _) ?_); rintro e1 w14 ⟨rfl, hb9⟩; replace B8 := Lib.hid (B8.out.trans hb9); clear hb9))
  go_ret
  exact ⟨rfl, B8.out⟩
end Go.Proofs.Sky
