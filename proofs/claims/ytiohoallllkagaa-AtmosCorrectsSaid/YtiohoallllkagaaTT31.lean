/-
  lemmas for the theorems of this claim. No conditions beyond those written in the statements.
-/
import Derived.Test.YtiohoallllkagaaZA31
import Derived.Deep.Cut
import Derived.Test.YtiohoallllkagaaB31b
import Derived.Test.YtiohoallllkagaaSP31
import Derived.Test.YtiohoallllkagaaUA31
set_option linter.unusedVariables false
set_option linter.unusedSimpArgs false
set_option linter.unnecessarySimpa false
namespace Go.Proofs.Sky
open Go Go.RowKit Go.Shelf
set_option maxHeartbeats 4000000
set_option maxRecDepth 4000
/-! chapter 31: the reference's Slope and Correct -/
theorem rAbs_any (n : Int) (w : World) (h1 : -1000000 ≤ n) (h2 : n ≤ 1000000) : Calls Try.prog 36 #[.int .i64 n] w fun e w' => e = .returned (.int .i64 (n.natAbs : Int)) ∧ Bw w w' := by
  by_cases h : n < 0
  · have HE := Lib.hid (show -n = (n.natAbs : Int) by omega)
    go_enter Try.func36, Try.ntmps36
    go_wp2
    go_ret
    exact ⟨ret_int HE.out, Bw.refl _⟩
  · have HE := Lib.hid (show n = (n.natAbs : Int) by omega)
    go_enter Try.func36, Try.ntmps36
    go_wp2
    go_ret
    exact ⟨ret_int HE.out, Bw.refl _⟩
theorem RSlope_any (x : Nat → Int) (w : World) :
    Calls Try.prog 12 #[.agg #[.int .i64 (x 0), .int .i64 (x 1), .int .i64 (x 2), .int .i64 (x 3), .int .i64 (x 4), .int .i64 (x 5), .int .i64 (x 6), .int .i64 (x 7), .int .i64 (x 8)]] w fun e w' => e = .returned (.tuple #[.int .i64 (if errA x = 0 then slopeN x else 0), .int .i64 (errA x)]) ∧ Bw w w' := by
  have CK := Lib.hid (fun W => rCheck_any x W)
  have HBW := Lib.hid (Bw.alloc (Bw.refl w) (.cells #[.int .i64 (x 0), .int .i64 (x 1), .int .i64 (x 2), .int .i64 (x 3), .int .i64 (x 4), .int .i64 (x 5), .int .i64 (x 6), .int .i64 (x 7), .int .i64 (x 8)] 25))
  have KX := Lib.hid (Blk.new w 25 #[.int .i64 (x 0), .int .i64 (x 1), .int .i64 (x 2), .int .i64 (x 3), .int .i64 (x 4), .int .i64 (x 5), .int .i64 (x 6), .int .i64 (x 7), .int .i64 (x 8)])
  by_cases h : errA x = 0
  · rw [if_pos h]
    rw [h] at CK ⊢
    have hall := errA_bd h
    have x1 := hall 1 (by omega)
    have x2 := hall 2 (by omega)
    have x3 := hall 3 (by omega)
    have x5 := hall 5 (by omega)
    have x6 := hall 6 (by omega)
    clear hall
    have HSL := Lib.hid (slope_eq x)
    generalize slopeN x = SL at *
    have RA := Lib.hid (fun n W h1 h2 => rAbs_any n W h1 h2)
    go_enter Try.func12, Try.ntmps12
    go_upto_region 1 with fail
    obtain ⟨W0, hW0⟩ : ∃ W0, (w.alloc (.cells #[.int .i64 (x 0), .int .i64 (x 1), .int .i64 (x 2), .int .i64 (x 3), .int .i64 (x 4), .int .i64 (x 5), .int .i64 (x 6), .int .i64 (x 7), .int .i64 (x 8)] 25)) = W0 := ⟨_, rfl⟩
    rw [hW0] at HBW KX ⊢
    clear hW0
    have k0 : W0.cell? ⟨w.heap.size, 0, none⟩ = some (.int .i64 (x 0)) := KX.out.cell rfl
    have k1 : W0.cell? ⟨w.heap.size, 1, none⟩ = some (.int .i64 (x 1)) := KX.out.cell rfl
    have k2 : W0.cell? ⟨w.heap.size, 2, none⟩ = some (.int .i64 (x 2)) := KX.out.cell rfl
    have k3 : W0.cell? ⟨w.heap.size, 3, none⟩ = some (.int .i64 (x 3)) := KX.out.cell rfl
    have k4 : W0.cell? ⟨w.heap.size, 4, none⟩ = some (.int .i64 (x 4)) := KX.out.cell rfl
    have k5 : W0.cell? ⟨w.heap.size, 5, none⟩ = some (.int .i64 (x 5)) := KX.out.cell rfl
    have k6 : W0.cell? ⟨w.heap.size, 6, none⟩ = some (.int .i64 (x 6)) := KX.out.cell rfl
    have k7 : W0.cell? ⟨w.heap.size, 7, none⟩ = some (.int .i64 (x 7)) := KX.out.cell rfl
    have k8 : W0.cell? ⟨w.heap.size, 8, none⟩ = some (.int .i64 (x 8)) := KX.out.cell rfl
    go_wp2_with (go_at_call 14; (with_reducible refine Calls.mono (CK.out _) ?_); rintro e1 w1 ⟨rfl, hb9⟩; replace HBW := Lib.hid (HBW.out.trans hb9); replace KX := Lib.hid (KX.out.bw hb9); clear hb9; clear k0 k1 k2 k3 k4 k5 k6 k7 k8; have k0 : w1.cell? ⟨w.heap.size, 0, none⟩ = some (.int .i64 (x 0)) := KX.out.cell rfl; have k1 : w1.cell? ⟨w.heap.size, 1, none⟩ = some (.int .i64 (x 1)) := KX.out.cell rfl; have k2 : w1.cell? ⟨w.heap.size, 2, none⟩ = some (.int .i64 (x 2)) := KX.out.cell rfl; have k3 : w1.cell? ⟨w.heap.size, 3, none⟩ = some (.int .i64 (x 3)) := KX.out.cell rfl; have k4 : w1.cell? ⟨w.heap.size, 4, none⟩ = some (.int .i64 (x 4)) := KX.out.cell rfl; have k5 : w1.cell? ⟨w.heap.size, 5, none⟩ = some (.int .i64 (x 5)) := KX.out.cell rfl; have k6 : w1.cell? ⟨w.heap.size, 6, none⟩ = some (.int .i64 (x 6)) := KX.out.cell rfl; have k7 : w1.cell? ⟨w.heap.size, 7, none⟩ = some (.int .i64 (x 7)) := KX.out.cell rfl; have k8 : w1.cell? ⟨w.heap.size, 8, none⟩ = some (.int .i64 (x 8)) := KX.out.cell rfl)
    have e0 := fun p : Ext w1 => Ext.cell' k0 p
    have e1 := fun p : Ext w1 => Ext.cell' k1 p
    have e2 := fun p : Ext w1 => Ext.cell' k2 p
    have e3 := fun p : Ext w1 => Ext.cell' k3 p
    have e4 := fun p : Ext w1 => Ext.cell' k4 p
    have e5 := fun p : Ext w1 => Ext.cell' k5 p
    have e6 := fun p : Ext w1 => Ext.cell' k6 p
    have e7 := fun p : Ext w1 => Ext.cell' k7 p
    have e8 := fun p : Ext w1 => Ext.cell' k8 p
    (refine wp_region_quiet_ext (by kernel_rfl) (by kernel_rfl) ?_; (repeat (go_big_quiet_step (((go_at_call 36; exact Calls.ext_of (RA.out _ _ (by omega) (by omega))))))); refine wpQuiet_nil ?_; rintro wq ⟨⟨_, hbq⟩, rfl⟩; obtain ⟨hccq, hffq⟩ := Bw.cells hbq; have hszq := Bw.size hbq)
    replace HBW := Lib.hid (HBW.out.trans hbq)
    go_wp2
    refine bodyPost_ret (v := .tuple #[.int .i64 SL, .int .i64 0]) ?_ rfl ⟨rfl, HBW.out⟩
    simp [results, Try.results12, go_sem]
    have := HSL.out
    omega
  · rw [if_neg h]
    have hne : (errA x != 0) = true := by simpa using h
    generalize errA x = er at *
    go_enter Try.func12, Try.ntmps12
    go_upto_region 1 with fail
    obtain ⟨W0, hW0⟩ : ∃ W0, (w.alloc (.cells #[.int .i64 (x 0), .int .i64 (x 1), .int .i64 (x 2), .int .i64 (x 3), .int .i64 (x 4), .int .i64 (x 5), .int .i64 (x 6), .int .i64 (x 7), .int .i64 (x 8)] 25)) = W0 := ⟨_, rfl⟩
    rw [hW0] at HBW KX ⊢
    clear hW0
    have k0 : W0.cell? ⟨w.heap.size, 0, none⟩ = some (.int .i64 (x 0)) := KX.out.cell rfl
    have k1 : W0.cell? ⟨w.heap.size, 1, none⟩ = some (.int .i64 (x 1)) := KX.out.cell rfl
    have k2 : W0.cell? ⟨w.heap.size, 2, none⟩ = some (.int .i64 (x 2)) := KX.out.cell rfl
    have k3 : W0.cell? ⟨w.heap.size, 3, none⟩ = some (.int .i64 (x 3)) := KX.out.cell rfl
    have k4 : W0.cell? ⟨w.heap.size, 4, none⟩ = some (.int .i64 (x 4)) := KX.out.cell rfl
    have k5 : W0.cell? ⟨w.heap.size, 5, none⟩ = some (.int .i64 (x 5)) := KX.out.cell rfl
    have k6 : W0.cell? ⟨w.heap.size, 6, none⟩ = some (.int .i64 (x 6)) := KX.out.cell rfl
    have k7 : W0.cell? ⟨w.heap.size, 7, none⟩ = some (.int .i64 (x 7)) := KX.out.cell rfl
    have k8 : W0.cell? ⟨w.heap.size, 8, none⟩ = some (.int .i64 (x 8)) := KX.out.cell rfl
    go_wp2_with (go_at_call 14; (with_reducible refine Calls.mono (CK.out _) ?_); rintro e1 w1 ⟨rfl, hb9⟩; replace HBW := Lib.hid (HBW.out.trans hb9); replace KX := Lib.hid (KX.out.bw hb9); clear hb9; clear k0 k1 k2 k3 k4 k5 k6 k7 k8; have k0 : w1.cell? ⟨w.heap.size, 0, none⟩ = some (.int .i64 (x 0)) := KX.out.cell rfl; have k1 : w1.cell? ⟨w.heap.size, 1, none⟩ = some (.int .i64 (x 1)) := KX.out.cell rfl; have k2 : w1.cell? ⟨w.heap.size, 2, none⟩ = some (.int .i64 (x 2)) := KX.out.cell rfl; have k3 : w1.cell? ⟨w.heap.size, 3, none⟩ = some (.int .i64 (x 3)) := KX.out.cell rfl; have k4 : w1.cell? ⟨w.heap.size, 4, none⟩ = some (.int .i64 (x 4)) := KX.out.cell rfl; have k5 : w1.cell? ⟨w.heap.size, 5, none⟩ = some (.int .i64 (x 5)) := KX.out.cell rfl; have k6 : w1.cell? ⟨w.heap.size, 6, none⟩ = some (.int .i64 (x 6)) := KX.out.cell rfl; have k7 : w1.cell? ⟨w.heap.size, 7, none⟩ = some (.int .i64 (x 7)) := KX.out.cell rfl; have k8 : w1.cell? ⟨w.heap.size, 8, none⟩ = some (.int .i64 (x 8)) := KX.out.cell rfl)
    refine bodyPost_ret (v := .tuple #[.int .i64 0, .int .i64 er]) ?_ rfl ⟨rfl, HBW.out⟩
    simp [results, Try.results12, go_sem]
theorem RCorrect_bad (x : Nat → Int) (ln bb up ub : Int) (w : World) (h : errA x ≠ 0) :
    Calls Try.prog 17 #[.agg #[.int .i64 (x 0), .int .i64 (x 1), .int .i64 (x 2), .int .i64 (x 3), .int .i64 (x 4), .int .i64 (x 5), .int .i64 (x 6), .int .i64 (x 7), .int .i64 (x 8)], .int .i64 ln, .int .i64 bb, .int .i64 up, .int .i64 ub] w fun e w' => e = .returned (.tuple #[.int .i64 0, .int .i64 0, .int .i64 (errA x)]) ∧ Bw w w' := by
  have SL := Lib.hid (fun W => RSlope_any x W)
  have hne : (errA x != 0) = true := by simpa using h
  rw [if_neg h] at SL
  have HBW := Lib.hid (Bw.alloc (Bw.refl w) (.cells #[.int .i64 (x 0), .int .i64 (x 1), .int .i64 (x 2), .int .i64 (x 3), .int .i64 (x 4), .int .i64 (x 5), .int .i64 (x 6), .int .i64 (x 7), .int .i64 (x 8)] 25))
  have KX := Lib.hid (Blk.new w 25 #[.int .i64 (x 0), .int .i64 (x 1), .int .i64 (x 2), .int .i64 (x 3), .int .i64 (x 4), .int .i64 (x 5), .int .i64 (x 6), .int .i64 (x 7), .int .i64 (x 8)])
  generalize errA x = er at *
  go_enter Try.func17, Try.ntmps17
  go_upto_region 1 with fail
  obtain ⟨W0, hW0⟩ : ∃ W0, (w.alloc (.cells #[.int .i64 (x 0), .int .i64 (x 1), .int .i64 (x 2), .int .i64 (x 3), .int .i64 (x 4), .int .i64 (x 5), .int .i64 (x 6), .int .i64 (x 7), .int .i64 (x 8)] 25)) = W0 := ⟨_, rfl⟩
  rw [hW0] at HBW KX ⊢
  clear hW0
  have k0 : W0.cell? ⟨w.heap.size, 0, none⟩ = some (.int .i64 (x 0)) := KX.out.cell rfl
  have k1 : W0.cell? ⟨w.heap.size, 1, none⟩ = some (.int .i64 (x 1)) := KX.out.cell rfl
  have k2 : W0.cell? ⟨w.heap.size, 2, none⟩ = some (.int .i64 (x 2)) := KX.out.cell rfl
  have k3 : W0.cell? ⟨w.heap.size, 3, none⟩ = some (.int .i64 (x 3)) := KX.out.cell rfl
  have k4 : W0.cell? ⟨w.heap.size, 4, none⟩ = some (.int .i64 (x 4)) := KX.out.cell rfl
  have k5 : W0.cell? ⟨w.heap.size, 5, none⟩ = some (.int .i64 (x 5)) := KX.out.cell rfl
  have k6 : W0.cell? ⟨w.heap.size, 6, none⟩ = some (.int .i64 (x 6)) := KX.out.cell rfl
  have k7 : W0.cell? ⟨w.heap.size, 7, none⟩ = some (.int .i64 (x 7)) := KX.out.cell rfl
  have k8 : W0.cell? ⟨w.heap.size, 8, none⟩ = some (.int .i64 (x 8)) := KX.out.cell rfl
  go_wp2_with (go_at_call 12; (with_reducible refine Calls.mono (SL.out _) ?_); rintro e1 w1 ⟨rfl, hb9⟩; replace HBW := Lib.hid (HBW.out.trans hb9); replace KX := Lib.hid (KX.out.bw hb9); clear hb9; clear k0 k1 k2 k3 k4 k5 k6 k7 k8; have k0 : w1.cell? ⟨w.heap.size, 0, none⟩ = some (.int .i64 (x 0)) := KX.out.cell rfl; have k1 : w1.cell? ⟨w.heap.size, 1, none⟩ = some (.int .i64 (x 1)) := KX.out.cell rfl; have k2 : w1.cell? ⟨w.heap.size, 2, none⟩ = some (.int .i64 (x 2)) := KX.out.cell rfl; have k3 : w1.cell? ⟨w.heap.size, 3, none⟩ = some (.int .i64 (x 3)) := KX.out.cell rfl; have k4 : w1.cell? ⟨w.heap.size, 4, none⟩ = some (.int .i64 (x 4)) := KX.out.cell rfl; have k5 : w1.cell? ⟨w.heap.size, 5, none⟩ = some (.int .i64 (x 5)) := KX.out.cell rfl; have k6 : w1.cell? ⟨w.heap.size, 6, none⟩ = some (.int .i64 (x 6)) := KX.out.cell rfl; have k7 : w1.cell? ⟨w.heap.size, 7, none⟩ = some (.int .i64 (x 7)) := KX.out.cell rfl; have k8 : w1.cell? ⟨w.heap.size, 8, none⟩ = some (.int .i64 (x 8)) := KX.out.cell rfl)
  refine bodyPost_ret (v := .tuple #[.int .i64 0, .int .i64 0, .int .i64 er]) ?_ rfl ⟨rfl, HBW.out⟩
  simp [results, Try.results17, go_sem]
theorem RCorrect_range (x : Nat → Int) (ln bb up ub : Int) (w : World) (h : errA x = 0) (hr : ¬ ((-10000000000000 ≤ ln ∧ ln ≤ 10000000000000) ∧ (0 ≤ bb ∧ bb ≤ 10000000000000) ∧ (0 ≤ up ∧ up ≤ 1073741824) ∧ 0 ≤ ub ∧ ub ≤ 1073741824)) :
    Calls Try.prog 17 #[.agg #[.int .i64 (x 0), .int .i64 (x 1), .int .i64 (x 2), .int .i64 (x 3), .int .i64 (x 4), .int .i64 (x 5), .int .i64 (x 6), .int .i64 (x 7), .int .i64 (x 8)], .int .i64 ln, .int .i64 bb, .int .i64 up, .int .i64 ub] w fun e w' => e = .returned (.tuple #[.int .i64 0, .int .i64 0, .int .i64 2]) ∧ Bw w w' := by
  have SL := Lib.hid (fun W => RSlope_any x W)
  rw [h, if_pos rfl] at SL
  have WL := Lib.hid (fun W v h => rwithin_any (-10000000000000) 10000000000000 [ln] v W h)
  have WB := Lib.hid (fun W v h => rwithin_any 0 10000000000000 [bb] v W h)
  have WU := Lib.hid (fun W v h => rwithin_any 0 1073741824 [up, ub] v W h)
  have hl : [ln].all (inR (-10000000000000) 10000000000000) = decide (-10000000000000 ≤ ln ∧ ln ≤ 10000000000000) := by simp [inR]
  have hb : [bb].all (inR 0 10000000000000) = decide (0 ≤ bb ∧ bb ≤ 10000000000000) := by simp [inR]
  have hu : [up, ub].all (inR 0 1073741824) = decide ((0 ≤ up ∧ up ≤ 1073741824) ∧ 0 ≤ ub ∧ ub ≤ 1073741824) := by simp [inR]
  rw [hl] at WL
  rw [hb] at WB
  rw [hu] at WU
  clear hl hb hu
  have HBW := Lib.hid (Bw.alloc (Bw.refl w) (.cells #[.int .i64 (x 0), .int .i64 (x 1), .int .i64 (x 2), .int .i64 (x 3), .int .i64 (x 4), .int .i64 (x 5), .int .i64 (x 6), .int .i64 (x 7), .int .i64 (x 8)] 25))
  have KX := Lib.hid (Blk.new w 25 #[.int .i64 (x 0), .int .i64 (x 1), .int .i64 (x 2), .int .i64 (x 3), .int .i64 (x 4), .int .i64 (x 5), .int .i64 (x 6), .int .i64 (x 7), .int .i64 (x 8)])
  generalize slopeN x = S at *
  by_cases q1 : -10000000000000 ≤ ln ∧ ln ≤ 10000000000000
  · rw [decide_eq_true q1] at WL
    by_cases q2 : 0 ≤ bb ∧ bb ≤ 10000000000000
    · rw [decide_eq_true q2] at WB
      rw [decide_eq_false (fun h9 => hr ⟨q1, q2, h9⟩)] at WU
      clear hr q1 q2
      go_enter Try.func17, Try.ntmps17
      go_upto_region 1 with fail
      obtain ⟨W0, hW0⟩ : ∃ W0, (w.alloc (.cells #[.int .i64 (x 0), .int .i64 (x 1), .int .i64 (x 2), .int .i64 (x 3), .int .i64 (x 4), .int .i64 (x 5), .int .i64 (x 6), .int .i64 (x 7), .int .i64 (x 8)] 25)) = W0 := ⟨_, rfl⟩
      rw [hW0] at HBW KX ⊢
      clear hW0
      have k0 : W0.cell? ⟨w.heap.size, 0, none⟩ = some (.int .i64 (x 0)) := KX.out.cell rfl
      have k1 : W0.cell? ⟨w.heap.size, 1, none⟩ = some (.int .i64 (x 1)) := KX.out.cell rfl
      have k2 : W0.cell? ⟨w.heap.size, 2, none⟩ = some (.int .i64 (x 2)) := KX.out.cell rfl
      have k3 : W0.cell? ⟨w.heap.size, 3, none⟩ = some (.int .i64 (x 3)) := KX.out.cell rfl
      have k4 : W0.cell? ⟨w.heap.size, 4, none⟩ = some (.int .i64 (x 4)) := KX.out.cell rfl
      have k5 : W0.cell? ⟨w.heap.size, 5, none⟩ = some (.int .i64 (x 5)) := KX.out.cell rfl
      have k6 : W0.cell? ⟨w.heap.size, 6, none⟩ = some (.int .i64 (x 6)) := KX.out.cell rfl
      have k7 : W0.cell? ⟨w.heap.size, 7, none⟩ = some (.int .i64 (x 7)) := KX.out.cell rfl
      have k8 : W0.cell? ⟨w.heap.size, 8, none⟩ = some (.int .i64 (x 8)) := KX.out.cell rfl
      go_wp2_with (first | (go_at_call 12; (with_reducible refine Calls.mono (SL.out _) ?_); rintro e1 w1 ⟨rfl, hb9⟩; replace HBW := Lib.hid (HBW.out.trans hb9); replace KX := Lib.hid (KX.out.bw hb9); clear hb9; clear k0 k1 k2 k3 k4 k5 k6 k7 k8; have k0 : w1.cell? ⟨w.heap.size, 0, none⟩ = some (.int .i64 (x 0)) := KX.out.cell rfl; have k1 : w1.cell? ⟨w.heap.size, 1, none⟩ = some (.int .i64 (x 1)) := KX.out.cell rfl; have k2 : w1.cell? ⟨w.heap.size, 2, none⟩ = some (.int .i64 (x 2)) := KX.out.cell rfl; have k3 : w1.cell? ⟨w.heap.size, 3, none⟩ = some (.int .i64 (x 3)) := KX.out.cell rfl; have k4 : w1.cell? ⟨w.heap.size, 4, none⟩ = some (.int .i64 (x 4)) := KX.out.cell rfl; have k5 : w1.cell? ⟨w.heap.size, 5, none⟩ = some (.int .i64 (x 5)) := KX.out.cell rfl; have k6 : w1.cell? ⟨w.heap.size, 6, none⟩ = some (.int .i64 (x 6)) := KX.out.cell rfl; have k7 : w1.cell? ⟨w.heap.size, 7, none⟩ = some (.int .i64 (x 7)) := KX.out.cell rfl; have k8 : w1.cell? ⟨w.heap.size, 8, none⟩ = some (.int .i64 (x 8)) := KX.out.cell rfl) | (go_at_call 32; (with_reducible refine Calls.mono (WL.out _ _ ?_) ?_); (focus exact RdI.litN _ _ _ [ln] _ (by simp) (by rfl) (by simp)); rintro e2 w2 ⟨rfl, hb9⟩; replace hb9 := (Bw.alloc (Bw.refl w1) (.cells #[.int .i64 ln] 3)).trans hb9; replace HBW := Lib.hid (HBW.out.trans hb9); replace KX := Lib.hid (KX.out.bw hb9); clear hb9; clear k0 k1 k2 k3 k4 k5 k6 k7 k8; have k0 : w2.cell? ⟨w.heap.size, 0, none⟩ = some (.int .i64 (x 0)) := KX.out.cell rfl; have k1 : w2.cell? ⟨w.heap.size, 1, none⟩ = some (.int .i64 (x 1)) := KX.out.cell rfl; have k2 : w2.cell? ⟨w.heap.size, 2, none⟩ = some (.int .i64 (x 2)) := KX.out.cell rfl; have k3 : w2.cell? ⟨w.heap.size, 3, none⟩ = some (.int .i64 (x 3)) := KX.out.cell rfl; have k4 : w2.cell? ⟨w.heap.size, 4, none⟩ = some (.int .i64 (x 4)) := KX.out.cell rfl; have k5 : w2.cell? ⟨w.heap.size, 5, none⟩ = some (.int .i64 (x 5)) := KX.out.cell rfl; have k6 : w2.cell? ⟨w.heap.size, 6, none⟩ = some (.int .i64 (x 6)) := KX.out.cell rfl; have k7 : w2.cell? ⟨w.heap.size, 7, none⟩ = some (.int .i64 (x 7)) := KX.out.cell rfl; have k8 : w2.cell? ⟨w.heap.size, 8, none⟩ = some (.int .i64 (x 8)) := KX.out.cell rfl) | (go_at_call 32; (with_reducible refine Calls.mono (WB.out _ _ ?_) ?_); (focus exact RdI.litN _ _ _ [bb] _ (by simp) (by rfl) (by simp)); rintro e2 w3 ⟨rfl, hb9⟩; replace hb9 := (Bw.alloc (Bw.refl w2) (.cells #[.int .i64 bb] 3)).trans hb9; replace HBW := Lib.hid (HBW.out.trans hb9); replace KX := Lib.hid (KX.out.bw hb9); clear hb9; clear k0 k1 k2 k3 k4 k5 k6 k7 k8; have k0 : w3.cell? ⟨w.heap.size, 0, none⟩ = some (.int .i64 (x 0)) := KX.out.cell rfl; have k1 : w3.cell? ⟨w.heap.size, 1, none⟩ = some (.int .i64 (x 1)) := KX.out.cell rfl; have k2 : w3.cell? ⟨w.heap.size, 2, none⟩ = some (.int .i64 (x 2)) := KX.out.cell rfl; have k3 : w3.cell? ⟨w.heap.size, 3, none⟩ = some (.int .i64 (x 3)) := KX.out.cell rfl; have k4 : w3.cell? ⟨w.heap.size, 4, none⟩ = some (.int .i64 (x 4)) := KX.out.cell rfl; have k5 : w3.cell? ⟨w.heap.size, 5, none⟩ = some (.int .i64 (x 5)) := KX.out.cell rfl; have k6 : w3.cell? ⟨w.heap.size, 6, none⟩ = some (.int .i64 (x 6)) := KX.out.cell rfl; have k7 : w3.cell? ⟨w.heap.size, 7, none⟩ = some (.int .i64 (x 7)) := KX.out.cell rfl; have k8 : w3.cell? ⟨w.heap.size, 8, none⟩ = some (.int .i64 (x 8)) := KX.out.cell rfl) | (go_at_call 32; (with_reducible refine Calls.mono (WU.out _ _ ?_) ?_); (focus exact RdI.litN _ _ _ [up, ub] _ (by simp) (by rfl) (by simp)); rintro e2 w4 ⟨rfl, hb9⟩; replace hb9 := (Bw.alloc (Bw.refl w3) (.cells #[.int .i64 up, .int .i64 ub] 3)).trans hb9; replace HBW := Lib.hid (HBW.out.trans hb9); replace KX := Lib.hid (KX.out.bw hb9); clear hb9; clear k0 k1 k2 k3 k4 k5 k6 k7 k8; have k0 : w4.cell? ⟨w.heap.size, 0, none⟩ = some (.int .i64 (x 0)) := KX.out.cell rfl; have k1 : w4.cell? ⟨w.heap.size, 1, none⟩ = some (.int .i64 (x 1)) := KX.out.cell rfl; have k2 : w4.cell? ⟨w.heap.size, 2, none⟩ = some (.int .i64 (x 2)) := KX.out.cell rfl; have k3 : w4.cell? ⟨w.heap.size, 3, none⟩ = some (.int .i64 (x 3)) := KX.out.cell rfl; have k4 : w4.cell? ⟨w.heap.size, 4, none⟩ = some (.int .i64 (x 4)) := KX.out.cell rfl; have k5 : w4.cell? ⟨w.heap.size, 5, none⟩ = some (.int .i64 (x 5)) := KX.out.cell rfl; have k6 : w4.cell? ⟨w.heap.size, 6, none⟩ = some (.int .i64 (x 6)) := KX.out.cell rfl; have k7 : w4.cell? ⟨w.heap.size, 7, none⟩ = some (.int .i64 (x 7)) := KX.out.cell rfl; have k8 : w4.cell? ⟨w.heap.size, 8, none⟩ = some (.int .i64 (x 8)) := KX.out.cell rfl))
      refine bodyPost_ret (v := .tuple #[.int .i64 0, .int .i64 0, .int .i64 2]) ?_ rfl ⟨rfl, HBW.out⟩
      simp [results, Try.results17, go_sem]
    · rw [decide_eq_false q2] at WB
      clear hr q1 q2
      go_enter Try.func17, Try.ntmps17
      go_upto_region 1 with fail
      obtain ⟨W0, hW0⟩ : ∃ W0, (w.alloc (.cells #[.int .i64 (x 0), .int .i64 (x 1), .int .i64 (x 2), .int .i64 (x 3), .int .i64 (x 4), .int .i64 (x 5), .int .i64 (x 6), .int .i64 (x 7), .int .i64 (x 8)] 25)) = W0 := ⟨_, rfl⟩
      rw [hW0] at HBW KX ⊢
      clear hW0
      have k0 : W0.cell? ⟨w.heap.size, 0, none⟩ = some (.int .i64 (x 0)) := KX.out.cell rfl
      have k1 : W0.cell? ⟨w.heap.size, 1, none⟩ = some (.int .i64 (x 1)) := KX.out.cell rfl
      have k2 : W0.cell? ⟨w.heap.size, 2, none⟩ = some (.int .i64 (x 2)) := KX.out.cell rfl
      have k3 : W0.cell? ⟨w.heap.size, 3, none⟩ = some (.int .i64 (x 3)) := KX.out.cell rfl
      have k4 : W0.cell? ⟨w.heap.size, 4, none⟩ = some (.int .i64 (x 4)) := KX.out.cell rfl
      have k5 : W0.cell? ⟨w.heap.size, 5, none⟩ = some (.int .i64 (x 5)) := KX.out.cell rfl
      have k6 : W0.cell? ⟨w.heap.size, 6, none⟩ = some (.int .i64 (x 6)) := KX.out.cell rfl
      have k7 : W0.cell? ⟨w.heap.size, 7, none⟩ = some (.int .i64 (x 7)) := KX.out.cell rfl
      have k8 : W0.cell? ⟨w.heap.size, 8, none⟩ = some (.int .i64 (x 8)) := KX.out.cell rfl
      go_wp2_with (first | (go_at_call 12; (with_reducible refine Calls.mono (SL.out _) ?_); rintro e1 w1 ⟨rfl, hb9⟩; replace HBW := Lib.hid (HBW.out.trans hb9); replace KX := Lib.hid (KX.out.bw hb9); clear hb9; clear k0 k1 k2 k3 k4 k5 k6 k7 k8; have k0 : w1.cell? ⟨w.heap.size, 0, none⟩ = some (.int .i64 (x 0)) := KX.out.cell rfl; have k1 : w1.cell? ⟨w.heap.size, 1, none⟩ = some (.int .i64 (x 1)) := KX.out.cell rfl; have k2 : w1.cell? ⟨w.heap.size, 2, none⟩ = some (.int .i64 (x 2)) := KX.out.cell rfl; have k3 : w1.cell? ⟨w.heap.size, 3, none⟩ = some (.int .i64 (x 3)) := KX.out.cell rfl; have k4 : w1.cell? ⟨w.heap.size, 4, none⟩ = some (.int .i64 (x 4)) := KX.out.cell rfl; have k5 : w1.cell? ⟨w.heap.size, 5, none⟩ = some (.int .i64 (x 5)) := KX.out.cell rfl; have k6 : w1.cell? ⟨w.heap.size, 6, none⟩ = some (.int .i64 (x 6)) := KX.out.cell rfl; have k7 : w1.cell? ⟨w.heap.size, 7, none⟩ = some (.int .i64 (x 7)) := KX.out.cell rfl; have k8 : w1.cell? ⟨w.heap.size, 8, none⟩ = some (.int .i64 (x 8)) := KX.out.cell rfl) | (go_at_call 32; (with_reducible refine Calls.mono (WL.out _ _ ?_) ?_); (focus exact RdI.litN _ _ _ [ln] _ (by simp) (by rfl) (by simp)); rintro e2 w2 ⟨rfl, hb9⟩; replace hb9 := (Bw.alloc (Bw.refl w1) (.cells #[.int .i64 ln] 3)).trans hb9; replace HBW := Lib.hid (HBW.out.trans hb9); replace KX := Lib.hid (KX.out.bw hb9); clear hb9; clear k0 k1 k2 k3 k4 k5 k6 k7 k8; have k0 : w2.cell? ⟨w.heap.size, 0, none⟩ = some (.int .i64 (x 0)) := KX.out.cell rfl; have k1 : w2.cell? ⟨w.heap.size, 1, none⟩ = some (.int .i64 (x 1)) := KX.out.cell rfl; have k2 : w2.cell? ⟨w.heap.size, 2, none⟩ = some (.int .i64 (x 2)) := KX.out.cell rfl; have k3 : w2.cell? ⟨w.heap.size, 3, none⟩ = some (.int .i64 (x 3)) := KX.out.cell rfl; have k4 : w2.cell? ⟨w.heap.size, 4, none⟩ = some (.int .i64 (x 4)) := KX.out.cell rfl; have k5 : w2.cell? ⟨w.heap.size, 5, none⟩ = some (.int .i64 (x 5)) := KX.out.cell rfl; have k6 : w2.cell? ⟨w.heap.size, 6, none⟩ = some (.int .i64 (x 6)) := KX.out.cell rfl; have k7 : w2.cell? ⟨w.heap.size, 7, none⟩ = some (.int .i64 (x 7)) := KX.out.cell rfl; have k8 : w2.cell? ⟨w.heap.size, 8, none⟩ = some (.int .i64 (x 8)) := KX.out.cell rfl) | (go_at_call 32; (with_reducible refine Calls.mono (WB.out _ _ ?_) ?_); (focus exact RdI.litN _ _ _ [bb] _ (by simp) (by rfl) (by simp)); rintro e2 w3 ⟨rfl, hb9⟩; replace hb9 := (Bw.alloc (Bw.refl w2) (.cells #[.int .i64 bb] 3)).trans hb9; replace HBW := Lib.hid (HBW.out.trans hb9); replace KX := Lib.hid (KX.out.bw hb9); clear hb9; clear k0 k1 k2 k3 k4 k5 k6 k7 k8; have k0 : w3.cell? ⟨w.heap.size, 0, none⟩ = some (.int .i64 (x 0)) := KX.out.cell rfl; have k1 : w3.cell? ⟨w.heap.size, 1, none⟩ = some (.int .i64 (x 1)) := KX.out.cell rfl; have k2 : w3.cell? ⟨w.heap.size, 2, none⟩ = some (.int .i64 (x 2)) := KX.out.cell rfl; have k3 : w3.cell? ⟨w.heap.size, 3, none⟩ = some (.int .i64 (x 3)) := KX.out.cell rfl; have k4 : w3.cell? ⟨w.heap.size, 4, none⟩ = some (.int .i64 (x 4)) := KX.out.cell rfl; have k5 : w3.cell? ⟨w.heap.size, 5, none⟩ = some (.int .i64 (x 5)) := KX.out.cell rfl; have k6 : w3.cell? ⟨w.heap.size, 6, none⟩ = some (.int .i64 (x 6)) := KX.out.cell rfl; have k7 : w3.cell? ⟨w.heap.size, 7, none⟩ = some (.int .i64 (x 7)) := KX.out.cell rfl; have k8 : w3.cell? ⟨w.heap.size, 8, none⟩ = some (.int .i64 (x 8)) := KX.out.cell rfl))
      refine bodyPost_ret (v := .tuple #[.int .i64 0, .int .i64 0, .int .i64 2]) ?_ rfl ⟨rfl, HBW.out⟩
      simp [results, Try.results17, go_sem]
  · rw [decide_eq_false q1] at WL
    clear hr q1
    go_enter Try.func17, Try.ntmps17
    go_upto_region 1 with fail
    obtain ⟨W0, hW0⟩ : ∃ W0, (w.alloc (.cells #[.int .i64 (x 0), .int .i64 (x 1), .int .i64 (x 2), .int .i64 (x 3), .int .i64 (x 4), .int .i64 (x 5), .int .i64 (x 6), .int .i64 (x 7), .int .i64 (x 8)] 25)) = W0 := ⟨_, rfl⟩
    rw [hW0] at HBW KX ⊢
    clear hW0
    have k0 : W0.cell? ⟨w.heap.size, 0, none⟩ = some (.int .i64 (x 0)) := KX.out.cell rfl
    have k1 : W0.cell? ⟨w.heap.size, 1, none⟩ = some (.int .i64 (x 1)) := KX.out.cell rfl
    have k2 : W0.cell? ⟨w.heap.size, 2, none⟩ = some (.int .i64 (x 2)) := KX.out.cell rfl
    have k3 : W0.cell? ⟨w.heap.size, 3, none⟩ = some (.int .i64 (x 3)) := KX.out.cell rfl
    have k4 : W0.cell? ⟨w.heap.size, 4, none⟩ = some (.int .i64 (x 4)) := KX.out.cell rfl
    have k5 : W0.cell? ⟨w.heap.size, 5, none⟩ = some (.int .i64 (x 5)) := KX.out.cell rfl
    have k6 : W0.cell? ⟨w.heap.size, 6, none⟩ = some (.int .i64 (x 6)) := KX.out.cell rfl
    have k7 : W0.cell? ⟨w.heap.size, 7, none⟩ = some (.int .i64 (x 7)) := KX.out.cell rfl
    have k8 : W0.cell? ⟨w.heap.size, 8, none⟩ = some (.int .i64 (x 8)) := KX.out.cell rfl
    go_wp2_with (first | (go_at_call 12; (with_reducible refine Calls.mono (SL.out _) ?_); rintro e1 w1 ⟨rfl, hb9⟩; replace HBW := Lib.hid (HBW.out.trans hb9); replace KX := Lib.hid (KX.out.bw hb9); clear hb9; clear k0 k1 k2 k3 k4 k5 k6 k7 k8; have k0 : w1.cell? ⟨w.heap.size, 0, none⟩ = some (.int .i64 (x 0)) := KX.out.cell rfl; have k1 : w1.cell? ⟨w.heap.size, 1, none⟩ = some (.int .i64 (x 1)) := KX.out.cell rfl; have k2 : w1.cell? ⟨w.heap.size, 2, none⟩ = some (.int .i64 (x 2)) := KX.out.cell rfl; have k3 : w1.cell? ⟨w.heap.size, 3, none⟩ = some (.int .i64 (x 3)) := KX.out.cell rfl; have k4 : w1.cell? ⟨w.heap.size, 4, none⟩ = some (.int .i64 (x 4)) := KX.out.cell rfl; have k5 : w1.cell? ⟨w.heap.size, 5, none⟩ = some (.int .i64 (x 5)) := KX.out.cell rfl; have k6 : w1.cell? ⟨w.heap.size, 6, none⟩ = some (.int .i64 (x 6)) := KX.out.cell rfl; have k7 : w1.cell? ⟨w.heap.size, 7, none⟩ = some (.int .i64 (x 7)) := KX.out.cell rfl; have k8 : w1.cell? ⟨w.heap.size, 8, none⟩ = some (.int .i64 (x 8)) := KX.out.cell rfl) | (go_at_call 32; (with_reducible refine Calls.mono (WL.out _ _ ?_) ?_); (focus exact RdI.litN _ _ _ [ln] _ (by simp) (by rfl) (by simp)); rintro e2 w2 ⟨rfl, hb9⟩; replace hb9 := (Bw.alloc (Bw.refl w1) (.cells #[.int .i64 ln] 3)).trans hb9; replace HBW := Lib.hid (HBW.out.trans hb9); replace KX := Lib.hid (KX.out.bw hb9); clear hb9; clear k0 k1 k2 k3 k4 k5 k6 k7 k8; have k0 : w2.cell? ⟨w.heap.size, 0, none⟩ = some (.int .i64 (x 0)) := KX.out.cell rfl; have k1 : w2.cell? ⟨w.heap.size, 1, none⟩ = some (.int .i64 (x 1)) := KX.out.cell rfl; have k2 : w2.cell? ⟨w.heap.size, 2, none⟩ = some (.int .i64 (x 2)) := KX.out.cell rfl; have k3 : w2.cell? ⟨w.heap.size, 3, none⟩ = some (.int .i64 (x 3)) := KX.out.cell rfl; have k4 : w2.cell? ⟨w.heap.size, 4, none⟩ = some (.int .i64 (x 4)) := KX.out.cell rfl; have k5 : w2.cell? ⟨w.heap.size, 5, none⟩ = some (.int .i64 (x 5)) := KX.out.cell rfl; have k6 : w2.cell? ⟨w.heap.size, 6, none⟩ = some (.int .i64 (x 6)) := KX.out.cell rfl; have k7 : w2.cell? ⟨w.heap.size, 7, none⟩ = some (.int .i64 (x 7)) := KX.out.cell rfl; have k8 : w2.cell? ⟨w.heap.size, 8, none⟩ = some (.int .i64 (x 8)) := KX.out.cell rfl))
    refine bodyPost_ret (v := .tuple #[.int .i64 0, .int .i64 0, .int .i64 2]) ?_ rfl ⟨rfl, HBW.out⟩
    simp [results, Try.results17, go_sem]
theorem RCorrect_ok (x : Nat → Int) (ln bb up ub : Int) (w : World) (h : errA x = 0) (hr : (-10000000000000 ≤ ln ∧ ln ≤ 10000000000000) ∧ (0 ≤ bb ∧ bb ≤ 10000000000000) ∧ (0 ≤ up ∧ up ≤ 1073741824) ∧ 0 ≤ ub ∧ ub ≤ 1073741824) :
    Calls Try.prog 17 #[.agg #[.int .i64 (x 0), .int .i64 (x 1), .int .i64 (x 2), .int .i64 (x 3), .int .i64 (x 4), .int .i64 (x 5), .int .i64 (x 6), .int .i64 (x 7), .int .i64 (x 8)], .int .i64 ln, .int .i64 bb, .int .i64 up, .int .i64 ub] w fun e w' => e = .returned (.tuple #[.int .i64 (ln - ionoD x up - tropoD x up), .int .i64 (bb + x 7 + x 8 + (slopeN x * ub + 1073741824 - 1) / 1073741824 + 2), .int .i64 0]) ∧ Bw w w' := by
  have SL := Lib.hid (fun W => RSlope_any x W)
  rw [h, if_pos rfl] at SL
  have WL := Lib.hid (fun W v h => rwithin_any (-10000000000000) 10000000000000 [ln] v W h)
  have WB := Lib.hid (fun W v h => rwithin_any 0 10000000000000 [bb] v W h)
  have WU := Lib.hid (fun W v h => rwithin_any 0 1073741824 [up, ub] v W h)
  have hl : [ln].all (inR (-10000000000000) 10000000000000) = decide (-10000000000000 ≤ ln ∧ ln ≤ 10000000000000) := by simp [inR]
  have hb : [bb].all (inR 0 10000000000000) = decide (0 ≤ bb ∧ bb ≤ 10000000000000) := by simp [inR]
  have hu : [up, ub].all (inR 0 1073741824) = decide ((0 ≤ up ∧ up ≤ 1073741824) ∧ 0 ≤ ub ∧ ub ≤ 1073741824) := by simp [inR]
  rw [hl] at WL
  rw [hb] at WB
  rw [hu] at WU
  clear hl hb hu
  rw [decide_eq_true hr.1] at WL
  rw [decide_eq_true hr.2.1] at WB
  rw [decide_eq_true hr.2.2] at WU
  have DL := Lib.hid (fun W => RDelay_any x up W)
  have hall := errA_all h
  have x7 := hall 7 (by omega)
  have x8 := hall 8 (by omega)
  have hsb := slope_bd h
  have hib := iono_bd h up hr.2.2.1
  clear hall
  have he : errD x up = 0 := by unfold errD; rw [if_pos h, if_pos hr.2.2.1]
  rw [he] at DL
  obtain ⟨S, hS⟩ : ∃ S, S = slopeN x := ⟨_, rfl⟩
  rw [← hS] at SL hsb ⊢
  clear hS he
  generalize ionoD x up = I at *
  generalize tropoD x up = Tr9 at *
  have hpm := mul_bd3 S ub 9000000 1073741824 (by omega) (by omega) (by omega) (by omega)
  have hp0 := Int.mul_nonneg hsb.1 hr.2.2.2.1
  obtain ⟨P, hP⟩ : ∃ P, P = S * ub := ⟨_, rfl⟩
  rw [← hP] at hpm hp0
  have htd : (S * ub + 1073741824 - 1).tdiv 1073741824 = (S * ub + 1073741824 - 1) / 1073741824 := Int.tdiv_eq_ediv_of_nonneg (by rw [← hP]; omega)
  have hpm2 : 0 ≤ S * ub ∧ S * ub ≤ 9663676416000000 := by rw [← hP]; omega
  clear hpm hp0 hP
  have HBW := Lib.hid (Bw.alloc (Bw.refl w) (.cells #[.int .i64 (x 0), .int .i64 (x 1), .int .i64 (x 2), .int .i64 (x 3), .int .i64 (x 4), .int .i64 (x 5), .int .i64 (x 6), .int .i64 (x 7), .int .i64 (x 8)] 25))
  have KX := Lib.hid (Blk.new w 25 #[.int .i64 (x 0), .int .i64 (x 1), .int .i64 (x 2), .int .i64 (x 3), .int .i64 (x 4), .int .i64 (x 5), .int .i64 (x 6), .int .i64 (x 7), .int .i64 (x 8)])
  go_enter Try.func17, Try.ntmps17
  go_upto_region 1 with fail
  obtain ⟨W0, hW0⟩ : ∃ W0, (w.alloc (.cells #[.int .i64 (x 0), .int .i64 (x 1), .int .i64 (x 2), .int .i64 (x 3), .int .i64 (x 4), .int .i64 (x 5), .int .i64 (x 6), .int .i64 (x 7), .int .i64 (x 8)] 25)) = W0 := ⟨_, rfl⟩
  rw [hW0] at HBW KX ⊢
  clear hW0
  have k0 : W0.cell? ⟨w.heap.size, 0, none⟩ = some (.int .i64 (x 0)) := KX.out.cell rfl
  have k1 : W0.cell? ⟨w.heap.size, 1, none⟩ = some (.int .i64 (x 1)) := KX.out.cell rfl
  have k2 : W0.cell? ⟨w.heap.size, 2, none⟩ = some (.int .i64 (x 2)) := KX.out.cell rfl
  have k3 : W0.cell? ⟨w.heap.size, 3, none⟩ = some (.int .i64 (x 3)) := KX.out.cell rfl
  have k4 : W0.cell? ⟨w.heap.size, 4, none⟩ = some (.int .i64 (x 4)) := KX.out.cell rfl
  have k5 : W0.cell? ⟨w.heap.size, 5, none⟩ = some (.int .i64 (x 5)) := KX.out.cell rfl
  have k6 : W0.cell? ⟨w.heap.size, 6, none⟩ = some (.int .i64 (x 6)) := KX.out.cell rfl
  have k7 : W0.cell? ⟨w.heap.size, 7, none⟩ = some (.int .i64 (x 7)) := KX.out.cell rfl
  have k8 : W0.cell? ⟨w.heap.size, 8, none⟩ = some (.int .i64 (x 8)) := KX.out.cell rfl
  go_upto_region 7 with (first | (go_at_call 12; (with_reducible refine Calls.mono (SL.out _) ?_); rintro e1 w1 ⟨rfl, hb9⟩; replace HBW := Lib.hid (HBW.out.trans hb9); replace KX := Lib.hid (KX.out.bw hb9); clear hb9; clear k0 k1 k2 k3 k4 k5 k6 k7 k8; have k0 : w1.cell? ⟨w.heap.size, 0, none⟩ = some (.int .i64 (x 0)) := KX.out.cell rfl; have k1 : w1.cell? ⟨w.heap.size, 1, none⟩ = some (.int .i64 (x 1)) := KX.out.cell rfl; have k2 : w1.cell? ⟨w.heap.size, 2, none⟩ = some (.int .i64 (x 2)) := KX.out.cell rfl; have k3 : w1.cell? ⟨w.heap.size, 3, none⟩ = some (.int .i64 (x 3)) := KX.out.cell rfl; have k4 : w1.cell? ⟨w.heap.size, 4, none⟩ = some (.int .i64 (x 4)) := KX.out.cell rfl; have k5 : w1.cell? ⟨w.heap.size, 5, none⟩ = some (.int .i64 (x 5)) := KX.out.cell rfl; have k6 : w1.cell? ⟨w.heap.size, 6, none⟩ = some (.int .i64 (x 6)) := KX.out.cell rfl; have k7 : w1.cell? ⟨w.heap.size, 7, none⟩ = some (.int .i64 (x 7)) := KX.out.cell rfl; have k8 : w1.cell? ⟨w.heap.size, 8, none⟩ = some (.int .i64 (x 8)) := KX.out.cell rfl) | (go_at_call 32; (with_reducible refine Calls.mono (WL.out _ _ ?_) ?_); (focus exact RdI.litN _ _ _ [ln] _ (by simp) (by rfl) (by simp)); rintro e2 w2 ⟨rfl, hb9⟩; replace hb9 := (Bw.alloc (Bw.refl w1) (.cells #[.int .i64 ln] 3)).trans hb9; replace HBW := Lib.hid (HBW.out.trans hb9); replace KX := Lib.hid (KX.out.bw hb9); clear hb9; clear k0 k1 k2 k3 k4 k5 k6 k7 k8; have k0 : w2.cell? ⟨w.heap.size, 0, none⟩ = some (.int .i64 (x 0)) := KX.out.cell rfl; have k1 : w2.cell? ⟨w.heap.size, 1, none⟩ = some (.int .i64 (x 1)) := KX.out.cell rfl; have k2 : w2.cell? ⟨w.heap.size, 2, none⟩ = some (.int .i64 (x 2)) := KX.out.cell rfl; have k3 : w2.cell? ⟨w.heap.size, 3, none⟩ = some (.int .i64 (x 3)) := KX.out.cell rfl; have k4 : w2.cell? ⟨w.heap.size, 4, none⟩ = some (.int .i64 (x 4)) := KX.out.cell rfl; have k5 : w2.cell? ⟨w.heap.size, 5, none⟩ = some (.int .i64 (x 5)) := KX.out.cell rfl; have k6 : w2.cell? ⟨w.heap.size, 6, none⟩ = some (.int .i64 (x 6)) := KX.out.cell rfl; have k7 : w2.cell? ⟨w.heap.size, 7, none⟩ = some (.int .i64 (x 7)) := KX.out.cell rfl; have k8 : w2.cell? ⟨w.heap.size, 8, none⟩ = some (.int .i64 (x 8)) := KX.out.cell rfl) | (go_at_call 32; (with_reducible refine Calls.mono (WB.out _ _ ?_) ?_); (focus exact RdI.litN _ _ _ [bb] _ (by simp) (by rfl) (by simp)); rintro e2 w3 ⟨rfl, hb9⟩; replace hb9 := (Bw.alloc (Bw.refl w2) (.cells #[.int .i64 bb] 3)).trans hb9; replace HBW := Lib.hid (HBW.out.trans hb9); replace KX := Lib.hid (KX.out.bw hb9); clear hb9; clear k0 k1 k2 k3 k4 k5 k6 k7 k8; have k0 : w3.cell? ⟨w.heap.size, 0, none⟩ = some (.int .i64 (x 0)) := KX.out.cell rfl; have k1 : w3.cell? ⟨w.heap.size, 1, none⟩ = some (.int .i64 (x 1)) := KX.out.cell rfl; have k2 : w3.cell? ⟨w.heap.size, 2, none⟩ = some (.int .i64 (x 2)) := KX.out.cell rfl; have k3 : w3.cell? ⟨w.heap.size, 3, none⟩ = some (.int .i64 (x 3)) := KX.out.cell rfl; have k4 : w3.cell? ⟨w.heap.size, 4, none⟩ = some (.int .i64 (x 4)) := KX.out.cell rfl; have k5 : w3.cell? ⟨w.heap.size, 5, none⟩ = some (.int .i64 (x 5)) := KX.out.cell rfl; have k6 : w3.cell? ⟨w.heap.size, 6, none⟩ = some (.int .i64 (x 6)) := KX.out.cell rfl; have k7 : w3.cell? ⟨w.heap.size, 7, none⟩ = some (.int .i64 (x 7)) := KX.out.cell rfl; have k8 : w3.cell? ⟨w.heap.size, 8, none⟩ = some (.int .i64 (x 8)) := KX.out.cell rfl) | (go_at_call 32; (with_reducible refine Calls.mono (WU.out _ _ ?_) ?_); (focus exact RdI.litN _ _ _ [up, ub] _ (by simp) (by rfl) (by simp)); rintro e2 w4 ⟨rfl, hb9⟩; replace hb9 := (Bw.alloc (Bw.refl w3) (.cells #[.int .i64 up, .int .i64 ub] 3)).trans hb9; replace HBW := Lib.hid (HBW.out.trans hb9); replace KX := Lib.hid (KX.out.bw hb9); clear hb9; clear k0 k1 k2 k3 k4 k5 k6 k7 k8; have k0 : w4.cell? ⟨w.heap.size, 0, none⟩ = some (.int .i64 (x 0)) := KX.out.cell rfl; have k1 : w4.cell? ⟨w.heap.size, 1, none⟩ = some (.int .i64 (x 1)) := KX.out.cell rfl; have k2 : w4.cell? ⟨w.heap.size, 2, none⟩ = some (.int .i64 (x 2)) := KX.out.cell rfl; have k3 : w4.cell? ⟨w.heap.size, 3, none⟩ = some (.int .i64 (x 3)) := KX.out.cell rfl; have k4 : w4.cell? ⟨w.heap.size, 4, none⟩ = some (.int .i64 (x 4)) := KX.out.cell rfl; have k5 : w4.cell? ⟨w.heap.size, 5, none⟩ = some (.int .i64 (x 5)) := KX.out.cell rfl; have k6 : w4.cell? ⟨w.heap.size, 6, none⟩ = some (.int .i64 (x 6)) := KX.out.cell rfl; have k7 : w4.cell? ⟨w.heap.size, 7, none⟩ = some (.int .i64 (x 7)) := KX.out.cell rfl; have k8 : w4.cell? ⟨w.heap.size, 8, none⟩ = some (.int .i64 (x 8)) := KX.out.cell rfl) | (go_at_call 10; (with_reducible refine Calls.mono (DL.out _) ?_); rintro e1 w5 ⟨rfl, hb9⟩; replace HBW := Lib.hid (HBW.out.trans hb9); replace KX := Lib.hid (KX.out.bw hb9); clear hb9; clear k0 k1 k2 k3 k4 k5 k6 k7 k8; have k0 : w5.cell? ⟨w.heap.size, 0, none⟩ = some (.int .i64 (x 0)) := KX.out.cell rfl; have k1 : w5.cell? ⟨w.heap.size, 1, none⟩ = some (.int .i64 (x 1)) := KX.out.cell rfl; have k2 : w5.cell? ⟨w.heap.size, 2, none⟩ = some (.int .i64 (x 2)) := KX.out.cell rfl; have k3 : w5.cell? ⟨w.heap.size, 3, none⟩ = some (.int .i64 (x 3)) := KX.out.cell rfl; have k4 : w5.cell? ⟨w.heap.size, 4, none⟩ = some (.int .i64 (x 4)) := KX.out.cell rfl; have k5 : w5.cell? ⟨w.heap.size, 5, none⟩ = some (.int .i64 (x 5)) := KX.out.cell rfl; have k6 : w5.cell? ⟨w.heap.size, 6, none⟩ = some (.int .i64 (x 6)) := KX.out.cell rfl; have k7 : w5.cell? ⟨w.heap.size, 7, none⟩ = some (.int .i64 (x 7)) := KX.out.cell rfl; have k8 : w5.cell? ⟨w.heap.size, 8, none⟩ = some (.int .i64 (x 8)) := KX.out.cell rfl))
  have e7 := fun p : Ext w5 => Ext.cell' k7 p
  have e8 := fun p : Ext w5 => Ext.cell' k8 p
  (refine wp_region_quiet_ext (by kernel_rfl) (by kernel_rfl) ?_; (repeat (go_big_quiet_step ((fail)))); refine wpQuiet_nil ?_; rintro wq ⟨⟨_, hbq⟩, rfl⟩; obtain ⟨hccq, hffq⟩ := Bw.cells hbq; have hszq := Bw.size hbq)
  replace HBW := Lib.hid (HBW.out.trans hbq)
  go_wp2
  refine bodyPost_ret (v := .tuple #[.int .i64 (ln - I - Tr9), .int .i64 (bb + x 7 + x 8 + (S * ub + 1073741824 - 1) / 1073741824 + 2), .int .i64 0]) ?_ rfl ⟨rfl, HBW.out⟩
  simp [results, Try.results17, go_sem]
end Go.Proofs.Sky

namespace Go.Proofs.Sky
open Go Go.RowKit Go.Shelf
set_option maxHeartbeats 4000000
set_option maxRecDepth 4000
theorem run_mxI2 {P : Program} {w : World} (ts : Array TypeId) (t : TypeId) (k k' : IntKind) (x y : Int) : (Builtin.max_ ts t #[.int k x, .int k' y]).run P w = .ok (.int k (max x y)) w := by
  rw [run_max_int2 w ts t k k' x y]
  congr 2
  split <;> omega
theorem run_mnI2 {P : Program} {w : World} (ts : Array TypeId) (t : TypeId) (k k' : IntKind) (x y : Int) : (Builtin.min_ ts t #[.int k x, .int k' y]).run P w = .ok (.int k (min x y)) w := by
  rw [run_min_int2 w ts t k k' x y]
  congr 2
  split <;> omega
attribute [-go_sem] run_max_int2 run_min_int2
attribute [local go_sem] run_mxI2 run_mnI2
theorem true_plain {x : Nat → Int} (h : errA x = 0) (a b B : Int) (ha : 0 ≤ a ∧ a ≤ 1073741824) (hb : 0 ≤ b ∧ b ≤ 1073741824) (h1 : -B ≤ a - b) (h2 : a - b ≤ B) :
    ionoD x a + tropoD x a - ionoD x b - tropoD x b ≤ (slopeN x * B + 1073741824 - 1) / 1073741824 + 2 ∧ -(ionoD x a + tropoD x a - ionoD x b - tropoD x b) ≤ (slopeN x * B + 1073741824 - 1) / 1073741824 + 2 := by
  have hd := delta h a b B ha hb h1 h2
  generalize slopeN x * B = P at *
  omega
theorem Correct_ok2 (x : Nat → Int) (ln bb up ub : Int) (w : World) (h : errA x = 0) (hr : -10000000000000 ≤ ln ∧ ln ≤ 10000000000000 ∧ 0 ≤ bb ∧ bb ≤ 10000000000000 ∧ 0 ≤ ub ∧ ub ≤ 1073741824) (hu : 0 ≤ up ∧ up ≤ 1073741824) :
    Calls Try.prog 16 #[.agg #[.int .i64 (x 0), .int .i64 (x 1), .int .i64 (x 2), .int .i64 (x 3), .int .i64 (x 4), .int .i64 (x 5), .int .i64 (x 6), .int .i64 (x 7), .int .i64 (x 8)], .int .i64 ln, .int .i64 bb, .int .i64 up, .int .i64 ub] w fun e w' => e = .returned (.tuple #[.int .i64 (ln - ionoD x up - tropoD x up), .int .i64 (bb + x 7 + x 8 + (slopeN x * ub + 1073741824 - 1) / 1073741824 + 2), .int .i64 0]) ∧ Bw w w' := by
  have h9 := Correct_ok x ln bb up ub w h hr hu
  unfold ionoD tropoD
  rw [if_pos ⟨h, hu⟩, if_pos ⟨h, hu⟩]
  exact h9
theorem law_true (zs ms : List Int) (v v2 : Value) (length up upBy : Int) (w : World) (hv : RdI w v zs) (hv2 : RdI w v2 ms) : Calls Try.prog 7 #[v, .int .i64 length, .int .i64 up, .int .i64 upBy, v2] w fun e w' => e = .returned (.bool true) ∧ Bw w w' := by
  have HV := Lib.hid hv
  have HV2 := Lib.hid hv2
  obtain ⟨ad, cap, rfl⟩ := hv.form
  obtain ⟨ad2, cap2, rfl⟩ := hv2.form
  clear hv hv2
  have OF := Lib.hid (fun W hW => of_any zs (.slice ad zs.length cap) W hW)
  have hx0 := ofX_ok zs
  generalize ofX zs = x at OF hx0
  unfold atV at OF
  have CKA := Lib.hid (show ∀ W1 g, Blk W1 g 25 (atV x) → ∀ i, i < 9 → W1.cell? ⟨g, i, none⟩ = some (.int .i64 (x i)) from fun W1 g hB i hi => hB.cell (atV_at x i hi))
  unfold atV at CKA
  have hall := errA_all hx0
  have h7 := hall 7 (by omega)
  have h8 := hall 8 (by omega)
  clear hall
  have NT := Lib.hid (fun i W hW => Nth_any ms (.slice ad2 ms.length cap2) i W hW)
  have BL := Lib.hid (fun W => Below_any length 1000000000001 W (by decide) (by decide))
  have bL := bel_bd length 1000000000001 (by decide)
  generalize bel length 1000000000001 = L at BL bL
  have BU := Lib.hid (fun W => Below_any up 1073741825 W (by decide) (by decide))
  have bU := bel_bd up 1073741825 (by decide)
  generalize bel up 1073741825 = U at BU bU
  have BB := Lib.hid (fun W => Below_any upBy 1073741825 W (by decide) (by decide))
  have bB := bel_bd upBy 1073741825 (by decide)
  generalize bel upBy 1073741825 = B at BB bB
  have BY := Lib.hid (fun W => Below_any (nth ms 0) 1000001 W (by decide) (by decide))
  have bY := bel_bd (nth ms 0) 1000001 (by decide)
  generalize bel (nth ms 0) 1000001 = Y at BY bY
  have B1 := Lib.hid (fun W => Below_any (nth ms 1) (2 * x 7 + 1) W (by omega) (by omega))
  have b1 := bel_bd (nth ms 1) (2 * x 7 + 1) (by omega)
  generalize bel (nth ms 1) (2 * x 7 + 1) = e1 at B1 b1
  have B2 := Lib.hid (fun W => Below_any (nth ms 2) (2 * x 8 + 1) W (by omega) (by omega))
  have b2 := bel_bd (nth ms 2) (2 * x 8 + 1) (by omega)
  generalize bel (nth ms 2) (2 * x 8 + 1) = e2 at B2 b2
  have B3 := Lib.hid (fun W => Below_any (nth ms 3) (2 * Y + 1) W (by omega) (by omega))
  have b3 := bel_bd (nth ms 3) (2 * Y + 1) (by omega)
  generalize bel (nth ms 3) (2 * Y + 1) = e3 at B3 b3
  have B4 := Lib.hid (fun W => Below_any (nth ms 4) (2 * B + 1) W (by omega) (by omega))
  have b4 := bel_bd (nth ms 4) (2 * B + 1) (by omega)
  generalize bel (nth ms 4) (2 * B + 1) = e4 at B4 b4
  have DU := Lib.hid (fun W => Delay_any x U W)
  have eU : errD x U = 0 := by unfold errD; rw [if_pos hx0, if_pos (by omega)]
  rw [eU] at DU
  clear eU
  obtain ⟨S, hS⟩ : ∃ S : Int, S = (max 0 (min 1073741824 (U + e4 - B))) := ⟨_, rfl⟩
  have bS : 0 ≤ S ∧ S ≤ 1073741824 := by omega
  have hpl := true_plain hx0 U S B (by omega) bS (by omega) (by omega)
  have hiU := iono_bd hx0 U (by omega)
  have hiS := iono_bd hx0 S bS
  obtain ⟨M, hM⟩ : ∃ M : Int, M = L + ionoD x U + e1 - x 7 + tropoD x U + e2 - x 8 + e3 - Y := ⟨_, rfl⟩
  have CR := Lib.hid (fun W => Correct_ok2 x M Y S B W hx0 (by omega) bS)
  have hsl := slope_bd hx0
  have hmu := mul_bd3 (slopeN x) B 9000000 1073741824 (by omega) (by omega) (by omega) (by omega)
  have hmn : 0 ≤ slopeN x * B := Int.mul_nonneg (by omega) (by omega)
  generalize ionoD x U = p at *
  generalize tropoD x U = q at *
  generalize ionoD x S = r at *
  generalize tropoD x S = s at *
  generalize slopeN x * B = sb at *
  obtain ⟨BD, hBD⟩ : ∃ BD : Int, BD = Y + x 7 + x 8 + (sb + 1073741824 - 1) / 1073741824 + 2 := ⟨_, rfl⟩
  obtain ⟨F, hF⟩ : ∃ F : Int, F = M - r - s := ⟨_, rfl⟩
  rw [← hBD, ← hF] at CR
  have f1 : F - L ≤ BD := by omega
  have f2 : L - F ≤ BD := by omega
  have f3 : Y ≤ BD := by omega
  have f4 : -40000000000000 ≤ F ∧ F ≤ 40000000000000 := by omega
  have f5 : BD ≤ 40000000000000 := by omega
  clear hF hBD hpl hmu hmn hsl hiS
  have HF := Lib.hid (And.intro f1 (And.intro f2 (And.intro f3 (And.intro f4 f5))))
  clear f1 f2 f3 f4 f5
  have AW := Lib.hid (fun W => awake_any W)
  clear hx0
  have HBW := Lib.hid (Bw.refl w)
  go_enter Try.func7, Try.ntmps7
  go_upto_region 2 with (go_at_call 26; (with_reducible refine Calls.mono (OF.out _ (HV.out.mono HBW.out)) ?_); rintro e9 w1 ⟨rfl, hb9⟩; replace HBW := Lib.hid (HBW.out.trans hb9); clear hb9)
  have MX := Lib.hid (Blk.new w1 25 #[.int .i64 (x 0), .int .i64 (x 1), .int .i64 (x 2), .int .i64 (x 3), .int .i64 (x 4), .int .i64 (x 5), .int .i64 (x 6), .int .i64 (x 7), .int .i64 (x 8)])
  replace HBW := Lib.hid (Bw.alloc HBW.out (.cells #[.int .i64 (x 0), .int .i64 (x 1), .int .i64 (x 2), .int .i64 (x 3), .int .i64 (x 4), .int .i64 (x 5), .int .i64 (x 6), .int .i64 (x 7), .int .i64 (x 8)] 25))
  obtain ⟨G, hG⟩ : ∃ G, w1.heap.size = G := ⟨_, rfl⟩
  generalize w1.alloc (.cells #[.int .i64 (x 0), .int .i64 (x 1), .int .i64 (x 2), .int .i64 (x 3), .int .i64 (x 4), .int .i64 (x 5), .int .i64 (x 6), .int .i64 (x 7), .int .i64 (x 8)] 25) = u1 at MX HBW ⊢
  rw [hG] at MX ⊢
  clear hG OF
  have k0 : u1.cell? ⟨G, 0, none⟩ = some (.int .i64 (x 0)) := CKA.out _ _ MX.out 0 (by omega)
  have k1 : u1.cell? ⟨G, 1, none⟩ = some (.int .i64 (x 1)) := CKA.out _ _ MX.out 1 (by omega)
  have k2 : u1.cell? ⟨G, 2, none⟩ = some (.int .i64 (x 2)) := CKA.out _ _ MX.out 2 (by omega)
  have k3 : u1.cell? ⟨G, 3, none⟩ = some (.int .i64 (x 3)) := CKA.out _ _ MX.out 3 (by omega)
  have k4 : u1.cell? ⟨G, 4, none⟩ = some (.int .i64 (x 4)) := CKA.out _ _ MX.out 4 (by omega)
  have k5 : u1.cell? ⟨G, 5, none⟩ = some (.int .i64 (x 5)) := CKA.out _ _ MX.out 5 (by omega)
  have k6 : u1.cell? ⟨G, 6, none⟩ = some (.int .i64 (x 6)) := CKA.out _ _ MX.out 6 (by omega)
  have k7 : u1.cell? ⟨G, 7, none⟩ = some (.int .i64 (x 7)) := CKA.out _ _ MX.out 7 (by omega)
  have k8 : u1.cell? ⟨G, 8, none⟩ = some (.int .i64 (x 8)) := CKA.out _ _ MX.out 8 (by omega)
  go_upto_region 8 with (first | (go_at_call 27; (with_reducible first | refine Calls.mono (BL.out _) ?_ | refine Calls.mono (BU.out _) ?_ | refine Calls.mono (BB.out _) ?_ | refine Calls.mono (BY.out _) ?_); rintro e9 w1 ⟨rfl, hb9⟩; replace HBW := Lib.hid (HBW.out.trans hb9); replace MX := Lib.hid (MX.out.bw hb9); clear hb9; clear k0 k1 k2 k3 k4 k5 k6 k7 k8; have k0 : w1.cell? ⟨G, 0, none⟩ = some (.int .i64 (x 0)) := CKA.out _ _ MX.out 0 (by omega); have k1 : w1.cell? ⟨G, 1, none⟩ = some (.int .i64 (x 1)) := CKA.out _ _ MX.out 1 (by omega); have k2 : w1.cell? ⟨G, 2, none⟩ = some (.int .i64 (x 2)) := CKA.out _ _ MX.out 2 (by omega); have k3 : w1.cell? ⟨G, 3, none⟩ = some (.int .i64 (x 3)) := CKA.out _ _ MX.out 3 (by omega); have k4 : w1.cell? ⟨G, 4, none⟩ = some (.int .i64 (x 4)) := CKA.out _ _ MX.out 4 (by omega); have k5 : w1.cell? ⟨G, 5, none⟩ = some (.int .i64 (x 5)) := CKA.out _ _ MX.out 5 (by omega); have k6 : w1.cell? ⟨G, 6, none⟩ = some (.int .i64 (x 6)) := CKA.out _ _ MX.out 6 (by omega); have k7 : w1.cell? ⟨G, 7, none⟩ = some (.int .i64 (x 7)) := CKA.out _ _ MX.out 7 (by omega); have k8 : w1.cell? ⟨G, 8, none⟩ = some (.int .i64 (x 8)) := CKA.out _ _ MX.out 8 (by omega)) | (go_at_call 28; (with_reducible first | refine Calls.mono (NT.out _ _ (HV2.out.mono HBW.out)) ?_); rintro e9 w1 ⟨rfl, hb9⟩; replace HBW := Lib.hid (HBW.out.trans hb9); replace MX := Lib.hid (MX.out.bw hb9); clear hb9; clear k0 k1 k2 k3 k4 k5 k6 k7 k8; have k0 : w1.cell? ⟨G, 0, none⟩ = some (.int .i64 (x 0)) := CKA.out _ _ MX.out 0 (by omega); have k1 : w1.cell? ⟨G, 1, none⟩ = some (.int .i64 (x 1)) := CKA.out _ _ MX.out 1 (by omega); have k2 : w1.cell? ⟨G, 2, none⟩ = some (.int .i64 (x 2)) := CKA.out _ _ MX.out 2 (by omega); have k3 : w1.cell? ⟨G, 3, none⟩ = some (.int .i64 (x 3)) := CKA.out _ _ MX.out 3 (by omega); have k4 : w1.cell? ⟨G, 4, none⟩ = some (.int .i64 (x 4)) := CKA.out _ _ MX.out 4 (by omega); have k5 : w1.cell? ⟨G, 5, none⟩ = some (.int .i64 (x 5)) := CKA.out _ _ MX.out 5 (by omega); have k6 : w1.cell? ⟨G, 6, none⟩ = some (.int .i64 (x 6)) := CKA.out _ _ MX.out 6 (by omega); have k7 : w1.cell? ⟨G, 7, none⟩ = some (.int .i64 (x 7)) := CKA.out _ _ MX.out 7 (by omega); have k8 : w1.cell? ⟨G, 8, none⟩ = some (.int .i64 (x 8)) := CKA.out _ _ MX.out 8 (by omega)) | (go_at_call 9; (with_reducible first | refine Calls.mono (DU.out _) ?_); rintro e9 w1 ⟨rfl, hb9⟩; replace HBW := Lib.hid (HBW.out.trans hb9); replace MX := Lib.hid (MX.out.bw hb9); clear hb9; clear k0 k1 k2 k3 k4 k5 k6 k7 k8; have k0 : w1.cell? ⟨G, 0, none⟩ = some (.int .i64 (x 0)) := CKA.out _ _ MX.out 0 (by omega); have k1 : w1.cell? ⟨G, 1, none⟩ = some (.int .i64 (x 1)) := CKA.out _ _ MX.out 1 (by omega); have k2 : w1.cell? ⟨G, 2, none⟩ = some (.int .i64 (x 2)) := CKA.out _ _ MX.out 2 (by omega); have k3 : w1.cell? ⟨G, 3, none⟩ = some (.int .i64 (x 3)) := CKA.out _ _ MX.out 3 (by omega); have k4 : w1.cell? ⟨G, 4, none⟩ = some (.int .i64 (x 4)) := CKA.out _ _ MX.out 4 (by omega); have k5 : w1.cell? ⟨G, 5, none⟩ = some (.int .i64 (x 5)) := CKA.out _ _ MX.out 5 (by omega); have k6 : w1.cell? ⟨G, 6, none⟩ = some (.int .i64 (x 6)) := CKA.out _ _ MX.out 6 (by omega); have k7 : w1.cell? ⟨G, 7, none⟩ = some (.int .i64 (x 7)) := CKA.out _ _ MX.out 7 (by omega); have k8 : w1.cell? ⟨G, 8, none⟩ = some (.int .i64 (x 8)) := CKA.out _ _ MX.out 8 (by omega)))
  have HM := Lib.hid hM
  have HS := Lib.hid hS
  clear hM hS
  go_cut [16] from 41 (fun s16 wc => s16 = .int .i64 M ∧ Hid (Bw w1 wc))
  case first =>
    have c7 := fun p' : Ext w1 => Ext.cell' k7 p'
    have c8 := fun p' : Ext w1 => Ext.cell' k8 p'
    clear k0 k1 k2 k3 k4 k5 k6 k7 k8
    (refine wp_region_quiet_ext (by kernel_rfl) (by kernel_rfl) ?_; (repeat (go_big_quiet_step ((first | (go_at_call 28; with_reducible refine Calls.ext_of (NT.out _ _ (HV2.out.mono (HBW.out.trans (Ext.b _))))) | (go_at_call 27; with_reducible first | refine Calls.ext_of (B1.out _) | refine Calls.ext_of (B2.out _) | refine Calls.ext_of (B3.out _)))))); refine wpQuiet_nil ?_; rintro wq ⟨⟨_, hbq⟩, rfl⟩; obtain ⟨hccq, hffq⟩ := Bw.cells hbq; have hszq := Bw.size hbq)
    go_wp2
    go_meet
    exact ⟨by rw [HM.out], Lib.hid hbq⟩
  case rest =>
    obtain ⟨rfl, hb2⟩ := hcut
    replace HBW := Lib.hid (HBW.out.trans hb2.out)
    replace MX := Lib.hid (MX.out.bw hb2.out)
    clear hb2 k0 k1 k2 k3 k4 k5 k6 k7 k8
    have k0 : wc.cell? ⟨G, 0, none⟩ = some (.int .i64 (x 0)) := CKA.out _ _ MX.out 0 (by omega)
    have k1 : wc.cell? ⟨G, 1, none⟩ = some (.int .i64 (x 1)) := CKA.out _ _ MX.out 1 (by omega)
    have k2 : wc.cell? ⟨G, 2, none⟩ = some (.int .i64 (x 2)) := CKA.out _ _ MX.out 2 (by omega)
    have k3 : wc.cell? ⟨G, 3, none⟩ = some (.int .i64 (x 3)) := CKA.out _ _ MX.out 3 (by omega)
    have k4 : wc.cell? ⟨G, 4, none⟩ = some (.int .i64 (x 4)) := CKA.out _ _ MX.out 4 (by omega)
    have k5 : wc.cell? ⟨G, 5, none⟩ = some (.int .i64 (x 5)) := CKA.out _ _ MX.out 5 (by omega)
    have k6 : wc.cell? ⟨G, 6, none⟩ = some (.int .i64 (x 6)) := CKA.out _ _ MX.out 6 (by omega)
    have k7 : wc.cell? ⟨G, 7, none⟩ = some (.int .i64 (x 7)) := CKA.out _ _ MX.out 7 (by omega)
    have k8 : wc.cell? ⟨G, 8, none⟩ = some (.int .i64 (x 8)) := CKA.out _ _ MX.out 8 (by omega)
    go_upto_region 9 with fail
    go_cut [17] from 77 (fun s17 wz => s17 = .int .i64 S ∧ Hid (Bw wc wz))
    case first =>
      have HB2 := Lib.hid (Bw.refl wc)
      clear k0 k1 k2 k3 k4 k5 k6 k7 k8
      go_wp2_with (first | (go_at_call 28; (with_reducible refine Calls.mono (NT.out _ _ (HV2.out.mono (HBW.out.trans HB2.out))) ?_); rintro e9 w5 ⟨rfl, hb9⟩; replace HB2 := Lib.hid (HB2.out.trans hb9); clear hb9) | (go_at_call 27; (with_reducible refine Calls.mono (B4.out _) ?_); rintro e9 w5 ⟨rfl, hb9⟩; replace HB2 := Lib.hid (HB2.out.trans hb9); clear hb9))
      go_meet
      exact ⟨by rw [HS.out], HB2⟩
    case rest =>
      obtain ⟨rfl, hb2⟩ := hcut
      replace HBW := Lib.hid (HBW.out.trans hb2.out)
      replace MX := Lib.hid (MX.out.bw hb2.out)
      clear hb2 k0 k1 k2 k3 k4 k5 k6 k7 k8
      have k0 : wc.cell? ⟨G, 0, none⟩ = some (.int .i64 (x 0)) := CKA.out _ _ MX.out 0 (by omega)
      have k1 : wc.cell? ⟨G, 1, none⟩ = some (.int .i64 (x 1)) := CKA.out _ _ MX.out 1 (by omega)
      have k2 : wc.cell? ⟨G, 2, none⟩ = some (.int .i64 (x 2)) := CKA.out _ _ MX.out 2 (by omega)
      have k3 : wc.cell? ⟨G, 3, none⟩ = some (.int .i64 (x 3)) := CKA.out _ _ MX.out 3 (by omega)
      have k4 : wc.cell? ⟨G, 4, none⟩ = some (.int .i64 (x 4)) := CKA.out _ _ MX.out 4 (by omega)
      have k5 : wc.cell? ⟨G, 5, none⟩ = some (.int .i64 (x 5)) := CKA.out _ _ MX.out 5 (by omega)
      have k6 : wc.cell? ⟨G, 6, none⟩ = some (.int .i64 (x 6)) := CKA.out _ _ MX.out 6 (by omega)
      have k7 : wc.cell? ⟨G, 7, none⟩ = some (.int .i64 (x 7)) := CKA.out _ _ MX.out 7 (by omega)
      have k8 : wc.cell? ⟨G, 8, none⟩ = some (.int .i64 (x 8)) := CKA.out _ _ MX.out 8 (by omega)
      clear bS
      go_upto_region 11 with ((go_at_call 16; (with_reducible first | refine Calls.mono (CR.out _) ?_); rintro e9 w1 ⟨rfl, hb9⟩; replace HBW := Lib.hid (HBW.out.trans hb9); replace MX := Lib.hid (MX.out.bw hb9); clear hb9; clear k0 k1 k2 k3 k4 k5 k6 k7 k8; have k0 : w1.cell? ⟨G, 0, none⟩ = some (.int .i64 (x 0)) := CKA.out _ _ MX.out 0 (by omega); have k1 : w1.cell? ⟨G, 1, none⟩ = some (.int .i64 (x 1)) := CKA.out _ _ MX.out 1 (by omega); have k2 : w1.cell? ⟨G, 2, none⟩ = some (.int .i64 (x 2)) := CKA.out _ _ MX.out 2 (by omega); have k3 : w1.cell? ⟨G, 3, none⟩ = some (.int .i64 (x 3)) := CKA.out _ _ MX.out 3 (by omega); have k4 : w1.cell? ⟨G, 4, none⟩ = some (.int .i64 (x 4)) := CKA.out _ _ MX.out 4 (by omega); have k5 : w1.cell? ⟨G, 5, none⟩ = some (.int .i64 (x 5)) := CKA.out _ _ MX.out 5 (by omega); have k6 : w1.cell? ⟨G, 6, none⟩ = some (.int .i64 (x 6)) := CKA.out _ _ MX.out 6 (by omega); have k7 : w1.cell? ⟨G, 7, none⟩ = some (.int .i64 (x 7)) := CKA.out _ _ MX.out 7 (by omega); have k8 : w1.cell? ⟨G, 8, none⟩ = some (.int .i64 (x 8)) := CKA.out _ _ MX.out 8 (by omega)))
      obtain ⟨f1, f2, f3, f4, f5⟩ := HF.out
      clear HF
      go_wp2_with ((go_at_call 15; (with_reducible first | refine Calls.mono (AW.out _) ?_); rintro e9 w1 ⟨rfl, hb9⟩; replace HBW := Lib.hid (HBW.out.trans hb9); replace MX := Lib.hid (MX.out.bw hb9); clear hb9; clear k0 k1 k2 k3 k4 k5 k6 k7 k8; have k0 : w1.cell? ⟨G, 0, none⟩ = some (.int .i64 (x 0)) := CKA.out _ _ MX.out 0 (by omega); have k1 : w1.cell? ⟨G, 1, none⟩ = some (.int .i64 (x 1)) := CKA.out _ _ MX.out 1 (by omega); have k2 : w1.cell? ⟨G, 2, none⟩ = some (.int .i64 (x 2)) := CKA.out _ _ MX.out 2 (by omega); have k3 : w1.cell? ⟨G, 3, none⟩ = some (.int .i64 (x 3)) := CKA.out _ _ MX.out 3 (by omega); have k4 : w1.cell? ⟨G, 4, none⟩ = some (.int .i64 (x 4)) := CKA.out _ _ MX.out 4 (by omega); have k5 : w1.cell? ⟨G, 5, none⟩ = some (.int .i64 (x 5)) := CKA.out _ _ MX.out 5 (by omega); have k6 : w1.cell? ⟨G, 6, none⟩ = some (.int .i64 (x 6)) := CKA.out _ _ MX.out 6 (by omega); have k7 : w1.cell? ⟨G, 7, none⟩ = some (.int .i64 (x 7)) := CKA.out _ _ MX.out 7 (by omega); have k8 : w1.cell? ⟨G, 8, none⟩ = some (.int .i64 (x 8)) := CKA.out _ _ MX.out 8 (by omega)))
      go_ret
      exact ⟨rfl, HBW.out⟩
end Go.Proofs.Sky
