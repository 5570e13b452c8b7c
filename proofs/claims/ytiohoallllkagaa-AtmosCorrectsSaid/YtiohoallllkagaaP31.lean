/-
  lemmas for the theorems of this claim. No conditions beyond those written in the statements.
-/
import Derived.Test.YtiohoallllkagaaB31b
import Derived.Test.YtiohoallllkagaaF31
import Derived.Defers
import Derived.BigRegion
set_option linter.unusedVariables false
set_option linter.unusedSimpArgs false
set_option linter.unnecessarySimpa false
namespace Go.Proofs.Sky
open Go Go.RowKit Go.Shelf
set_option maxHeartbeats 4000000
set_option maxRecDepth 4000
theorem done_ok (a b c : Nat) (u : FrameMode) (w : World) (k0 : w.cell? ⟨a, 0, none⟩ = some (.int .i64 0)) :
    CallsD Try.prog 29 #[.pointer (some ⟨a, 0, none⟩), .pointer (some ⟨b, 0, none⟩), .pointer (some ⟨c, 0, none⟩)] u w fun e u' w' => u' = u ∧ (e = .returned (.tuple #[]) ∧ w' = w) := by
  go_enter_d Try.func29, Try.ntmps29
  go_wp2
  first | (refine bodyPost_ret (results_none rfl _ _ _) rfl ?_; exact ⟨rfl, rfl⟩) | (go_end0; exact ⟨rfl, rfl⟩)
theorem done_bad (a b c : Nat) (er : Int) (her : (er != 0) = true) (u : FrameMode) (w : World) (k0 : w.cell? ⟨a, 0, none⟩ = some (.int .i64 er)) {v1 v2 : Value} (k1 : w.cell? ⟨b, 0, none⟩ = some v1) (k2 : w.cell? ⟨c, 0, none⟩ = some v2) (f1 : w.frozen? ⟨b, 0, none⟩ = false) (f2 : w.frozen? ⟨c, 0, none⟩ = false) (hbc : b ≠ c) :
    CallsD Try.prog 29 #[.pointer (some ⟨a, 0, none⟩), .pointer (some ⟨b, 0, none⟩), .pointer (some ⟨c, 0, none⟩)] u w fun e u' w' => u' = u ∧ (e = .returned (.tuple #[]) ∧ w' = (w.setCell ⟨b, 0, none⟩ (.int .i64 0)).setCell ⟨c, 0, none⟩ (.int .i64 0)) := by
  go_enter_d Try.func29, Try.ntmps29
  go_wp2
  first | (refine bodyPost_ret (results_none rfl _ _ _) rfl ?_; exact ⟨rfl, rfl⟩) | (go_end0; exact ⟨rfl, rfl⟩)
def zD (up : Int) : Nat := (1073741824 - up).toNat
def ionoD (x : Nat → Int) (up : Int) : Int := if errA x = 0 ∧ 0 ≤ up ∧ up ≤ 1073741824 then rndH (hsum x (zD up) 4 4) 90 else 0
def tropoD (x : Nat → Int) (up : Int) : Int := if errA x = 0 ∧ 0 ≤ up ∧ up ≤ 1073741824 then rndH (hsum (fun i => x (4 + i)) (zD up) 3 3) 60 else 0
def errD (x : Nat → Int) (up : Int) : Int := if errA x = 0 then (if 0 ≤ up ∧ up ≤ 1073741824 then 0 else 2) else errA x
theorem errA_bd {x : Nat → Int} (h : errA x = 0) : ∀ i, i < 9 → -1000000 ≤ x i ∧ x i ≤ 1000000 := by
  intro i hi
  cases hq : okA x i with
  | true =>
    have := of_decide_eq_true hq
    exact ⟨this.1, this.2.1⟩
  | false => rw [errA_bad hi hq] at h; cases h
theorem Delay_bad (x : Nat → Int) (up : Int) (w : World) (h : errA x ≠ 0) :
    Calls Try.prog 9 #[.agg #[.int .i64 (x 0), .int .i64 (x 1), .int .i64 (x 2), .int .i64 (x 3), .int .i64 (x 4), .int .i64 (x 5), .int .i64 (x 6), .int .i64 (x 7), .int .i64 (x 8)], .int .i64 up] w fun e w' => e = .returned (.tuple #[.int .i64 0, .int .i64 0, .int .i64 (errA x)]) ∧ Bw w w' := by
  have CK := Lib.hid (fun W => ACheck_any x W)
  generalize errA x = er at *
  have hne : (er != 0) = true := by simpa using h
  have HBW := Lib.hid (Bw.alloc (Bw.alloc (Bw.alloc (Bw.alloc (Bw.refl w) (.cells #[.int .i64 (x 0), .int .i64 (x 1), .int .i64 (x 2), .int .i64 (x 3), .int .i64 (x 4), .int .i64 (x 5), .int .i64 (x 6), .int .i64 (x 7), .int .i64 (x 8)] 25)) (.cells #[.int .i64 0] 3)) (.cells #[.int .i64 0] 3)) (.cells #[.int .i64 0] 26))
  have KX := Lib.hid ((((Blk.new w 25 #[.int .i64 (x 0), .int .i64 (x 1), .int .i64 (x 2), .int .i64 (x 3), .int .i64 (x 4), .int .i64 (x 5), .int .i64 (x 6), .int .i64 (x 7), .int .i64 (x 8)]).alloc (.cells #[.int .i64 0] 3)).alloc (.cells #[.int .i64 0] 3)).alloc (.cells #[.int .i64 0] 26))
  have IX : Hid (Blk ((((w.alloc (.cells #[.int .i64 (x 0), .int .i64 (x 1), .int .i64 (x 2), .int .i64 (x 3), .int .i64 (x 4), .int .i64 (x 5), .int .i64 (x 6), .int .i64 (x 7), .int .i64 (x 8)] 25)).alloc (.cells #[.int .i64 0] 3)).alloc (.cells #[.int .i64 0] 3)).alloc (.cells #[.int .i64 0] 26)) (w.heap.size + 1) 3 #[.int .i64 0]) := Lib.hid (by have h9 := ((Blk.new (w.alloc (.cells #[.int .i64 (x 0), .int .i64 (x 1), .int .i64 (x 2), .int .i64 (x 3), .int .i64 (x 4), .int .i64 (x 5), .int .i64 (x 6), .int .i64 (x 7), .int .i64 (x 8)] 25)) 3 #[.int .i64 0]).alloc (.cells #[.int .i64 0] 3)).alloc (.cells #[.int .i64 0] 26); simpa using h9)
  have TX : Hid (Blk ((((w.alloc (.cells #[.int .i64 (x 0), .int .i64 (x 1), .int .i64 (x 2), .int .i64 (x 3), .int .i64 (x 4), .int .i64 (x 5), .int .i64 (x 6), .int .i64 (x 7), .int .i64 (x 8)] 25)).alloc (.cells #[.int .i64 0] 3)).alloc (.cells #[.int .i64 0] 3)).alloc (.cells #[.int .i64 0] 26)) (w.heap.size + 1 + 1) 3 #[.int .i64 0]) := Lib.hid (by have h9 := (Blk.new ((w.alloc (.cells #[.int .i64 (x 0), .int .i64 (x 1), .int .i64 (x 2), .int .i64 (x 3), .int .i64 (x 4), .int .i64 (x 5), .int .i64 (x 6), .int .i64 (x 7), .int .i64 (x 8)] 25)).alloc (.cells #[.int .i64 0] 3)) 3 #[.int .i64 0]).alloc (.cells #[.int .i64 0] 26); simpa using h9)
  have EX : Hid (Blk ((((w.alloc (.cells #[.int .i64 (x 0), .int .i64 (x 1), .int .i64 (x 2), .int .i64 (x 3), .int .i64 (x 4), .int .i64 (x 5), .int .i64 (x 6), .int .i64 (x 7), .int .i64 (x 8)] 25)).alloc (.cells #[.int .i64 0] 3)).alloc (.cells #[.int .i64 0] 3)).alloc (.cells #[.int .i64 0] 26)) (w.heap.size + 1 + 1 + 1) 26 #[.int .i64 0]) := Lib.hid (by have h9 := Blk.new (((w.alloc (.cells #[.int .i64 (x 0), .int .i64 (x 1), .int .i64 (x 2), .int .i64 (x 3), .int .i64 (x 4), .int .i64 (x 5), .int .i64 (x 6), .int .i64 (x 7), .int .i64 (x 8)] 25)).alloc (.cells #[.int .i64 0] 3)).alloc (.cells #[.int .i64 0] 3)) 26 #[.int .i64 0]; simpa using h9)
  have hmf : ∀ (fn : Fn) (first cap : Array Value) (w : World), (Instr.makeFunc fn first cap).run Try.prog w = .ok (.func fn first cap) w := fun _ _ _ _ => rfl
  go_enter_defers Try.func9, Try.ntmps9
  go_upto_region 2 with fail
  obtain ⟨W0, hW0⟩ : ∃ W0, ((((w.alloc (.cells #[.int .i64 (x 0), .int .i64 (x 1), .int .i64 (x 2), .int .i64 (x 3), .int .i64 (x 4), .int .i64 (x 5), .int .i64 (x 6), .int .i64 (x 7), .int .i64 (x 8)] 25)).alloc (.cells #[.int .i64 0] 3)).alloc (.cells #[.int .i64 0] 3)).alloc (.cells #[.int .i64 0] 26)) = W0 := ⟨_, rfl⟩
  rw [hW0] at HBW KX IX TX EX ⊢
  clear hW0
  have k0 : W0.cell? ⟨w.heap.size, 0, none⟩ = some (.int .i64 (x 0)) := KX.out.cell rfl
  have k1 : W0.cell? ⟨w.heap.size, 1, none⟩ = some (.int .i64 (x 1)) := KX.out.cell rfl
  have k2 : W0.cell? ⟨w.heap.size, 2, none⟩ = some (.int .i64 (x 2)) := KX.out.cell rfl
  have k3 : W0.cell? ⟨w.heap.size, 3, none⟩ = some (.int .i64 (x 3)) := KX.out.cell rfl
  have k4 : W0.cell? ⟨w.heap.size, 4, none⟩ = some (.int .i64 (x 4)) := KX.out.cell rfl
  have k5 : W0.cell? ⟨w.heap.size, 5, none⟩ = some (.int .i64 (x 5)) := KX.out.cell rfl
  have k6 : W0.cell? ⟨w.heap.size, 6, none⟩ = some (.int .i64 (x 6)) := KX.out.cell rfl
  have k7 : W0.cell? ⟨w.heap.size, 7, none⟩ = some (.int .i64 (x 7)) := KX.out.cell rfl
  have k8 : W0.cell? ⟨w.heap.size, 8, none⟩ = some (.int .i64 (x 8)) := KX.out.cell rfl
  have i0 : W0.cell? ⟨w.heap.size + 1, 0, none⟩ = some (.int .i64 0) := IX.out.cell rfl
  have t0 : W0.cell? ⟨w.heap.size + 1 + 1, 0, none⟩ = some (.int .i64 0) := TX.out.cell rfl
  have e0 : W0.cell? ⟨w.heap.size + 1 + 1 + 1, 0, none⟩ = some (.int .i64 0) := EX.out.cell rfl
  have fi := IX.out.frozen 0
  have ft := TX.out.frozen 0
  have fe := EX.out.frozen 0
  go_wp2_with (go_at_call 13; (with_reducible refine Calls.mono (CK.out _) ?_); rintro e1 w1 ⟨rfl, hb9⟩; replace HBW := Lib.hid (HBW.out.trans hb9); replace KX := Lib.hid (KX.out.bw hb9); replace IX := Lib.hid (IX.out.bw hb9); replace TX := Lib.hid (TX.out.bw hb9); replace EX := Lib.hid (EX.out.bw hb9); clear hb9; clear k0 k1 k2 k3 k4 k5 k6 k7 k8 i0 t0 e0 fi ft fe; have k0 : w1.cell? ⟨w.heap.size, 0, none⟩ = some (.int .i64 (x 0)) := KX.out.cell rfl; have k1 : w1.cell? ⟨w.heap.size, 1, none⟩ = some (.int .i64 (x 1)) := KX.out.cell rfl; have k2 : w1.cell? ⟨w.heap.size, 2, none⟩ = some (.int .i64 (x 2)) := KX.out.cell rfl; have k3 : w1.cell? ⟨w.heap.size, 3, none⟩ = some (.int .i64 (x 3)) := KX.out.cell rfl; have k4 : w1.cell? ⟨w.heap.size, 4, none⟩ = some (.int .i64 (x 4)) := KX.out.cell rfl; have k5 : w1.cell? ⟨w.heap.size, 5, none⟩ = some (.int .i64 (x 5)) := KX.out.cell rfl; have k6 : w1.cell? ⟨w.heap.size, 6, none⟩ = some (.int .i64 (x 6)) := KX.out.cell rfl; have k7 : w1.cell? ⟨w.heap.size, 7, none⟩ = some (.int .i64 (x 7)) := KX.out.cell rfl; have k8 : w1.cell? ⟨w.heap.size, 8, none⟩ = some (.int .i64 (x 8)) := KX.out.cell rfl; have i0 : w1.cell? ⟨w.heap.size + 1, 0, none⟩ = some (.int .i64 0) := IX.out.cell rfl; have t0 : w1.cell? ⟨w.heap.size + 1 + 1, 0, none⟩ = some (.int .i64 0) := TX.out.cell rfl; have e0 : w1.cell? ⟨w.heap.size + 1 + 1 + 1, 0, none⟩ = some (.int .i64 0) := EX.out.cell rfl; have fi := IX.out.frozen 0; have ft := TX.out.frozen 0; have fe := EX.out.frozen 0)
  have EX2 := EX.out.set 0 (.int .i64 er)
  have IX2 := IX.out.set_other (show w.heap.size + 1 ≠ w.heap.size + 1 + 1 + 1 by omega) 0 (.int .i64 er)
  have TX2 := TX.out.set_other (show w.heap.size + 1 + 1 ≠ w.heap.size + 1 + 1 + 1 by omega) 0 (.int .i64 er)
  have BW2 := Bw.setCell HBW.out (p := ⟨w.heap.size + 1 + 1 + 1, 0, none⟩) (by simp; omega) (.int .i64 er)
  have EX3 := (EX2.set_other (show w.heap.size + 1 + 1 + 1 ≠ w.heap.size + 1 by omega) 0 (.int .i64 0)).set_other (show w.heap.size + 1 + 1 + 1 ≠ w.heap.size + 1 + 1 by omega) 0 (.int .i64 0)
  have IX3 := (IX2.set 0 (.int .i64 0)).set_other (show w.heap.size + 1 ≠ w.heap.size + 1 + 1 by omega) 0 (.int .i64 0)
  have TX3 := (TX2.set_other (show w.heap.size + 1 + 1 ≠ w.heap.size + 1 by omega) 0 (.int .i64 0)).set 0 (.int .i64 0)
  have BW3 := Bw.setCell (Bw.setCell BW2 (p := ⟨w.heap.size + 1, 0, none⟩) (by simp) (.int .i64 0)) (p := ⟨w.heap.size + 1 + 1, 0, none⟩) (by simp; omega) (.int .i64 0)
  refine leaves_cons (f := 29) (args := #[.pointer (some ⟨w.heap.size + 1 + 1 + 1, 0, none⟩), .pointer (some ⟨w.heap.size + 1, 0, none⟩), .pointer (some ⟨w.heap.size + 1 + 1, 0, none⟩)]) (by simp) (by simp [go_sem]) ?_
  refine (done_bad (w.heap.size + 1 + 1 + 1) (w.heap.size + 1) (w.heap.size + 1 + 1) er hne .returning _ (EX2.cell rfl) (IX2.cell rfl) (TX2.cell rfl) (IX2.frozen 0) (TX2.frozen 0) (by omega)).mono ?_
  rintro e9 u9 w9 ⟨rfl, rfl, rfl⟩
  have m0 := EX3.cell (j := 0) rfl
  have m1 := IX3.cell (j := 0) rfl
  have m2 := TX3.cell (j := 0) rfl
  refine ⟨.tuple #[.int .i64 0, .int .i64 0, .int .i64 er], ?_, rfl, BW3⟩
  simp [results, Try.results9, go_sem, m0, m1, m2]
theorem Delay_range (x : Nat → Int) (up : Int) (w : World) (h : errA x = 0) (hu : up < 0 ∨ 1073741824 < up) :
    Calls Try.prog 9 #[.agg #[.int .i64 (x 0), .int .i64 (x 1), .int .i64 (x 2), .int .i64 (x 3), .int .i64 (x 4), .int .i64 (x 5), .int .i64 (x 6), .int .i64 (x 7), .int .i64 (x 8)], .int .i64 up] w fun e w' => e = .returned (.tuple #[.int .i64 0, .int .i64 0, .int .i64 2]) ∧ Bw w w' := by
  have CK := Lib.hid (fun W => ACheck_any x W)
  rw [h] at CK
  have hne : ((2 : Int) != 0) = true := by decide
  have HBW := Lib.hid (Bw.alloc (Bw.alloc (Bw.alloc (Bw.alloc (Bw.refl w) (.cells #[.int .i64 (x 0), .int .i64 (x 1), .int .i64 (x 2), .int .i64 (x 3), .int .i64 (x 4), .int .i64 (x 5), .int .i64 (x 6), .int .i64 (x 7), .int .i64 (x 8)] 25)) (.cells #[.int .i64 0] 3)) (.cells #[.int .i64 0] 3)) (.cells #[.int .i64 0] 26))
  have KX := Lib.hid ((((Blk.new w 25 #[.int .i64 (x 0), .int .i64 (x 1), .int .i64 (x 2), .int .i64 (x 3), .int .i64 (x 4), .int .i64 (x 5), .int .i64 (x 6), .int .i64 (x 7), .int .i64 (x 8)]).alloc (.cells #[.int .i64 0] 3)).alloc (.cells #[.int .i64 0] 3)).alloc (.cells #[.int .i64 0] 26))
  have IX : Hid (Blk ((((w.alloc (.cells #[.int .i64 (x 0), .int .i64 (x 1), .int .i64 (x 2), .int .i64 (x 3), .int .i64 (x 4), .int .i64 (x 5), .int .i64 (x 6), .int .i64 (x 7), .int .i64 (x 8)] 25)).alloc (.cells #[.int .i64 0] 3)).alloc (.cells #[.int .i64 0] 3)).alloc (.cells #[.int .i64 0] 26)) (w.heap.size + 1) 3 #[.int .i64 0]) := Lib.hid (by have h9 := ((Blk.new (w.alloc (.cells #[.int .i64 (x 0), .int .i64 (x 1), .int .i64 (x 2), .int .i64 (x 3), .int .i64 (x 4), .int .i64 (x 5), .int .i64 (x 6), .int .i64 (x 7), .int .i64 (x 8)] 25)) 3 #[.int .i64 0]).alloc (.cells #[.int .i64 0] 3)).alloc (.cells #[.int .i64 0] 26); simpa using h9)
  have TX : Hid (Blk ((((w.alloc (.cells #[.int .i64 (x 0), .int .i64 (x 1), .int .i64 (x 2), .int .i64 (x 3), .int .i64 (x 4), .int .i64 (x 5), .int .i64 (x 6), .int .i64 (x 7), .int .i64 (x 8)] 25)).alloc (.cells #[.int .i64 0] 3)).alloc (.cells #[.int .i64 0] 3)).alloc (.cells #[.int .i64 0] 26)) (w.heap.size + 1 + 1) 3 #[.int .i64 0]) := Lib.hid (by have h9 := (Blk.new ((w.alloc (.cells #[.int .i64 (x 0), .int .i64 (x 1), .int .i64 (x 2), .int .i64 (x 3), .int .i64 (x 4), .int .i64 (x 5), .int .i64 (x 6), .int .i64 (x 7), .int .i64 (x 8)] 25)).alloc (.cells #[.int .i64 0] 3)) 3 #[.int .i64 0]).alloc (.cells #[.int .i64 0] 26); simpa using h9)
  have EX : Hid (Blk ((((w.alloc (.cells #[.int .i64 (x 0), .int .i64 (x 1), .int .i64 (x 2), .int .i64 (x 3), .int .i64 (x 4), .int .i64 (x 5), .int .i64 (x 6), .int .i64 (x 7), .int .i64 (x 8)] 25)).alloc (.cells #[.int .i64 0] 3)).alloc (.cells #[.int .i64 0] 3)).alloc (.cells #[.int .i64 0] 26)) (w.heap.size + 1 + 1 + 1) 26 #[.int .i64 0]) := Lib.hid (by have h9 := Blk.new (((w.alloc (.cells #[.int .i64 (x 0), .int .i64 (x 1), .int .i64 (x 2), .int .i64 (x 3), .int .i64 (x 4), .int .i64 (x 5), .int .i64 (x 6), .int .i64 (x 7), .int .i64 (x 8)] 25)).alloc (.cells #[.int .i64 0] 3)).alloc (.cells #[.int .i64 0] 3)) 26 #[.int .i64 0]; simpa using h9)
  have hmf : ∀ (fn : Fn) (first cap : Array Value) (w : World), (Instr.makeFunc fn first cap).run Try.prog w = .ok (.func fn first cap) w := fun _ _ _ _ => rfl
  go_enter_defers Try.func9, Try.ntmps9
  go_upto_region 2 with fail
  obtain ⟨W0, hW0⟩ : ∃ W0, ((((w.alloc (.cells #[.int .i64 (x 0), .int .i64 (x 1), .int .i64 (x 2), .int .i64 (x 3), .int .i64 (x 4), .int .i64 (x 5), .int .i64 (x 6), .int .i64 (x 7), .int .i64 (x 8)] 25)).alloc (.cells #[.int .i64 0] 3)).alloc (.cells #[.int .i64 0] 3)).alloc (.cells #[.int .i64 0] 26)) = W0 := ⟨_, rfl⟩
  rw [hW0] at HBW KX IX TX EX ⊢
  clear hW0
  have k0 : W0.cell? ⟨w.heap.size, 0, none⟩ = some (.int .i64 (x 0)) := KX.out.cell rfl
  have k1 : W0.cell? ⟨w.heap.size, 1, none⟩ = some (.int .i64 (x 1)) := KX.out.cell rfl
  have k2 : W0.cell? ⟨w.heap.size, 2, none⟩ = some (.int .i64 (x 2)) := KX.out.cell rfl
  have k3 : W0.cell? ⟨w.heap.size, 3, none⟩ = some (.int .i64 (x 3)) := KX.out.cell rfl
  have k4 : W0.cell? ⟨w.heap.size, 4, none⟩ = some (.int .i64 (x 4)) := KX.out.cell rfl
  have k5 : W0.cell? ⟨w.heap.size, 5, none⟩ = some (.int .i64 (x 5)) := KX.out.cell rfl
  have k6 : W0.cell? ⟨w.heap.size, 6, none⟩ = some (.int .i64 (x 6)) := KX.out.cell rfl
  have k7 : W0.cell? ⟨w.heap.size, 7, none⟩ = some (.int .i64 (x 7)) := KX.out.cell rfl
  have k8 : W0.cell? ⟨w.heap.size, 8, none⟩ = some (.int .i64 (x 8)) := KX.out.cell rfl
  have i0 : W0.cell? ⟨w.heap.size + 1, 0, none⟩ = some (.int .i64 0) := IX.out.cell rfl
  have t0 : W0.cell? ⟨w.heap.size + 1 + 1, 0, none⟩ = some (.int .i64 0) := TX.out.cell rfl
  have e0 : W0.cell? ⟨w.heap.size + 1 + 1 + 1, 0, none⟩ = some (.int .i64 0) := EX.out.cell rfl
  have fi := IX.out.frozen 0
  have ft := TX.out.frozen 0
  have fe := EX.out.frozen 0
  go_upto_region 4 with (go_at_call 13; (with_reducible refine Calls.mono (CK.out _) ?_); rintro e1 w1 ⟨rfl, hb9⟩; replace HBW := Lib.hid (HBW.out.trans hb9); replace KX := Lib.hid (KX.out.bw hb9); replace IX := Lib.hid (IX.out.bw hb9); replace TX := Lib.hid (TX.out.bw hb9); replace EX := Lib.hid (EX.out.bw hb9); clear hb9; clear k0 k1 k2 k3 k4 k5 k6 k7 k8 i0 t0 e0 fi ft fe; have k0 : w1.cell? ⟨w.heap.size, 0, none⟩ = some (.int .i64 (x 0)) := KX.out.cell rfl; have k1 : w1.cell? ⟨w.heap.size, 1, none⟩ = some (.int .i64 (x 1)) := KX.out.cell rfl; have k2 : w1.cell? ⟨w.heap.size, 2, none⟩ = some (.int .i64 (x 2)) := KX.out.cell rfl; have k3 : w1.cell? ⟨w.heap.size, 3, none⟩ = some (.int .i64 (x 3)) := KX.out.cell rfl; have k4 : w1.cell? ⟨w.heap.size, 4, none⟩ = some (.int .i64 (x 4)) := KX.out.cell rfl; have k5 : w1.cell? ⟨w.heap.size, 5, none⟩ = some (.int .i64 (x 5)) := KX.out.cell rfl; have k6 : w1.cell? ⟨w.heap.size, 6, none⟩ = some (.int .i64 (x 6)) := KX.out.cell rfl; have k7 : w1.cell? ⟨w.heap.size, 7, none⟩ = some (.int .i64 (x 7)) := KX.out.cell rfl; have k8 : w1.cell? ⟨w.heap.size, 8, none⟩ = some (.int .i64 (x 8)) := KX.out.cell rfl; have i0 : w1.cell? ⟨w.heap.size + 1, 0, none⟩ = some (.int .i64 0) := IX.out.cell rfl; have t0 : w1.cell? ⟨w.heap.size + 1 + 1, 0, none⟩ = some (.int .i64 0) := TX.out.cell rfl; have e0 : w1.cell? ⟨w.heap.size + 1 + 1 + 1, 0, none⟩ = some (.int .i64 0) := EX.out.cell rfl; have fi := IX.out.frozen 0; have ft := TX.out.frozen 0; have fe := EX.out.frozen 0)
  replace EX := Lib.hid (show Blk _ (w.heap.size + 1 + 1 + 1) 26 #[.int .i64 0] from EX.out.set 0 (.int .i64 0))
  replace IX := Lib.hid (IX.out.set_other (show w.heap.size + 1 ≠ w.heap.size + 1 + 1 + 1 by omega) 0 (.int .i64 0))
  replace TX := Lib.hid (TX.out.set_other (show w.heap.size + 1 + 1 ≠ w.heap.size + 1 + 1 + 1 by omega) 0 (.int .i64 0))
  replace KX := Lib.hid (KX.out.set_other (show w.heap.size ≠ w.heap.size + 1 + 1 + 1 by omega) 0 (.int .i64 0))
  replace HBW := Lib.hid (Bw.setCell HBW.out (p := ⟨w.heap.size + 1 + 1 + 1, 0, none⟩) (by simp; omega) (.int .i64 0))
  clear k0 k1 k2 k3 k4 k5 k6 k7 k8 i0 t0 e0 fi ft fe
  generalize w1.setCell ⟨w.heap.size + 1 + 1 + 1, 0, none⟩ (.int .i64 0) = w2 at KX IX TX EX HBW ⊢
  have k0 : w2.cell? ⟨w.heap.size, 0, none⟩ = some (.int .i64 (x 0)) := KX.out.cell rfl
  have k1 : w2.cell? ⟨w.heap.size, 1, none⟩ = some (.int .i64 (x 1)) := KX.out.cell rfl
  have k2 : w2.cell? ⟨w.heap.size, 2, none⟩ = some (.int .i64 (x 2)) := KX.out.cell rfl
  have k3 : w2.cell? ⟨w.heap.size, 3, none⟩ = some (.int .i64 (x 3)) := KX.out.cell rfl
  have k4 : w2.cell? ⟨w.heap.size, 4, none⟩ = some (.int .i64 (x 4)) := KX.out.cell rfl
  have k5 : w2.cell? ⟨w.heap.size, 5, none⟩ = some (.int .i64 (x 5)) := KX.out.cell rfl
  have k6 : w2.cell? ⟨w.heap.size, 6, none⟩ = some (.int .i64 (x 6)) := KX.out.cell rfl
  have k7 : w2.cell? ⟨w.heap.size, 7, none⟩ = some (.int .i64 (x 7)) := KX.out.cell rfl
  have k8 : w2.cell? ⟨w.heap.size, 8, none⟩ = some (.int .i64 (x 8)) := KX.out.cell rfl
  have i0 : w2.cell? ⟨w.heap.size + 1, 0, none⟩ = some (.int .i64 0) := IX.out.cell rfl
  have t0 : w2.cell? ⟨w.heap.size + 1 + 1, 0, none⟩ = some (.int .i64 0) := TX.out.cell rfl
  have e0 : w2.cell? ⟨w.heap.size + 1 + 1 + 1, 0, none⟩ = some (.int .i64 0) := EX.out.cell rfl
  have fi := IX.out.frozen 0
  have ft := TX.out.frozen 0
  have fe := EX.out.frozen 0
  by_cases hu0 : up < 0
  · clear hu
    go_wp2
    have EX2 := EX.out.set 0 (.int .i64 2)
    have IX2 := IX.out.set_other (show w.heap.size + 1 ≠ w.heap.size + 1 + 1 + 1 by omega) 0 (.int .i64 2)
    have TX2 := TX.out.set_other (show w.heap.size + 1 + 1 ≠ w.heap.size + 1 + 1 + 1 by omega) 0 (.int .i64 2)
    have BW2 := Bw.setCell HBW.out (p := ⟨w.heap.size + 1 + 1 + 1, 0, none⟩) (by simp; omega) (.int .i64 2)
    have EX3 := (EX2.set_other (show w.heap.size + 1 + 1 + 1 ≠ w.heap.size + 1 by omega) 0 (.int .i64 0)).set_other (show w.heap.size + 1 + 1 + 1 ≠ w.heap.size + 1 + 1 by omega) 0 (.int .i64 0)
    have IX3 := (IX2.set 0 (.int .i64 0)).set_other (show w.heap.size + 1 ≠ w.heap.size + 1 + 1 by omega) 0 (.int .i64 0)
    have TX3 := (TX2.set_other (show w.heap.size + 1 + 1 ≠ w.heap.size + 1 by omega) 0 (.int .i64 0)).set 0 (.int .i64 0)
    have BW3 := Bw.setCell (Bw.setCell BW2 (p := ⟨w.heap.size + 1, 0, none⟩) (by simp) (.int .i64 0)) (p := ⟨w.heap.size + 1 + 1, 0, none⟩) (by simp; omega) (.int .i64 0)
    refine leaves_cons (f := 29) (args := #[.pointer (some ⟨w.heap.size + 1 + 1 + 1, 0, none⟩), .pointer (some ⟨w.heap.size + 1, 0, none⟩), .pointer (some ⟨w.heap.size + 1 + 1, 0, none⟩)]) (by simp) (by simp [go_sem]) ?_
    refine (done_bad (w.heap.size + 1 + 1 + 1) (w.heap.size + 1) (w.heap.size + 1 + 1) 2 hne .returning _ (EX2.cell rfl) (IX2.cell rfl) (TX2.cell rfl) (IX2.frozen 0) (TX2.frozen 0) (by omega)).mono ?_
    rintro e9 u9 w9 ⟨rfl, rfl, rfl⟩
    have m0 := EX3.cell (j := 0) rfl
    have m1 := IX3.cell (j := 0) rfl
    have m2 := TX3.cell (j := 0) rfl
    refine ⟨.tuple #[.int .i64 0, .int .i64 0, .int .i64 2], ?_, rfl, BW3⟩
    simp [results, Try.results9, go_sem, m0, m1, m2]
  · have hu1 : 1073741824 < up := by omega
    clear hu
    go_wp2
    have EX2 := EX.out.set 0 (.int .i64 2)
    have IX2 := IX.out.set_other (show w.heap.size + 1 ≠ w.heap.size + 1 + 1 + 1 by omega) 0 (.int .i64 2)
    have TX2 := TX.out.set_other (show w.heap.size + 1 + 1 ≠ w.heap.size + 1 + 1 + 1 by omega) 0 (.int .i64 2)
    have BW2 := Bw.setCell HBW.out (p := ⟨w.heap.size + 1 + 1 + 1, 0, none⟩) (by simp; omega) (.int .i64 2)
    have EX3 := (EX2.set_other (show w.heap.size + 1 + 1 + 1 ≠ w.heap.size + 1 by omega) 0 (.int .i64 0)).set_other (show w.heap.size + 1 + 1 + 1 ≠ w.heap.size + 1 + 1 by omega) 0 (.int .i64 0)
    have IX3 := (IX2.set 0 (.int .i64 0)).set_other (show w.heap.size + 1 ≠ w.heap.size + 1 + 1 by omega) 0 (.int .i64 0)
    have TX3 := (TX2.set_other (show w.heap.size + 1 + 1 ≠ w.heap.size + 1 by omega) 0 (.int .i64 0)).set 0 (.int .i64 0)
    have BW3 := Bw.setCell (Bw.setCell BW2 (p := ⟨w.heap.size + 1, 0, none⟩) (by simp) (.int .i64 0)) (p := ⟨w.heap.size + 1 + 1, 0, none⟩) (by simp; omega) (.int .i64 0)
    refine leaves_cons (f := 29) (args := #[.pointer (some ⟨w.heap.size + 1 + 1 + 1, 0, none⟩), .pointer (some ⟨w.heap.size + 1, 0, none⟩), .pointer (some ⟨w.heap.size + 1 + 1, 0, none⟩)]) (by simp) (by simp [go_sem]) ?_
    refine (done_bad (w.heap.size + 1 + 1 + 1) (w.heap.size + 1) (w.heap.size + 1 + 1) 2 hne .returning _ (EX2.cell rfl) (IX2.cell rfl) (TX2.cell rfl) (IX2.frozen 0) (TX2.frozen 0) (by omega)).mono ?_
    rintro e9 u9 w9 ⟨rfl, rfl, rfl⟩
    have m0 := EX3.cell (j := 0) rfl
    have m1 := IX3.cell (j := 0) rfl
    have m2 := TX3.cell (j := 0) rfl
    refine ⟨.tuple #[.int .i64 0, .int .i64 0, .int .i64 2], ?_, rfl, BW3⟩
    simp [results, Try.results9, go_sem, m0, m1, m2]
theorem Delay_ok (x : Nat → Int) (up : Int) (w : World) (h : errA x = 0) (h1 : 0 ≤ up) (h2 : up ≤ 1073741824) :
    Calls Try.prog 9 #[.agg #[.int .i64 (x 0), .int .i64 (x 1), .int .i64 (x 2), .int .i64 (x 3), .int .i64 (x 4), .int .i64 (x 5), .int .i64 (x 6), .int .i64 (x 7), .int .i64 (x 8)], .int .i64 up] w fun e w' => e = .returned (.tuple #[.int .i64 (rndH (hsum x (zD up) 4 4) 90), .int .i64 (rndH (hsum (fun i => x (4 + i)) (zD up) 3 3) 60), .int .i64 0]) ∧ Bw w w' := by
  have CK := Lib.hid (fun W => ACheck_any x W)
  rw [h] at CK
  have hxb := errA_bd h
  have hz : (1073741824 : Int) - up = (zD up : Int) := by unfold zD; omega
  have hzb : zD up ≤ 1073741824 := by unfold zD; omega
  have HXB := Lib.hid hxb
  clear hxb h
  have D4 := Lib.hid (show ∀ W : World, Calls Try.prog 30 #[.agg #[.int .i64 (x 0), .int .i64 (x 1), .int .i64 (x 2), .int .i64 (x 3)], .int .i64 (zD up)] W fun e w' => e = .returned (.int .i64 (rndH (hsum x (zD up) 4 4) 90)) ∧ Bw W w' from fun W => by
    have h9 := delay4_any (fun i => if i < 4 then x i else 0) (zD up) W (fun i => by by_cases hi : i < 4 <;> simp [hi]; exact HXB.out i (by omega)) hzb
    have e1 : hsum (fun i => if i < 4 then x i else 0) (zD up) 4 4 = hsum x (zD up) 4 4 := by simp [hsum]
    rw [e1] at h9
    exact h9)
  have D3 := Lib.hid (show ∀ W : World, Calls Try.prog 31 #[.agg #[.int .i64 (x 4), .int .i64 (x 5), .int .i64 (x 6)], .int .i64 (zD up)] W fun e w' => e = .returned (.int .i64 (rndH (hsum (fun i => x (4 + i)) (zD up) 3 3) 60)) ∧ Bw W w' from fun W => by
    have h9 := delay3_any (fun i => if i < 3 then x (4 + i) else 0) (zD up) W (fun i => by by_cases hi : i < 3 <;> simp [hi]; exact HXB.out (4 + i) (by omega)) hzb
    have e1 : hsum (fun i => if i < 3 then x (4 + i) else 0) (zD up) 3 3 = hsum (fun i => x (4 + i)) (zD up) 3 3 := by simp [hsum]
    rw [e1] at h9
    exact h9)
  generalize rndH (hsum x (zD up) 4 4) 90 = r1 at *
  generalize rndH (hsum (fun i => x (4 + i)) (zD up) 3 3) 60 = r2 at *
  generalize zD up = z at *
  have hu0 : ¬ up < 0 := by omega
  have hu1 : ¬ 1073741824 < up := by omega
  have HBW := Lib.hid (Bw.alloc (Bw.alloc (Bw.alloc (Bw.alloc (Bw.refl w) (.cells #[.int .i64 (x 0), .int .i64 (x 1), .int .i64 (x 2), .int .i64 (x 3), .int .i64 (x 4), .int .i64 (x 5), .int .i64 (x 6), .int .i64 (x 7), .int .i64 (x 8)] 25)) (.cells #[.int .i64 0] 3)) (.cells #[.int .i64 0] 3)) (.cells #[.int .i64 0] 26))
  have KX := Lib.hid ((((Blk.new w 25 #[.int .i64 (x 0), .int .i64 (x 1), .int .i64 (x 2), .int .i64 (x 3), .int .i64 (x 4), .int .i64 (x 5), .int .i64 (x 6), .int .i64 (x 7), .int .i64 (x 8)]).alloc (.cells #[.int .i64 0] 3)).alloc (.cells #[.int .i64 0] 3)).alloc (.cells #[.int .i64 0] 26))
  have IX : Hid (Blk ((((w.alloc (.cells #[.int .i64 (x 0), .int .i64 (x 1), .int .i64 (x 2), .int .i64 (x 3), .int .i64 (x 4), .int .i64 (x 5), .int .i64 (x 6), .int .i64 (x 7), .int .i64 (x 8)] 25)).alloc (.cells #[.int .i64 0] 3)).alloc (.cells #[.int .i64 0] 3)).alloc (.cells #[.int .i64 0] 26)) (w.heap.size + 1) 3 #[.int .i64 0]) := Lib.hid (by have h9 := ((Blk.new (w.alloc (.cells #[.int .i64 (x 0), .int .i64 (x 1), .int .i64 (x 2), .int .i64 (x 3), .int .i64 (x 4), .int .i64 (x 5), .int .i64 (x 6), .int .i64 (x 7), .int .i64 (x 8)] 25)) 3 #[.int .i64 0]).alloc (.cells #[.int .i64 0] 3)).alloc (.cells #[.int .i64 0] 26); simpa using h9)
  have TX : Hid (Blk ((((w.alloc (.cells #[.int .i64 (x 0), .int .i64 (x 1), .int .i64 (x 2), .int .i64 (x 3), .int .i64 (x 4), .int .i64 (x 5), .int .i64 (x 6), .int .i64 (x 7), .int .i64 (x 8)] 25)).alloc (.cells #[.int .i64 0] 3)).alloc (.cells #[.int .i64 0] 3)).alloc (.cells #[.int .i64 0] 26)) (w.heap.size + 1 + 1) 3 #[.int .i64 0]) := Lib.hid (by have h9 := (Blk.new ((w.alloc (.cells #[.int .i64 (x 0), .int .i64 (x 1), .int .i64 (x 2), .int .i64 (x 3), .int .i64 (x 4), .int .i64 (x 5), .int .i64 (x 6), .int .i64 (x 7), .int .i64 (x 8)] 25)).alloc (.cells #[.int .i64 0] 3)) 3 #[.int .i64 0]).alloc (.cells #[.int .i64 0] 26); simpa using h9)
  have EX : Hid (Blk ((((w.alloc (.cells #[.int .i64 (x 0), .int .i64 (x 1), .int .i64 (x 2), .int .i64 (x 3), .int .i64 (x 4), .int .i64 (x 5), .int .i64 (x 6), .int .i64 (x 7), .int .i64 (x 8)] 25)).alloc (.cells #[.int .i64 0] 3)).alloc (.cells #[.int .i64 0] 3)).alloc (.cells #[.int .i64 0] 26)) (w.heap.size + 1 + 1 + 1) 26 #[.int .i64 0]) := Lib.hid (by have h9 := Blk.new (((w.alloc (.cells #[.int .i64 (x 0), .int .i64 (x 1), .int .i64 (x 2), .int .i64 (x 3), .int .i64 (x 4), .int .i64 (x 5), .int .i64 (x 6), .int .i64 (x 7), .int .i64 (x 8)] 25)).alloc (.cells #[.int .i64 0] 3)).alloc (.cells #[.int .i64 0] 3)) 26 #[.int .i64 0]; simpa using h9)
  have hmf : ∀ (fn : Fn) (first cap : Array Value) (w : World), (Instr.makeFunc fn first cap).run Try.prog w = .ok (.func fn first cap) w := fun _ _ _ _ => rfl
  go_enter_defers Try.func9, Try.ntmps9
  go_upto_region 2 with fail
  obtain ⟨W0, hW0⟩ : ∃ W0, ((((w.alloc (.cells #[.int .i64 (x 0), .int .i64 (x 1), .int .i64 (x 2), .int .i64 (x 3), .int .i64 (x 4), .int .i64 (x 5), .int .i64 (x 6), .int .i64 (x 7), .int .i64 (x 8)] 25)).alloc (.cells #[.int .i64 0] 3)).alloc (.cells #[.int .i64 0] 3)).alloc (.cells #[.int .i64 0] 26)) = W0 := ⟨_, rfl⟩
  rw [hW0] at HBW KX IX TX EX ⊢
  clear hW0
  have k0 : W0.cell? ⟨w.heap.size, 0, none⟩ = some (.int .i64 (x 0)) := KX.out.cell rfl
  have k1 : W0.cell? ⟨w.heap.size, 1, none⟩ = some (.int .i64 (x 1)) := KX.out.cell rfl
  have k2 : W0.cell? ⟨w.heap.size, 2, none⟩ = some (.int .i64 (x 2)) := KX.out.cell rfl
  have k3 : W0.cell? ⟨w.heap.size, 3, none⟩ = some (.int .i64 (x 3)) := KX.out.cell rfl
  have k4 : W0.cell? ⟨w.heap.size, 4, none⟩ = some (.int .i64 (x 4)) := KX.out.cell rfl
  have k5 : W0.cell? ⟨w.heap.size, 5, none⟩ = some (.int .i64 (x 5)) := KX.out.cell rfl
  have k6 : W0.cell? ⟨w.heap.size, 6, none⟩ = some (.int .i64 (x 6)) := KX.out.cell rfl
  have k7 : W0.cell? ⟨w.heap.size, 7, none⟩ = some (.int .i64 (x 7)) := KX.out.cell rfl
  have k8 : W0.cell? ⟨w.heap.size, 8, none⟩ = some (.int .i64 (x 8)) := KX.out.cell rfl
  have i0 : W0.cell? ⟨w.heap.size + 1, 0, none⟩ = some (.int .i64 0) := IX.out.cell rfl
  have t0 : W0.cell? ⟨w.heap.size + 1 + 1, 0, none⟩ = some (.int .i64 0) := TX.out.cell rfl
  have e0 : W0.cell? ⟨w.heap.size + 1 + 1 + 1, 0, none⟩ = some (.int .i64 0) := EX.out.cell rfl
  have fi := IX.out.frozen 0
  have ft := TX.out.frozen 0
  have fe := EX.out.frozen 0
  go_upto_region 4 with (go_at_call 13; (with_reducible refine Calls.mono (CK.out _) ?_); rintro e1 w1 ⟨rfl, hb9⟩; replace HBW := Lib.hid (HBW.out.trans hb9); replace KX := Lib.hid (KX.out.bw hb9); replace IX := Lib.hid (IX.out.bw hb9); replace TX := Lib.hid (TX.out.bw hb9); replace EX := Lib.hid (EX.out.bw hb9); clear hb9; clear k0 k1 k2 k3 k4 k5 k6 k7 k8 i0 t0 e0 fi ft fe; have k0 : w1.cell? ⟨w.heap.size, 0, none⟩ = some (.int .i64 (x 0)) := KX.out.cell rfl; have k1 : w1.cell? ⟨w.heap.size, 1, none⟩ = some (.int .i64 (x 1)) := KX.out.cell rfl; have k2 : w1.cell? ⟨w.heap.size, 2, none⟩ = some (.int .i64 (x 2)) := KX.out.cell rfl; have k3 : w1.cell? ⟨w.heap.size, 3, none⟩ = some (.int .i64 (x 3)) := KX.out.cell rfl; have k4 : w1.cell? ⟨w.heap.size, 4, none⟩ = some (.int .i64 (x 4)) := KX.out.cell rfl; have k5 : w1.cell? ⟨w.heap.size, 5, none⟩ = some (.int .i64 (x 5)) := KX.out.cell rfl; have k6 : w1.cell? ⟨w.heap.size, 6, none⟩ = some (.int .i64 (x 6)) := KX.out.cell rfl; have k7 : w1.cell? ⟨w.heap.size, 7, none⟩ = some (.int .i64 (x 7)) := KX.out.cell rfl; have k8 : w1.cell? ⟨w.heap.size, 8, none⟩ = some (.int .i64 (x 8)) := KX.out.cell rfl; have i0 : w1.cell? ⟨w.heap.size + 1, 0, none⟩ = some (.int .i64 0) := IX.out.cell rfl; have t0 : w1.cell? ⟨w.heap.size + 1 + 1, 0, none⟩ = some (.int .i64 0) := TX.out.cell rfl; have e0 : w1.cell? ⟨w.heap.size + 1 + 1 + 1, 0, none⟩ = some (.int .i64 0) := EX.out.cell rfl; have fi := IX.out.frozen 0; have ft := TX.out.frozen 0; have fe := EX.out.frozen 0)
  replace EX := Lib.hid (show Blk _ (w.heap.size + 1 + 1 + 1) 26 #[.int .i64 0] from EX.out.set 0 (.int .i64 0))
  replace IX := Lib.hid (IX.out.set_other (show w.heap.size + 1 ≠ w.heap.size + 1 + 1 + 1 by omega) 0 (.int .i64 0))
  replace TX := Lib.hid (TX.out.set_other (show w.heap.size + 1 + 1 ≠ w.heap.size + 1 + 1 + 1 by omega) 0 (.int .i64 0))
  replace KX := Lib.hid (KX.out.set_other (show w.heap.size ≠ w.heap.size + 1 + 1 + 1 by omega) 0 (.int .i64 0))
  replace HBW := Lib.hid (Bw.setCell HBW.out (p := ⟨w.heap.size + 1 + 1 + 1, 0, none⟩) (by simp; omega) (.int .i64 0))
  clear k0 k1 k2 k3 k4 k5 k6 k7 k8 i0 t0 e0 fi ft fe
  generalize w1.setCell ⟨w.heap.size + 1 + 1 + 1, 0, none⟩ (.int .i64 0) = w2 at KX IX TX EX HBW ⊢
  have k0 : w2.cell? ⟨w.heap.size, 0, none⟩ = some (.int .i64 (x 0)) := KX.out.cell rfl
  have k1 : w2.cell? ⟨w.heap.size, 1, none⟩ = some (.int .i64 (x 1)) := KX.out.cell rfl
  have k2 : w2.cell? ⟨w.heap.size, 2, none⟩ = some (.int .i64 (x 2)) := KX.out.cell rfl
  have k3 : w2.cell? ⟨w.heap.size, 3, none⟩ = some (.int .i64 (x 3)) := KX.out.cell rfl
  have k4 : w2.cell? ⟨w.heap.size, 4, none⟩ = some (.int .i64 (x 4)) := KX.out.cell rfl
  have k5 : w2.cell? ⟨w.heap.size, 5, none⟩ = some (.int .i64 (x 5)) := KX.out.cell rfl
  have k6 : w2.cell? ⟨w.heap.size, 6, none⟩ = some (.int .i64 (x 6)) := KX.out.cell rfl
  have k7 : w2.cell? ⟨w.heap.size, 7, none⟩ = some (.int .i64 (x 7)) := KX.out.cell rfl
  have k8 : w2.cell? ⟨w.heap.size, 8, none⟩ = some (.int .i64 (x 8)) := KX.out.cell rfl
  have i0 : w2.cell? ⟨w.heap.size + 1, 0, none⟩ = some (.int .i64 0) := IX.out.cell rfl
  have t0 : w2.cell? ⟨w.heap.size + 1 + 1, 0, none⟩ = some (.int .i64 0) := TX.out.cell rfl
  have e0 : w2.cell? ⟨w.heap.size + 1 + 1 + 1, 0, none⟩ = some (.int .i64 0) := EX.out.cell rfl
  have fi := IX.out.frozen 0
  have ft := TX.out.frozen 0
  have fe := EX.out.frozen 0
  go_upto_region 6 with fail
  have a0 := fun p' : Ext w2 => Ext.cell' k0 p'
  have a1 := fun p' : Ext w2 => Ext.cell' k1 p'
  have a2 := fun p' : Ext w2 => Ext.cell' k2 p'
  have a3 := fun p' : Ext w2 => Ext.cell' k3 p'
  have a4 := fun p' : Ext w2 => Ext.cell' k4 p'
  have a5 := fun p' : Ext w2 => Ext.cell' k5 p'
  have a6 := fun p' : Ext w2 => Ext.cell' k6 p'
  have a7 := fun p' : Ext w2 => Ext.cell' k7 p'
  have a8 := fun p' : Ext w2 => Ext.cell' k8 p'
  clear k0 k1 k2 k3 k4 k5 k6 k7 k8 i0 t0 e0 fi ft fe
  (refine wp_region_ext_tail 10 (by kernel_rfl) (by kernel_rfl) ?_; simp only [List.take_succ_cons, List.take_zero, List.drop_succ_cons, List.drop_zero]; (repeat (go_big_quiet_step ((first | (go_at_call 30; with_reducible refine Calls.ext_of (D4.out _)) | (go_at_call 31; with_reducible refine Calls.ext_of (D3.out _)))))); refine wpQuiet_nil ?_; rintro wq ⟨⟨_, hbq⟩, rfl⟩; obtain ⟨hccq, hffq⟩ := Bw.cells hbq; have hszq := Bw.size hbq)
  replace HBW := Lib.hid (HBW.out.trans hbq)
  replace KX := Lib.hid (KX.out.bw hbq)
  replace IX := Lib.hid (IX.out.bw hbq)
  replace TX := Lib.hid (TX.out.bw hbq)
  replace EX := Lib.hid (EX.out.bw hbq)
  clear a0 a1 a2 a3 a4 a5 a6 a7 a8 hbq hccq hffq hszq
  have k0 : wq.cell? ⟨w.heap.size, 0, none⟩ = some (.int .i64 (x 0)) := KX.out.cell rfl
  have k1 : wq.cell? ⟨w.heap.size, 1, none⟩ = some (.int .i64 (x 1)) := KX.out.cell rfl
  have k2 : wq.cell? ⟨w.heap.size, 2, none⟩ = some (.int .i64 (x 2)) := KX.out.cell rfl
  have k3 : wq.cell? ⟨w.heap.size, 3, none⟩ = some (.int .i64 (x 3)) := KX.out.cell rfl
  have k4 : wq.cell? ⟨w.heap.size, 4, none⟩ = some (.int .i64 (x 4)) := KX.out.cell rfl
  have k5 : wq.cell? ⟨w.heap.size, 5, none⟩ = some (.int .i64 (x 5)) := KX.out.cell rfl
  have k6 : wq.cell? ⟨w.heap.size, 6, none⟩ = some (.int .i64 (x 6)) := KX.out.cell rfl
  have k7 : wq.cell? ⟨w.heap.size, 7, none⟩ = some (.int .i64 (x 7)) := KX.out.cell rfl
  have k8 : wq.cell? ⟨w.heap.size, 8, none⟩ = some (.int .i64 (x 8)) := KX.out.cell rfl
  have i0 : wq.cell? ⟨w.heap.size + 1, 0, none⟩ = some (.int .i64 0) := IX.out.cell rfl
  have t0 : wq.cell? ⟨w.heap.size + 1 + 1, 0, none⟩ = some (.int .i64 0) := TX.out.cell rfl
  have e0 : wq.cell? ⟨w.heap.size + 1 + 1 + 1, 0, none⟩ = some (.int .i64 0) := EX.out.cell rfl
  have fi := IX.out.frozen 0
  have ft := TX.out.frozen 0
  have fe := EX.out.frozen 0
  go_wp2
  have EX3 := ((EX.out.set_other (show w.heap.size + 1 + 1 + 1 ≠ w.heap.size + 1 by omega) 0 (.int .i64 r1)).set_other (show w.heap.size + 1 + 1 + 1 ≠ w.heap.size + 1 + 1 by omega) 0 (.int .i64 r2)).set 0 (.int .i64 0)
  have IX3 := ((IX.out.set 0 (.int .i64 r1)).set_other (show w.heap.size + 1 ≠ w.heap.size + 1 + 1 by omega) 0 (.int .i64 r2)).set_other (show w.heap.size + 1 ≠ w.heap.size + 1 + 1 + 1 by omega) 0 (.int .i64 0)
  have TX3 := ((TX.out.set_other (show w.heap.size + 1 + 1 ≠ w.heap.size + 1 by omega) 0 (.int .i64 r1)).set 0 (.int .i64 r2)).set_other (show w.heap.size + 1 + 1 ≠ w.heap.size + 1 + 1 + 1 by omega) 0 (.int .i64 0)
  have BW3 := Bw.setCell (Bw.setCell (Bw.setCell HBW.out (p := ⟨w.heap.size + 1, 0, none⟩) (by simp) (.int .i64 r1)) (p := ⟨w.heap.size + 1 + 1, 0, none⟩) (by simp; omega) (.int .i64 r2)) (p := ⟨w.heap.size + 1 + 1 + 1, 0, none⟩) (by simp; omega) (.int .i64 0)
  refine leaves_cons (f := 29) (args := #[.pointer (some ⟨w.heap.size + 1 + 1 + 1, 0, none⟩), .pointer (some ⟨w.heap.size + 1, 0, none⟩), .pointer (some ⟨w.heap.size + 1 + 1, 0, none⟩)]) (by simp) (by simp [go_sem]) ?_
  refine (done_ok (w.heap.size + 1 + 1 + 1) (w.heap.size + 1) (w.heap.size + 1 + 1) .returning _ (EX3.cell rfl)).mono ?_
  rintro e9 u9 w9 ⟨rfl, rfl, rfl⟩
  have m0 := EX3.cell (j := 0) rfl
  have m1 := IX3.cell (j := 0) rfl
  have m2 := TX3.cell (j := 0) rfl
  refine ⟨.tuple #[.int .i64 r1, .int .i64 r2, .int .i64 0], ?_, rfl, BW3⟩
  simp [results, Try.results9, go_sem, m0, m1, m2]
theorem Delay_any (x : Nat → Int) (up : Int) (w : World) :
    Calls Try.prog 9 #[.agg #[.int .i64 (x 0), .int .i64 (x 1), .int .i64 (x 2), .int .i64 (x 3), .int .i64 (x 4), .int .i64 (x 5), .int .i64 (x 6), .int .i64 (x 7), .int .i64 (x 8)], .int .i64 up] w fun e w' => e = .returned (.tuple #[.int .i64 (ionoD x up), .int .i64 (tropoD x up), .int .i64 (errD x up)]) ∧ Bw w w' := by
  by_cases h : errA x = 0
  · by_cases hu : 0 ≤ up ∧ up ≤ 1073741824
    · have h9 := Delay_ok x up w h hu.1 hu.2
      unfold ionoD tropoD errD
      rw [if_pos ⟨h, hu⟩, if_pos ⟨h, hu⟩, if_pos h, if_pos hu]
      exact h9
    · have h9 := Delay_range x up w h (by omega)
      unfold ionoD tropoD errD
      rw [if_neg (fun q => hu q.2), if_neg (fun q => hu q.2), if_pos h, if_neg hu]
      exact h9
  · have h9 := Delay_bad x up w h
    unfold ionoD tropoD errD
    rw [if_neg (fun q => h q.1), if_neg (fun q => h q.1), if_neg h]
    exact h9
end Go.Proofs.Sky

namespace Go.Proofs.Sky
open Go Go.RowKit Go.Shelf
set_option maxHeartbeats 4000000
set_option maxRecDepth 4000
def sl (x : Nat → Int) (o : Nat) : Nat → Int
  | 0 => 0
  | k + 1 => sl x o k + (k : Int) * ((x (o + k)).natAbs : Int)
def slopeN (x : Nat → Int) : Int := sl x 0 4 + sl x 4 3
attribute [-go_sem] run_max_int2
attribute [local go_sem] run_mx2
theorem sl_bd (x : Nat → Int) (o : Nat) : ∀ k, k ≤ 4 → (∀ i, i < k → -1000000 ≤ x (o + i) ∧ x (o + i) ≤ 1000000) → 0 ≤ sl x o k ∧ sl x o k ≤ 3000000 * (k : Int) := by
  intro k
  induction k with
  | zero => intro _ _; simp [sl]
  | succ k ih =>
    intro hk h
    have h1 := ih (by omega) (fun i hi => h i (by omega))
    have h2 := h k (by omega)
    rw [sl]
    rcases (show k = 0 ∨ k = 1 ∨ k = 2 ∨ k = 3 by omega) with rfl | rfl | rfl | rfl <;> omega
theorem slope_any (x : Nat → Int) (w : World) (hx : ∀ i, i < 9 → -1000000 ≤ x i ∧ x i ≤ 1000000) :
    Calls Try.prog 35 #[.agg #[.int .i64 (x 0), .int .i64 (x 1), .int .i64 (x 2), .int .i64 (x 3), .int .i64 (x 4), .int .i64 (x 5), .int .i64 (x 6), .int .i64 (x 7), .int .i64 (x 8)]] w fun e w' => e = .returned (.int .i64 (slopeN x)) ∧ Bw w w' := by
  have HBW := Lib.hid (Bw.alloc (Bw.refl w) (.cells (atV x) 25))
  have KX := Lib.hid (Blk.new w 25 (atV x))
  unfold atV at HBW KX
  have HX := Lib.hid hx
  clear hx
  go_enter Try.func35, Try.ntmps35
  go_upto_region 2 with fail
  obtain ⟨W0, hW0⟩ : ∃ W0, (w.alloc (.cells #[.int .i64 (x 0), .int .i64 (x 1), .int .i64 (x 2), .int .i64 (x 3), .int .i64 (x 4), .int .i64 (x 5), .int .i64 (x 6), .int .i64 (x 7), .int .i64 (x 8)] 25)) = W0 := ⟨_, rfl⟩
  rw [hW0] at HBW KX ⊢
  clear hW0
  replace KX := Lib.hid (show Blk W0 w.heap.size 25 (atV x) from KX.out)
  go_region
  have SX := Lib.hid (Blk.new W0 36 #[.slice (some ⟨w.heap.size, 0, none⟩) 4 4, .slice (some ⟨w.heap.size, 4, none⟩) 3 3])
  have hba := Bw.drew (Bw.alloc (Bw.refl W0) (.cells #[.slice (some ⟨w.heap.size, 0, none⟩) 4 4, .slice (some ⟨w.heap.size, 4, none⟩) 3 3] 36))
  replace SX := Lib.hid (SX.out.bw (Bw.drew (Bw.refl _)))
  replace KX := Lib.hid (KX.out.bw hba)
  replace HBW := Lib.hid (HBW.out.trans hba)
  clear hba
  obtain ⟨gs, hgs⟩ : ∃ gs, W0.heap.size = gs := ⟨_, rfl⟩
  rw [hgs] at SX ⊢
  clear hgs
  generalize (W0.alloc _).drew = WA at SX KX HBW ⊢
  have c0 : WA.cell? ⟨gs, 0, none⟩ = some (.slice (some ⟨w.heap.size, 0, none⟩) 4 4) := SX.out.cell rfl
  have c1 : WA.cell? ⟨gs, 1, none⟩ = some (.slice (some ⟨w.heap.size, 4, none⟩) 3 3) := SX.out.cell rfl
  have hb4 := sl_bd x 0 4 (by omega) (fun j hj => HX.out (0 + j) (by omega))
  have HB4 := Lib.hid hb4
  clear hb4
  go_wp2
  go_loopg [3, 14] 2 (fun gg s3 s14 wr => ∃ i : Nat, i ≤ 2 ∧ 2 - i ≤ gg ∧ s14 = .int .i64 i ∧ s3 = .int .i64 (if i = 0 then 0 else if i = 1 then sl x 0 4 else slopeN x) ∧ wr = WA)
  case atStart => exact ⟨0, by omega, by omega, rfl, by simp, rfl⟩
  case round =>
    obtain ⟨i, hi, hgg, rfl, rfl, hwr⟩ := hrel
    replace hwr := hwr.symm
    subst hwr
    rcases (show i = 0 ∨ i = 1 ∨ i = 2 by omega) with rfl | rfl | rfl
    · rw [if_pos rfl]
      go_wp2
      go_loopg [3, 20] 4 (fun gg s3 s20 wr => ∃ k : Nat, k ≤ 4 ∧ 4 - k ≤ gg ∧ s20 = .int .i64 k ∧ s3 = .int .i64 (0 + sl x 0 k) ∧ wr = WA)
      case atStart => exact ⟨0, by omega, by omega, rfl, by simp [sl], rfl⟩
      case round =>
        obtain ⟨k, hk, hgg2, rfl, rfl, hwr2⟩ := hrel
        replace hwr2 := hwr2.symm
        subst hwr2
        have hbd := sl_bd x 0 k (by omega) (fun j hj => HX.out (0 + j) (by omega))
        by_cases hlt : k < 4
        · have hkz : (k : Int) < 4 := by omega
          have k1 : WA.cell? ⟨w.heap.size, 0 + k, none⟩ = some (.int .i64 (x (0 + k))) := KX.out.cell (atV_at x (0 + k) (by omega))
          rw [Nat.zero_add] at k1
          have HS := Lib.hid (show sl x 0 (k + 1) = sl x 0 k + (k : Int) * ((x (0 + k)).natAbs : Int) from rfl)
          rw [Nat.zero_add] at HS
          have hxb := HX.out (0 + k) (by omega)
          rw [Nat.zero_add] at hxb
          generalize x (k) = z at k1 HS hxb
          generalize sl x 0 k = t at *
          have hm := mx2_abs z
          obtain ⟨a, ha⟩ : ∃ a, a = z.natAbs := ⟨_, rfl⟩
          rw [← ha] at hm HS
          have hab : a ≤ 1000000 := by omega
          clear ha
          have hka := Nat.mul_le_mul (show k ≤ 3 by omega) hab
          obtain ⟨p, hp⟩ : ∃ p, p = k * a := ⟨_, rfl⟩
          have hpz : (k : Int) * (a : Int) = (p : Int) := by rw [hp, Int.natCast_mul]
          rw [← hp] at hka
          clear hp
          have HP := Lib.hid hpz
          go_wp2
          go_roundg (4 - (k + 1))
          case measure => omega
          case rel => exact ⟨k + 1, by omega, by omega, by go_num, by rw [HS.out, HP.out]; first | rfl | (congr 1; omega), rfl⟩
        · obtain rfl : k = 4 := by omega
          have hgg9 := hgg
          go_wp2
          go_roundg (2 - (0 + 1))
          case measure => omega
          case rel => exact ⟨1, by omega, by omega, by go_num, by simp, rfl⟩
    · rw [if_neg (by omega), if_pos rfl]
      have hb4 := HB4.out
      obtain ⟨B, hB⟩ : ∃ B, B = sl x 0 4 := ⟨_, rfl⟩
      rw [← hB] at hb4 ⊢
      have HBE := Lib.hid hB
      clear hB
      go_wp2
      go_loopg [3, 20] 3 (fun gg s3 s20 wr => ∃ k : Nat, k ≤ 3 ∧ 3 - k ≤ gg ∧ s20 = .int .i64 k ∧ s3 = .int .i64 (B + sl x 4 k) ∧ wr = WA)
      case atStart => exact ⟨0, by omega, by omega, rfl, by simp [sl], rfl⟩
      case round =>
        obtain ⟨k, hk, hgg2, rfl, rfl, hwr2⟩ := hrel
        replace hwr2 := hwr2.symm
        subst hwr2
        have hbd := sl_bd x 4 k (by omega) (fun j hj => HX.out (4 + j) (by omega))
        by_cases hlt : k < 3
        · have hkz : (k : Int) < 3 := by omega
          have k1 : WA.cell? ⟨w.heap.size, 4 + k, none⟩ = some (.int .i64 (x (4 + k))) := KX.out.cell (atV_at x (4 + k) (by omega))
          skip
          have HS := Lib.hid (show sl x 4 (k + 1) = sl x 4 k + (k : Int) * ((x (4 + k)).natAbs : Int) from rfl)
          skip
          have hxb := HX.out (4 + k) (by omega)
          skip
          generalize x (4 + k) = z at k1 HS hxb
          generalize sl x 4 k = t at *
          have hm := mx2_abs z
          obtain ⟨a, ha⟩ : ∃ a, a = z.natAbs := ⟨_, rfl⟩
          rw [← ha] at hm HS
          have hab : a ≤ 1000000 := by omega
          clear ha
          have hka := Nat.mul_le_mul (show k ≤ 3 by omega) hab
          obtain ⟨p, hp⟩ : ∃ p, p = k * a := ⟨_, rfl⟩
          have hpz : (k : Int) * (a : Int) = (p : Int) := by rw [hp, Int.natCast_mul]
          rw [← hp] at hka
          clear hp
          have HP := Lib.hid hpz
          go_wp2
          go_roundg (3 - (k + 1))
          case measure => omega
          case rel => exact ⟨k + 1, by omega, by omega, by go_num, by rw [HS.out, HP.out]; first | rfl | (congr 1; omega), rfl⟩
        · obtain rfl : k = 3 := by omega
          have hgg9 := hgg
          go_wp2
          go_roundg (2 - (1 + 1))
          case measure => omega
          case rel => exact ⟨2, by omega, by omega, by go_num, by rw [if_neg (by omega), if_neg (by omega), HBE.out]; rfl, rfl⟩
    · rw [if_neg (by omega), if_neg (by omega)]
      obtain ⟨sn, hsn⟩ : ∃ sn, sn = slopeN x := ⟨_, rfl⟩
      rw [← hsn]
      have HSN := Lib.hid hsn
      clear hsn
      go_wp2
      go_ret
      exact ⟨ret_int HSN.out, HBW.out⟩
theorem Slope_any (x : Nat → Int) (w : World) :
    Calls Try.prog 11 #[.agg #[.int .i64 (x 0), .int .i64 (x 1), .int .i64 (x 2), .int .i64 (x 3), .int .i64 (x 4), .int .i64 (x 5), .int .i64 (x 6), .int .i64 (x 7), .int .i64 (x 8)]] w fun e w' => e = .returned (.tuple #[.int .i64 (if errA x = 0 then slopeN x else 0), .int .i64 (errA x)]) ∧ Bw w w' := by
  have CK := Lib.hid (fun W => ACheck_any x W)
  have HBW := Lib.hid (Bw.alloc (Bw.refl w) (.cells (atV x) 25))
  have KX := Lib.hid (Blk.new w 25 (atV x))
  unfold atV at HBW KX
  have CKA := Lib.hid (show ∀ W1, Blk W1 w.heap.size 25 (atV x) → ∀ i, i < 9 → W1.cell? ⟨w.heap.size, i, none⟩ = some (.int .i64 (x i)) from fun W1 hB i hi => hB.cell (atV_at x i hi))
  by_cases h : errA x = 0
  · rw [h] at CK
    rw [if_pos h, h]
    have SL := Lib.hid (fun W => slope_any x W (errA_bd h))
    clear h
    obtain ⟨sn, hsn⟩ : ∃ sn, sn = slopeN x := ⟨_, rfl⟩
    rw [← hsn] at SL ⊢
    clear hsn
    go_enter Try.func11, Try.ntmps11
    go_wp2_with (first | (go_at_call 13; (with_reducible refine Calls.mono (CK.out _) ?_); rintro e1 w1 ⟨rfl, hb9⟩; replace HBW := Lib.hid (HBW.out.trans hb9); replace KX := Lib.hid (KX.out.bw hb9); clear hb9; have k0 : w1.cell? ⟨w.heap.size, 0, none⟩ = some (.int .i64 (x 0)) := CKA.out _ KX.out 0 (by omega); have k1 : w1.cell? ⟨w.heap.size, 1, none⟩ = some (.int .i64 (x 1)) := CKA.out _ KX.out 1 (by omega); have k2 : w1.cell? ⟨w.heap.size, 2, none⟩ = some (.int .i64 (x 2)) := CKA.out _ KX.out 2 (by omega); have k3 : w1.cell? ⟨w.heap.size, 3, none⟩ = some (.int .i64 (x 3)) := CKA.out _ KX.out 3 (by omega); have k4 : w1.cell? ⟨w.heap.size, 4, none⟩ = some (.int .i64 (x 4)) := CKA.out _ KX.out 4 (by omega); have k5 : w1.cell? ⟨w.heap.size, 5, none⟩ = some (.int .i64 (x 5)) := CKA.out _ KX.out 5 (by omega); have k6 : w1.cell? ⟨w.heap.size, 6, none⟩ = some (.int .i64 (x 6)) := CKA.out _ KX.out 6 (by omega); have k7 : w1.cell? ⟨w.heap.size, 7, none⟩ = some (.int .i64 (x 7)) := CKA.out _ KX.out 7 (by omega); have k8 : w1.cell? ⟨w.heap.size, 8, none⟩ = some (.int .i64 (x 8)) := CKA.out _ KX.out 8 (by omega)) | (go_at_call 35; (with_reducible refine Calls.mono (SL.out _) ?_); rintro e1 w2 ⟨rfl, hb9⟩; replace HBW := Lib.hid (HBW.out.trans hb9); clear hb9))
    refine bodyPost_ret (v := .tuple #[.int .i64 sn, .int .i64 0]) ?_ rfl ⟨rfl, HBW.out⟩
    simp [results, Try.results11, go_sem]
  · rw [if_neg h]
    generalize errA x = er at *
    have hne : (er != 0) = true := by simpa using h
    go_enter Try.func11, Try.ntmps11
    go_wp2_with (go_at_call 13; (with_reducible refine Calls.mono (CK.out _) ?_); rintro e1 w1 ⟨rfl, hb9⟩; replace HBW := Lib.hid (HBW.out.trans hb9); clear hb9)
    refine bodyPost_ret (v := .tuple #[.int .i64 0, .int .i64 er]) ?_ rfl ⟨rfl, HBW.out⟩
    simp [results, Try.results11, go_sem]
end Go.Proofs.Sky

namespace Go.Proofs.Sky
theorem mul_bd3 (m u a b : Int) (h1 : -a ≤ m) (h2 : m ≤ a) (h3 : -b ≤ u) (h4 : u ≤ b) : -(a * b) ≤ m * u ∧ m * u ≤ a * b := by
  have ha : 0 ≤ a := by omega
  have hb : 0 ≤ b := by omega
  have p1 := Int.mul_nonneg (show 0 ≤ a - m by omega) (show 0 ≤ b - u by omega)
  have p2 := Int.mul_nonneg (show 0 ≤ a + m by omega) (show 0 ≤ b + u by omega)
  have p3 := Int.mul_nonneg (show 0 ≤ a - m by omega) (show 0 ≤ b + u by omega)
  have p4 := Int.mul_nonneg (show 0 ≤ a + m by omega) (show 0 ≤ b - u by omega)
  simp only [Int.sub_mul, Int.mul_sub, Int.add_mul, Int.mul_add] at p1 p2 p3 p4
  constructor <;> omega
theorem hsum_bd (c : Nat → Int) (z N : Nat) (hc : ∀ i, -1000000 ≤ c i ∧ c i ≤ 1000000) (hz : z ≤ 1073741824) : ∀ q, -(bnd q : Int) ≤ hsum c z N q ∧ hsum c z N q ≤ (bnd q : Int) := by
  intro q
  induction q with
  | zero => simp [hsum, bnd]
  | succ q ih =>
    have h1 := mul_bd3 (hsum c z N q) z (bnd q) 1073741824 ih.1 ih.2 (by omega) (by omega)
    have hp : (0 : Int) ≤ 2 ^ (30 * q) := Int.le_of_lt (Int.pow_pos (by omega))
    have h2 := mul_bd3 (c (N - 1 - q)) (2 ^ (30 * q)) 1000000 (2 ^ (30 * q)) (hc _).1 (hc _).2 (by omega) (Int.le_refl _)
    rw [hsum]
    have e : ((bnd (q + 1) : Nat) : Int) = (bnd q : Int) * 1073741824 + 1000000 * 2 ^ (30 * q) := by rw [bnd, Int.natCast_add, Int.natCast_mul, Int.natCast_mul, Int.natCast_pow]; rfl
    rw [e]
    omega
theorem rnd90 (S : Int) (h : -(bnd 4 : Int) ≤ S ∧ S ≤ (bnd 4 : Int)) : -4000001 ≤ rndH S 90 ∧ rndH S 90 ≤ 4000001 := by
  have e : ((bnd 4 : Nat) : Int) = 4951760157141521099596496896000000 := by decide
  have e1 : (2 : Int) ^ (90 - 1) = 618970019642690137449562112 := by decide
  have e2 : (2 : Int) ^ 90 = 1237940039285380274899124224 := by decide
  rw [e] at h
  unfold rndH
  rw [e1, e2]
  split <;> omega
theorem rnd60 (S : Int) (h : -(bnd 3 : Int) ≤ S ∧ S ≤ (bnd 3 : Int)) : -4000001 ≤ rndH S 60 ∧ rndH S 60 ≤ 4000001 := by
  have e : ((bnd 3 : Nat) : Int) = 3458764513820540928000000 := by decide
  have e1 : (2 : Int) ^ (60 - 1) = 576460752303423488 := by decide
  have e2 : (2 : Int) ^ 60 = 1152921504606846976 := by decide
  rw [e] at h
  unfold rndH
  rw [e1, e2]
  split <;> omega
end Go.Proofs.Sky
