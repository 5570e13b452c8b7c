/-
  lemmas for the theorems of this claim. No conditions beyond those written in the statements.
-/
import Derived.Test.YtiohoallllkagaaA31
import Derived.Deep.Cut
set_option linter.unusedVariables false
set_option linter.unusedSimpArgs false
set_option linter.unnecessarySimpa false
namespace Go.Proofs.Sky
open Go Go.RowKit Go.Shelf
set_option maxHeartbeats 2000000
set_option maxRecDepth 4000
theorem run_Add64_v (x y s c : Nat) (hs : (x + y) % 18446744073709551616 = s) (hc : (x + y) / 18446744073709551616 = c) (w : World) :
    (callFunc 63 #[.int .u64 x, .int .u64 y, .int .u64 0]).run Try.prog w = .ok (.value (.tuple #[.int .u64 (s : Int), .int .u64 (c : Int)])) w := by
  have h := run_Add64 x y 0 (by omega) w
  rw [Nat.add_zero, hs, hc] at h
  exact h
theorem run_Sub64_v (x y s c : Nat) (hs : (x + 18446744073709551616 - y) % 18446744073709551616 = s) (hc : (if x < y then 1 else 0) = c) (w : World) :
    (callFunc 64 #[.int .u64 x, .int .u64 y, .int .u64 0]).run Try.prog w = .ok (.value (.tuple #[.int .u64 (s : Int), .int .u64 (c : Int)])) w := by
  have h := run_Sub64 x y 0 (by omega) w
  simp only [Nat.sub_zero, Nat.add_zero] at h
  rw [hs, hc] at h
  exact h
theorem plus_same_false (h1 l1 h2 l2 : Nat) (w : World) (e1 : h1 < 18446744073709551616) (e2 : l1 < 18446744073709551616) (e3 : h2 < 18446744073709551616) (e4 : l2 < 18446744073709551616) (e5 : h1 + h2 + (l1 + l2) / 18446744073709551616 < 18446744073709551616) :
    Calls Try.prog 47 #[.agg #[.bool false, .int .u64 (h1 : Int), .int .u64 (l1 : Int)], .agg #[.bool false, .int .u64 (h2 : Int), .int .u64 (l2 : Int)]] w fun e w' => e = .returned (.agg #[.bool false, .int .u64 ((h1 + h2 + (l1 + l2) / 18446744073709551616 : Nat) : Int), .int .u64 (((l1 + l2) % 18446744073709551616 : Nat) : Int)]) ∧ Bw w w' := by
  obtain ⟨s, hs⟩ : ∃ s, (l1 + l2) % 18446744073709551616 = s := ⟨_, rfl⟩
  obtain ⟨c, hc⟩ : ∃ c, (l1 + l2) / 18446744073709551616 = c := ⟨_, rfl⟩
  have AD := Lib.hid (fun W => run_Add64_v l1 l2 s c hs hc W)
  rw [hs, hc]
  rw [hc] at e5
  clear hs hc
  obtain ⟨H, hH⟩ : ∃ H, H = h1 + h2 + c := ⟨_, rfl⟩
  rw [← hH]
  have hHz : (h1 : Int) + (h2 : Int) + (c : Int) = (H : Int) := by omega
  rw [← hH] at e5
  have hc1 : (h1 : Int) + h2 < 18446744073709551616 := by omega
  clear hH
  have HBW := Lib.hid (Bw.alloc (Bw.alloc (Bw.alloc (Bw.refl w) (.cells #[.bool false, .int .u64 (h1 : Int), .int .u64 (l1 : Int)] 80)) (.cells #[.bool false, .int .u64 (h2 : Int), .int .u64 (l2 : Int)] 80)) (.cells #[.bool false, .int .u64 0, .int .u64 0] 80))
  have KX := Lib.hid (((Blk.new w 80 #[.bool false, .int .u64 (h1 : Int), .int .u64 (l1 : Int)]).alloc (.cells #[.bool false, .int .u64 (h2 : Int), .int .u64 (l2 : Int)] 80)).alloc (.cells #[.bool false, .int .u64 0, .int .u64 0] 80))
  have VX : Hid (Blk (((w.alloc (.cells #[.bool false, .int .u64 (h1 : Int), .int .u64 (l1 : Int)] 80)).alloc (.cells #[.bool false, .int .u64 (h2 : Int), .int .u64 (l2 : Int)] 80)).alloc (.cells #[.bool false, .int .u64 0, .int .u64 0] 80)) (w.heap.size + 1) 80 #[.bool false, .int .u64 (h2 : Int), .int .u64 (l2 : Int)]) := Lib.hid (by have h9 := (Blk.new (w.alloc (.cells #[.bool false, .int .u64 (h1 : Int), .int .u64 (l1 : Int)] 80)) 80 #[.bool false, .int .u64 (h2 : Int), .int .u64 (l2 : Int)]).alloc (.cells #[.bool false, .int .u64 0, .int .u64 0] 80); simpa using h9)
  have ZX : Hid (Blk (((w.alloc (.cells #[.bool false, .int .u64 (h1 : Int), .int .u64 (l1 : Int)] 80)).alloc (.cells #[.bool false, .int .u64 (h2 : Int), .int .u64 (l2 : Int)] 80)).alloc (.cells #[.bool false, .int .u64 0, .int .u64 0] 80)) (w.heap.size + 1 + 1) 80 #[.bool false, .int .u64 0, .int .u64 0]) := Lib.hid (by have h9 := Blk.new ((w.alloc (.cells #[.bool false, .int .u64 (h1 : Int), .int .u64 (l1 : Int)] 80)).alloc (.cells #[.bool false, .int .u64 (h2 : Int), .int .u64 (l2 : Int)] 80)) 80 #[.bool false, .int .u64 0, .int .u64 0]; simpa using h9)
  go_enter Try.func47, Try.ntmps47
  go_upto_region 1 with fail
  obtain ⟨W0, hW0⟩ : ∃ W0, (((w.alloc (.cells #[.bool false, .int .u64 (h1 : Int), .int .u64 (l1 : Int)] 80)).alloc (.cells #[.bool false, .int .u64 (h2 : Int), .int .u64 (l2 : Int)] 80)).alloc (.cells #[.bool false, .int .u64 0, .int .u64 0] 80)) = W0 := ⟨_, rfl⟩
  rw [hW0] at HBW KX VX ZX ⊢
  clear hW0
  have k0 : W0.cell? ⟨w.heap.size, 0, none⟩ = some (.bool false) := KX.out.cell rfl
  have k1 : W0.cell? ⟨w.heap.size, 1, none⟩ = some (.int .u64 (h1 : Int)) := KX.out.cell rfl
  have k2 : W0.cell? ⟨w.heap.size, 2, none⟩ = some (.int .u64 (l1 : Int)) := KX.out.cell rfl
  have fk0 := KX.out.frozen 0
  have fk1 := KX.out.frozen 1
  have fk2 := KX.out.frozen 2
  have v0 : W0.cell? ⟨w.heap.size + 1, 0, none⟩ = some (.bool false) := VX.out.cell rfl
  have v1 : W0.cell? ⟨w.heap.size + 1, 1, none⟩ = some (.int .u64 (h2 : Int)) := VX.out.cell rfl
  have v2 : W0.cell? ⟨w.heap.size + 1, 2, none⟩ = some (.int .u64 (l2 : Int)) := VX.out.cell rfl
  have fv0 := VX.out.frozen 0
  have fv1 := VX.out.frozen 1
  have fv2 := VX.out.frozen 2
  have z0 : W0.cell? ⟨w.heap.size + 1 + 1, 0, none⟩ = some (.bool false) := ZX.out.cell rfl
  have z1 : W0.cell? ⟨w.heap.size + 1 + 1, 1, none⟩ = some (.int .u64 0) := ZX.out.cell rfl
  have z2 : W0.cell? ⟨w.heap.size + 1 + 1, 2, none⟩ = some (.int .u64 0) := ZX.out.cell rfl
  have fz0 := ZX.out.frozen 0
  have fz1 := ZX.out.frozen 1
  have fz2 := ZX.out.frozen 2
  go_wp2_with (simp only [AD.out])
  have B9 := ((ZX.out.set 0 (.bool false)).set 1 (.int .u64 (H : Int))).set 2 (.int .u64 (s : Int))
  have m0 := B9.cell (j := 0) rfl
  have m1 := B9.cell (j := 1) rfl
  have m2 := B9.cell (j := 2) rfl
  refine bodyPost_ret (v := .agg #[.bool false, .int .u64 (H : Int), .int .u64 (s : Int)]) ?_ rfl ⟨rfl, Bw.setCell (Bw.setCell (Bw.setCell HBW.out (p := ⟨w.heap.size + 1 + 1, 0, none⟩) (by simp; try omega) _) (p := ⟨w.heap.size + 1 + 1, 1, none⟩) (by simp; try omega) _) (p := ⟨w.heap.size + 1 + 1, 2, none⟩) (by simp; try omega) _⟩
  simp [results, Try.results47, go_sem, m0, m1, m2]
theorem plus_same_true (h1 l1 h2 l2 : Nat) (w : World) (e1 : h1 < 18446744073709551616) (e2 : l1 < 18446744073709551616) (e3 : h2 < 18446744073709551616) (e4 : l2 < 18446744073709551616) (e5 : h1 + h2 + (l1 + l2) / 18446744073709551616 < 18446744073709551616) :
    Calls Try.prog 47 #[.agg #[.bool true, .int .u64 (h1 : Int), .int .u64 (l1 : Int)], .agg #[.bool true, .int .u64 (h2 : Int), .int .u64 (l2 : Int)]] w fun e w' => e = .returned (.agg #[.bool true, .int .u64 ((h1 + h2 + (l1 + l2) / 18446744073709551616 : Nat) : Int), .int .u64 (((l1 + l2) % 18446744073709551616 : Nat) : Int)]) ∧ Bw w w' := by
  obtain ⟨s, hs⟩ : ∃ s, (l1 + l2) % 18446744073709551616 = s := ⟨_, rfl⟩
  obtain ⟨c, hc⟩ : ∃ c, (l1 + l2) / 18446744073709551616 = c := ⟨_, rfl⟩
  have AD := Lib.hid (fun W => run_Add64_v l1 l2 s c hs hc W)
  rw [hs, hc]
  rw [hc] at e5
  clear hs hc
  obtain ⟨H, hH⟩ : ∃ H, H = h1 + h2 + c := ⟨_, rfl⟩
  rw [← hH]
  have hHz : (h1 : Int) + (h2 : Int) + (c : Int) = (H : Int) := by omega
  rw [← hH] at e5
  have hc1 : (h1 : Int) + h2 < 18446744073709551616 := by omega
  clear hH
  have HBW := Lib.hid (Bw.alloc (Bw.alloc (Bw.alloc (Bw.refl w) (.cells #[.bool true, .int .u64 (h1 : Int), .int .u64 (l1 : Int)] 80)) (.cells #[.bool true, .int .u64 (h2 : Int), .int .u64 (l2 : Int)] 80)) (.cells #[.bool false, .int .u64 0, .int .u64 0] 80))
  have KX := Lib.hid (((Blk.new w 80 #[.bool true, .int .u64 (h1 : Int), .int .u64 (l1 : Int)]).alloc (.cells #[.bool true, .int .u64 (h2 : Int), .int .u64 (l2 : Int)] 80)).alloc (.cells #[.bool false, .int .u64 0, .int .u64 0] 80))
  have VX : Hid (Blk (((w.alloc (.cells #[.bool true, .int .u64 (h1 : Int), .int .u64 (l1 : Int)] 80)).alloc (.cells #[.bool true, .int .u64 (h2 : Int), .int .u64 (l2 : Int)] 80)).alloc (.cells #[.bool false, .int .u64 0, .int .u64 0] 80)) (w.heap.size + 1) 80 #[.bool true, .int .u64 (h2 : Int), .int .u64 (l2 : Int)]) := Lib.hid (by have h9 := (Blk.new (w.alloc (.cells #[.bool true, .int .u64 (h1 : Int), .int .u64 (l1 : Int)] 80)) 80 #[.bool true, .int .u64 (h2 : Int), .int .u64 (l2 : Int)]).alloc (.cells #[.bool false, .int .u64 0, .int .u64 0] 80); simpa using h9)
  have ZX : Hid (Blk (((w.alloc (.cells #[.bool true, .int .u64 (h1 : Int), .int .u64 (l1 : Int)] 80)).alloc (.cells #[.bool true, .int .u64 (h2 : Int), .int .u64 (l2 : Int)] 80)).alloc (.cells #[.bool false, .int .u64 0, .int .u64 0] 80)) (w.heap.size + 1 + 1) 80 #[.bool false, .int .u64 0, .int .u64 0]) := Lib.hid (by have h9 := Blk.new ((w.alloc (.cells #[.bool true, .int .u64 (h1 : Int), .int .u64 (l1 : Int)] 80)).alloc (.cells #[.bool true, .int .u64 (h2 : Int), .int .u64 (l2 : Int)] 80)) 80 #[.bool false, .int .u64 0, .int .u64 0]; simpa using h9)
  go_enter Try.func47, Try.ntmps47
  go_upto_region 1 with fail
  obtain ⟨W0, hW0⟩ : ∃ W0, (((w.alloc (.cells #[.bool true, .int .u64 (h1 : Int), .int .u64 (l1 : Int)] 80)).alloc (.cells #[.bool true, .int .u64 (h2 : Int), .int .u64 (l2 : Int)] 80)).alloc (.cells #[.bool false, .int .u64 0, .int .u64 0] 80)) = W0 := ⟨_, rfl⟩
  rw [hW0] at HBW KX VX ZX ⊢
  clear hW0
  have k0 : W0.cell? ⟨w.heap.size, 0, none⟩ = some (.bool true) := KX.out.cell rfl
  have k1 : W0.cell? ⟨w.heap.size, 1, none⟩ = some (.int .u64 (h1 : Int)) := KX.out.cell rfl
  have k2 : W0.cell? ⟨w.heap.size, 2, none⟩ = some (.int .u64 (l1 : Int)) := KX.out.cell rfl
  have fk0 := KX.out.frozen 0
  have fk1 := KX.out.frozen 1
  have fk2 := KX.out.frozen 2
  have v0 : W0.cell? ⟨w.heap.size + 1, 0, none⟩ = some (.bool true) := VX.out.cell rfl
  have v1 : W0.cell? ⟨w.heap.size + 1, 1, none⟩ = some (.int .u64 (h2 : Int)) := VX.out.cell rfl
  have v2 : W0.cell? ⟨w.heap.size + 1, 2, none⟩ = some (.int .u64 (l2 : Int)) := VX.out.cell rfl
  have fv0 := VX.out.frozen 0
  have fv1 := VX.out.frozen 1
  have fv2 := VX.out.frozen 2
  have z0 : W0.cell? ⟨w.heap.size + 1 + 1, 0, none⟩ = some (.bool false) := ZX.out.cell rfl
  have z1 : W0.cell? ⟨w.heap.size + 1 + 1, 1, none⟩ = some (.int .u64 0) := ZX.out.cell rfl
  have z2 : W0.cell? ⟨w.heap.size + 1 + 1, 2, none⟩ = some (.int .u64 0) := ZX.out.cell rfl
  have fz0 := ZX.out.frozen 0
  have fz1 := ZX.out.frozen 1
  have fz2 := ZX.out.frozen 2
  go_wp2_with (simp only [AD.out])
  have B9 := ((ZX.out.set 0 (.bool true)).set 1 (.int .u64 (H : Int))).set 2 (.int .u64 (s : Int))
  have m0 := B9.cell (j := 0) rfl
  have m1 := B9.cell (j := 1) rfl
  have m2 := B9.cell (j := 2) rfl
  refine bodyPost_ret (v := .agg #[.bool true, .int .u64 (H : Int), .int .u64 (s : Int)]) ?_ rfl ⟨rfl, Bw.setCell (Bw.setCell (Bw.setCell HBW.out (p := ⟨w.heap.size + 1 + 1, 0, none⟩) (by simp; try omega) _) (p := ⟨w.heap.size + 1 + 1, 1, none⟩) (by simp; try omega) _) (p := ⟨w.heap.size + 1 + 1, 2, none⟩) (by simp; try omega) _⟩
  simp [results, Try.results47, go_sem, m0, m1, m2]
theorem plus_ge_false (h1 l1 h2 l2 : Nat) (w : World) (e1 : h1 < 18446744073709551616) (e2 : l1 < 18446744073709551616) (e3 : h2 < 18446744073709551616) (e4 : l2 < 18446744073709551616) (e5 : h2 + (if l1 < l2 then 1 else 0) ≤ h1) :
    Calls Try.prog 47 #[.agg #[.bool false, .int .u64 (h1 : Int), .int .u64 (l1 : Int)], .agg #[.bool true, .int .u64 (h2 : Int), .int .u64 (l2 : Int)]] w fun e w' => e = .returned (.agg #[.bool false, .int .u64 ((h1 - h2 - (if l1 < l2 then 1 else 0) : Nat) : Int), .int .u64 (((l1 + 18446744073709551616 - l2) % 18446744073709551616 : Nat) : Int)]) ∧ Bw w w' := by
  obtain ⟨s, hs⟩ : ∃ s, (l1 + 18446744073709551616 - l2) % 18446744073709551616 = s := ⟨_, rfl⟩
  obtain ⟨c, hc⟩ : ∃ c : Nat, (if l1 < l2 then 1 else 0) = c := ⟨_, rfl⟩
  have AD := Lib.hid (fun W => run_Sub64_v l1 l2 s c hs hc W)
  rw [hs, hc]
  rw [hc] at e5
  have hcl : h1 = h2 → l2 ≤ l1 := fun h => by
    by_cases h9 : l1 < l2
    · rw [if_pos h9] at hc; omega
    · omega
  clear hs hc
  obtain ⟨H, hH⟩ : ∃ H, H = h1 - h2 - c := ⟨_, rfl⟩
  rw [← hH]
  have hHz : (h1 : Int) - (h2 : Int) - (c : Int) = (H : Int) := by omega
  have hH2 : H < 18446744073709551616 := by omega
  clear hH
  by_cases heq : h1 = h2
  · subst heq
    have hll : ¬ (l1 : Int) < l2 := by have := hcl rfl; omega
    clear hcl
    obtain rfl : c = 0 := by omega
    obtain rfl : H = 0 := by omega
    clear hHz
    have HBW := Lib.hid (Bw.alloc (Bw.alloc (Bw.alloc (Bw.refl w) (.cells #[.bool false, .int .u64 (h1 : Int), .int .u64 (l1 : Int)] 80)) (.cells #[.bool true, .int .u64 (h1 : Int), .int .u64 (l2 : Int)] 80)) (.cells #[.bool false, .int .u64 0, .int .u64 0] 80))
    have KX := Lib.hid (((Blk.new w 80 #[.bool false, .int .u64 (h1 : Int), .int .u64 (l1 : Int)]).alloc (.cells #[.bool true, .int .u64 (h1 : Int), .int .u64 (l2 : Int)] 80)).alloc (.cells #[.bool false, .int .u64 0, .int .u64 0] 80))
    have VX : Hid (Blk (((w.alloc (.cells #[.bool false, .int .u64 (h1 : Int), .int .u64 (l1 : Int)] 80)).alloc (.cells #[.bool true, .int .u64 (h1 : Int), .int .u64 (l2 : Int)] 80)).alloc (.cells #[.bool false, .int .u64 0, .int .u64 0] 80)) (w.heap.size + 1) 80 #[.bool true, .int .u64 (h1 : Int), .int .u64 (l2 : Int)]) := Lib.hid (by have h9 := (Blk.new (w.alloc (.cells #[.bool false, .int .u64 (h1 : Int), .int .u64 (l1 : Int)] 80)) 80 #[.bool true, .int .u64 (h1 : Int), .int .u64 (l2 : Int)]).alloc (.cells #[.bool false, .int .u64 0, .int .u64 0] 80); simpa using h9)
    have ZX : Hid (Blk (((w.alloc (.cells #[.bool false, .int .u64 (h1 : Int), .int .u64 (l1 : Int)] 80)).alloc (.cells #[.bool true, .int .u64 (h1 : Int), .int .u64 (l2 : Int)] 80)).alloc (.cells #[.bool false, .int .u64 0, .int .u64 0] 80)) (w.heap.size + 1 + 1) 80 #[.bool false, .int .u64 0, .int .u64 0]) := Lib.hid (by have h9 := Blk.new ((w.alloc (.cells #[.bool false, .int .u64 (h1 : Int), .int .u64 (l1 : Int)] 80)).alloc (.cells #[.bool true, .int .u64 (h1 : Int), .int .u64 (l2 : Int)] 80)) 80 #[.bool false, .int .u64 0, .int .u64 0]; simpa using h9)
    go_enter Try.func47, Try.ntmps47
    go_upto_region 1 with fail
    obtain ⟨W0, hW0⟩ : ∃ W0, (((w.alloc (.cells #[.bool false, .int .u64 (h1 : Int), .int .u64 (l1 : Int)] 80)).alloc (.cells #[.bool true, .int .u64 (h1 : Int), .int .u64 (l2 : Int)] 80)).alloc (.cells #[.bool false, .int .u64 0, .int .u64 0] 80)) = W0 := ⟨_, rfl⟩
    rw [hW0] at HBW KX VX ZX ⊢
    clear hW0
    have k0 : W0.cell? ⟨w.heap.size, 0, none⟩ = some (.bool false) := KX.out.cell rfl
    have k1 : W0.cell? ⟨w.heap.size, 1, none⟩ = some (.int .u64 (h1 : Int)) := KX.out.cell rfl
    have k2 : W0.cell? ⟨w.heap.size, 2, none⟩ = some (.int .u64 (l1 : Int)) := KX.out.cell rfl
    have fk0 := KX.out.frozen 0
    have fk1 := KX.out.frozen 1
    have fk2 := KX.out.frozen 2
    have v0 : W0.cell? ⟨w.heap.size + 1, 0, none⟩ = some (.bool true) := VX.out.cell rfl
    have v1 : W0.cell? ⟨w.heap.size + 1, 1, none⟩ = some (.int .u64 (h1 : Int)) := VX.out.cell rfl
    have v2 : W0.cell? ⟨w.heap.size + 1, 2, none⟩ = some (.int .u64 (l2 : Int)) := VX.out.cell rfl
    have fv0 := VX.out.frozen 0
    have fv1 := VX.out.frozen 1
    have fv2 := VX.out.frozen 2
    have z0 : W0.cell? ⟨w.heap.size + 1 + 1, 0, none⟩ = some (.bool false) := ZX.out.cell rfl
    have z1 : W0.cell? ⟨w.heap.size + 1 + 1, 1, none⟩ = some (.int .u64 0) := ZX.out.cell rfl
    have z2 : W0.cell? ⟨w.heap.size + 1 + 1, 2, none⟩ = some (.int .u64 0) := ZX.out.cell rfl
    have fz0 := ZX.out.frozen 0
    have fz1 := ZX.out.frozen 1
    have fz2 := ZX.out.frozen 2
    go_wp2_with (simp only [AD.out])
    have B9 := ((ZX.out.set 0 (.bool false)).set 1 (.int .u64 0)).set 2 (.int .u64 (s : Int))
    have m0 := B9.cell (j := 0) rfl
    have m1 := B9.cell (j := 1) rfl
    have m2 := B9.cell (j := 2) rfl
    refine bodyPost_ret (v := .agg #[.bool false, .int .u64 0, .int .u64 (s : Int)]) ?_ rfl ⟨rfl, Bw.setCell (Bw.setCell (Bw.setCell HBW.out (p := ⟨w.heap.size + 1 + 1, 0, none⟩) (by simp; try omega) _) (p := ⟨w.heap.size + 1 + 1, 1, none⟩) (by simp; try omega) _) (p := ⟨w.heap.size + 1 + 1, 2, none⟩) (by simp; try omega) _⟩
    simp [results, Try.results47, go_sem, m0, m1, m2]
  · have hgt : ¬ (h1 : Int) < h2 := by omega
    have hne : ((h2 : Int) == (h1 : Int)) = false := by simp; omega
    clear hcl
    have HBW := Lib.hid (Bw.alloc (Bw.alloc (Bw.alloc (Bw.refl w) (.cells #[.bool false, .int .u64 (h1 : Int), .int .u64 (l1 : Int)] 80)) (.cells #[.bool true, .int .u64 (h2 : Int), .int .u64 (l2 : Int)] 80)) (.cells #[.bool false, .int .u64 0, .int .u64 0] 80))
    have KX := Lib.hid (((Blk.new w 80 #[.bool false, .int .u64 (h1 : Int), .int .u64 (l1 : Int)]).alloc (.cells #[.bool true, .int .u64 (h2 : Int), .int .u64 (l2 : Int)] 80)).alloc (.cells #[.bool false, .int .u64 0, .int .u64 0] 80))
    have VX : Hid (Blk (((w.alloc (.cells #[.bool false, .int .u64 (h1 : Int), .int .u64 (l1 : Int)] 80)).alloc (.cells #[.bool true, .int .u64 (h2 : Int), .int .u64 (l2 : Int)] 80)).alloc (.cells #[.bool false, .int .u64 0, .int .u64 0] 80)) (w.heap.size + 1) 80 #[.bool true, .int .u64 (h2 : Int), .int .u64 (l2 : Int)]) := Lib.hid (by have h9 := (Blk.new (w.alloc (.cells #[.bool false, .int .u64 (h1 : Int), .int .u64 (l1 : Int)] 80)) 80 #[.bool true, .int .u64 (h2 : Int), .int .u64 (l2 : Int)]).alloc (.cells #[.bool false, .int .u64 0, .int .u64 0] 80); simpa using h9)
    have ZX : Hid (Blk (((w.alloc (.cells #[.bool false, .int .u64 (h1 : Int), .int .u64 (l1 : Int)] 80)).alloc (.cells #[.bool true, .int .u64 (h2 : Int), .int .u64 (l2 : Int)] 80)).alloc (.cells #[.bool false, .int .u64 0, .int .u64 0] 80)) (w.heap.size + 1 + 1) 80 #[.bool false, .int .u64 0, .int .u64 0]) := Lib.hid (by have h9 := Blk.new ((w.alloc (.cells #[.bool false, .int .u64 (h1 : Int), .int .u64 (l1 : Int)] 80)).alloc (.cells #[.bool true, .int .u64 (h2 : Int), .int .u64 (l2 : Int)] 80)) 80 #[.bool false, .int .u64 0, .int .u64 0]; simpa using h9)
    go_enter Try.func47, Try.ntmps47
    go_upto_region 1 with fail
    obtain ⟨W0, hW0⟩ : ∃ W0, (((w.alloc (.cells #[.bool false, .int .u64 (h1 : Int), .int .u64 (l1 : Int)] 80)).alloc (.cells #[.bool true, .int .u64 (h2 : Int), .int .u64 (l2 : Int)] 80)).alloc (.cells #[.bool false, .int .u64 0, .int .u64 0] 80)) = W0 := ⟨_, rfl⟩
    rw [hW0] at HBW KX VX ZX ⊢
    clear hW0
    have k0 : W0.cell? ⟨w.heap.size, 0, none⟩ = some (.bool false) := KX.out.cell rfl
    have k1 : W0.cell? ⟨w.heap.size, 1, none⟩ = some (.int .u64 (h1 : Int)) := KX.out.cell rfl
    have k2 : W0.cell? ⟨w.heap.size, 2, none⟩ = some (.int .u64 (l1 : Int)) := KX.out.cell rfl
    have fk0 := KX.out.frozen 0
    have fk1 := KX.out.frozen 1
    have fk2 := KX.out.frozen 2
    have v0 : W0.cell? ⟨w.heap.size + 1, 0, none⟩ = some (.bool true) := VX.out.cell rfl
    have v1 : W0.cell? ⟨w.heap.size + 1, 1, none⟩ = some (.int .u64 (h2 : Int)) := VX.out.cell rfl
    have v2 : W0.cell? ⟨w.heap.size + 1, 2, none⟩ = some (.int .u64 (l2 : Int)) := VX.out.cell rfl
    have fv0 := VX.out.frozen 0
    have fv1 := VX.out.frozen 1
    have fv2 := VX.out.frozen 2
    have z0 : W0.cell? ⟨w.heap.size + 1 + 1, 0, none⟩ = some (.bool false) := ZX.out.cell rfl
    have z1 : W0.cell? ⟨w.heap.size + 1 + 1, 1, none⟩ = some (.int .u64 0) := ZX.out.cell rfl
    have z2 : W0.cell? ⟨w.heap.size + 1 + 1, 2, none⟩ = some (.int .u64 0) := ZX.out.cell rfl
    have fz0 := ZX.out.frozen 0
    have fz1 := ZX.out.frozen 1
    have fz2 := ZX.out.frozen 2
    go_wp2_with (simp only [AD.out])
    have B9 := ((ZX.out.set 0 (.bool false)).set 1 (.int .u64 (H : Int))).set 2 (.int .u64 (s : Int))
    have m0 := B9.cell (j := 0) rfl
    have m1 := B9.cell (j := 1) rfl
    have m2 := B9.cell (j := 2) rfl
    refine bodyPost_ret (v := .agg #[.bool false, .int .u64 (H : Int), .int .u64 (s : Int)]) ?_ rfl ⟨rfl, Bw.setCell (Bw.setCell (Bw.setCell HBW.out (p := ⟨w.heap.size + 1 + 1, 0, none⟩) (by simp; try omega) _) (p := ⟨w.heap.size + 1 + 1, 1, none⟩) (by simp; try omega) _) (p := ⟨w.heap.size + 1 + 1, 2, none⟩) (by simp; try omega) _⟩
    simp [results, Try.results47, go_sem, m0, m1, m2]
theorem plus_ge_true (h1 l1 h2 l2 : Nat) (w : World) (e1 : h1 < 18446744073709551616) (e2 : l1 < 18446744073709551616) (e3 : h2 < 18446744073709551616) (e4 : l2 < 18446744073709551616) (e5 : h2 + (if l1 < l2 then 1 else 0) ≤ h1) :
    Calls Try.prog 47 #[.agg #[.bool true, .int .u64 (h1 : Int), .int .u64 (l1 : Int)], .agg #[.bool false, .int .u64 (h2 : Int), .int .u64 (l2 : Int)]] w fun e w' => e = .returned (.agg #[.bool true, .int .u64 ((h1 - h2 - (if l1 < l2 then 1 else 0) : Nat) : Int), .int .u64 (((l1 + 18446744073709551616 - l2) % 18446744073709551616 : Nat) : Int)]) ∧ Bw w w' := by
  obtain ⟨s, hs⟩ : ∃ s, (l1 + 18446744073709551616 - l2) % 18446744073709551616 = s := ⟨_, rfl⟩
  obtain ⟨c, hc⟩ : ∃ c : Nat, (if l1 < l2 then 1 else 0) = c := ⟨_, rfl⟩
  have AD := Lib.hid (fun W => run_Sub64_v l1 l2 s c hs hc W)
  rw [hs, hc]
  rw [hc] at e5
  have hcl : h1 = h2 → l2 ≤ l1 := fun h => by
    by_cases h9 : l1 < l2
    · rw [if_pos h9] at hc; omega
    · omega
  clear hs hc
  obtain ⟨H, hH⟩ : ∃ H, H = h1 - h2 - c := ⟨_, rfl⟩
  rw [← hH]
  have hHz : (h1 : Int) - (h2 : Int) - (c : Int) = (H : Int) := by omega
  have hH2 : H < 18446744073709551616 := by omega
  clear hH
  by_cases heq : h1 = h2
  · subst heq
    have hll : ¬ (l1 : Int) < l2 := by have := hcl rfl; omega
    clear hcl
    obtain rfl : c = 0 := by omega
    obtain rfl : H = 0 := by omega
    clear hHz
    have HBW := Lib.hid (Bw.alloc (Bw.alloc (Bw.alloc (Bw.refl w) (.cells #[.bool true, .int .u64 (h1 : Int), .int .u64 (l1 : Int)] 80)) (.cells #[.bool false, .int .u64 (h1 : Int), .int .u64 (l2 : Int)] 80)) (.cells #[.bool false, .int .u64 0, .int .u64 0] 80))
    have KX := Lib.hid (((Blk.new w 80 #[.bool true, .int .u64 (h1 : Int), .int .u64 (l1 : Int)]).alloc (.cells #[.bool false, .int .u64 (h1 : Int), .int .u64 (l2 : Int)] 80)).alloc (.cells #[.bool false, .int .u64 0, .int .u64 0] 80))
    have VX : Hid (Blk (((w.alloc (.cells #[.bool true, .int .u64 (h1 : Int), .int .u64 (l1 : Int)] 80)).alloc (.cells #[.bool false, .int .u64 (h1 : Int), .int .u64 (l2 : Int)] 80)).alloc (.cells #[.bool false, .int .u64 0, .int .u64 0] 80)) (w.heap.size + 1) 80 #[.bool false, .int .u64 (h1 : Int), .int .u64 (l2 : Int)]) := Lib.hid (by have h9 := (Blk.new (w.alloc (.cells #[.bool true, .int .u64 (h1 : Int), .int .u64 (l1 : Int)] 80)) 80 #[.bool false, .int .u64 (h1 : Int), .int .u64 (l2 : Int)]).alloc (.cells #[.bool false, .int .u64 0, .int .u64 0] 80); simpa using h9)
    have ZX : Hid (Blk (((w.alloc (.cells #[.bool true, .int .u64 (h1 : Int), .int .u64 (l1 : Int)] 80)).alloc (.cells #[.bool false, .int .u64 (h1 : Int), .int .u64 (l2 : Int)] 80)).alloc (.cells #[.bool false, .int .u64 0, .int .u64 0] 80)) (w.heap.size + 1 + 1) 80 #[.bool false, .int .u64 0, .int .u64 0]) := Lib.hid (by have h9 := Blk.new ((w.alloc (.cells #[.bool true, .int .u64 (h1 : Int), .int .u64 (l1 : Int)] 80)).alloc (.cells #[.bool false, .int .u64 (h1 : Int), .int .u64 (l2 : Int)] 80)) 80 #[.bool false, .int .u64 0, .int .u64 0]; simpa using h9)
    go_enter Try.func47, Try.ntmps47
    go_upto_region 1 with fail
    obtain ⟨W0, hW0⟩ : ∃ W0, (((w.alloc (.cells #[.bool true, .int .u64 (h1 : Int), .int .u64 (l1 : Int)] 80)).alloc (.cells #[.bool false, .int .u64 (h1 : Int), .int .u64 (l2 : Int)] 80)).alloc (.cells #[.bool false, .int .u64 0, .int .u64 0] 80)) = W0 := ⟨_, rfl⟩
    rw [hW0] at HBW KX VX ZX ⊢
    clear hW0
    have k0 : W0.cell? ⟨w.heap.size, 0, none⟩ = some (.bool true) := KX.out.cell rfl
    have k1 : W0.cell? ⟨w.heap.size, 1, none⟩ = some (.int .u64 (h1 : Int)) := KX.out.cell rfl
    have k2 : W0.cell? ⟨w.heap.size, 2, none⟩ = some (.int .u64 (l1 : Int)) := KX.out.cell rfl
    have fk0 := KX.out.frozen 0
    have fk1 := KX.out.frozen 1
    have fk2 := KX.out.frozen 2
    have v0 : W0.cell? ⟨w.heap.size + 1, 0, none⟩ = some (.bool false) := VX.out.cell rfl
    have v1 : W0.cell? ⟨w.heap.size + 1, 1, none⟩ = some (.int .u64 (h1 : Int)) := VX.out.cell rfl
    have v2 : W0.cell? ⟨w.heap.size + 1, 2, none⟩ = some (.int .u64 (l2 : Int)) := VX.out.cell rfl
    have fv0 := VX.out.frozen 0
    have fv1 := VX.out.frozen 1
    have fv2 := VX.out.frozen 2
    have z0 : W0.cell? ⟨w.heap.size + 1 + 1, 0, none⟩ = some (.bool false) := ZX.out.cell rfl
    have z1 : W0.cell? ⟨w.heap.size + 1 + 1, 1, none⟩ = some (.int .u64 0) := ZX.out.cell rfl
    have z2 : W0.cell? ⟨w.heap.size + 1 + 1, 2, none⟩ = some (.int .u64 0) := ZX.out.cell rfl
    have fz0 := ZX.out.frozen 0
    have fz1 := ZX.out.frozen 1
    have fz2 := ZX.out.frozen 2
    go_wp2_with (simp only [AD.out])
    have B9 := ((ZX.out.set 0 (.bool true)).set 1 (.int .u64 0)).set 2 (.int .u64 (s : Int))
    have m0 := B9.cell (j := 0) rfl
    have m1 := B9.cell (j := 1) rfl
    have m2 := B9.cell (j := 2) rfl
    refine bodyPost_ret (v := .agg #[.bool true, .int .u64 0, .int .u64 (s : Int)]) ?_ rfl ⟨rfl, Bw.setCell (Bw.setCell (Bw.setCell HBW.out (p := ⟨w.heap.size + 1 + 1, 0, none⟩) (by simp; try omega) _) (p := ⟨w.heap.size + 1 + 1, 1, none⟩) (by simp; try omega) _) (p := ⟨w.heap.size + 1 + 1, 2, none⟩) (by simp; try omega) _⟩
    simp [results, Try.results47, go_sem, m0, m1, m2]
  · have hgt : ¬ (h1 : Int) < h2 := by omega
    have hne : ((h2 : Int) == (h1 : Int)) = false := by simp; omega
    clear hcl
    have HBW := Lib.hid (Bw.alloc (Bw.alloc (Bw.alloc (Bw.refl w) (.cells #[.bool true, .int .u64 (h1 : Int), .int .u64 (l1 : Int)] 80)) (.cells #[.bool false, .int .u64 (h2 : Int), .int .u64 (l2 : Int)] 80)) (.cells #[.bool false, .int .u64 0, .int .u64 0] 80))
    have KX := Lib.hid (((Blk.new w 80 #[.bool true, .int .u64 (h1 : Int), .int .u64 (l1 : Int)]).alloc (.cells #[.bool false, .int .u64 (h2 : Int), .int .u64 (l2 : Int)] 80)).alloc (.cells #[.bool false, .int .u64 0, .int .u64 0] 80))
    have VX : Hid (Blk (((w.alloc (.cells #[.bool true, .int .u64 (h1 : Int), .int .u64 (l1 : Int)] 80)).alloc (.cells #[.bool false, .int .u64 (h2 : Int), .int .u64 (l2 : Int)] 80)).alloc (.cells #[.bool false, .int .u64 0, .int .u64 0] 80)) (w.heap.size + 1) 80 #[.bool false, .int .u64 (h2 : Int), .int .u64 (l2 : Int)]) := Lib.hid (by have h9 := (Blk.new (w.alloc (.cells #[.bool true, .int .u64 (h1 : Int), .int .u64 (l1 : Int)] 80)) 80 #[.bool false, .int .u64 (h2 : Int), .int .u64 (l2 : Int)]).alloc (.cells #[.bool false, .int .u64 0, .int .u64 0] 80); simpa using h9)
    have ZX : Hid (Blk (((w.alloc (.cells #[.bool true, .int .u64 (h1 : Int), .int .u64 (l1 : Int)] 80)).alloc (.cells #[.bool false, .int .u64 (h2 : Int), .int .u64 (l2 : Int)] 80)).alloc (.cells #[.bool false, .int .u64 0, .int .u64 0] 80)) (w.heap.size + 1 + 1) 80 #[.bool false, .int .u64 0, .int .u64 0]) := Lib.hid (by have h9 := Blk.new ((w.alloc (.cells #[.bool true, .int .u64 (h1 : Int), .int .u64 (l1 : Int)] 80)).alloc (.cells #[.bool false, .int .u64 (h2 : Int), .int .u64 (l2 : Int)] 80)) 80 #[.bool false, .int .u64 0, .int .u64 0]; simpa using h9)
    go_enter Try.func47, Try.ntmps47
    go_upto_region 1 with fail
    obtain ⟨W0, hW0⟩ : ∃ W0, (((w.alloc (.cells #[.bool true, .int .u64 (h1 : Int), .int .u64 (l1 : Int)] 80)).alloc (.cells #[.bool false, .int .u64 (h2 : Int), .int .u64 (l2 : Int)] 80)).alloc (.cells #[.bool false, .int .u64 0, .int .u64 0] 80)) = W0 := ⟨_, rfl⟩
    rw [hW0] at HBW KX VX ZX ⊢
    clear hW0
    have k0 : W0.cell? ⟨w.heap.size, 0, none⟩ = some (.bool true) := KX.out.cell rfl
    have k1 : W0.cell? ⟨w.heap.size, 1, none⟩ = some (.int .u64 (h1 : Int)) := KX.out.cell rfl
    have k2 : W0.cell? ⟨w.heap.size, 2, none⟩ = some (.int .u64 (l1 : Int)) := KX.out.cell rfl
    have fk0 := KX.out.frozen 0
    have fk1 := KX.out.frozen 1
    have fk2 := KX.out.frozen 2
    have v0 : W0.cell? ⟨w.heap.size + 1, 0, none⟩ = some (.bool false) := VX.out.cell rfl
    have v1 : W0.cell? ⟨w.heap.size + 1, 1, none⟩ = some (.int .u64 (h2 : Int)) := VX.out.cell rfl
    have v2 : W0.cell? ⟨w.heap.size + 1, 2, none⟩ = some (.int .u64 (l2 : Int)) := VX.out.cell rfl
    have fv0 := VX.out.frozen 0
    have fv1 := VX.out.frozen 1
    have fv2 := VX.out.frozen 2
    have z0 : W0.cell? ⟨w.heap.size + 1 + 1, 0, none⟩ = some (.bool false) := ZX.out.cell rfl
    have z1 : W0.cell? ⟨w.heap.size + 1 + 1, 1, none⟩ = some (.int .u64 0) := ZX.out.cell rfl
    have z2 : W0.cell? ⟨w.heap.size + 1 + 1, 2, none⟩ = some (.int .u64 0) := ZX.out.cell rfl
    have fz0 := ZX.out.frozen 0
    have fz1 := ZX.out.frozen 1
    have fz2 := ZX.out.frozen 2
    go_wp2_with (simp only [AD.out])
    have B9 := ((ZX.out.set 0 (.bool true)).set 1 (.int .u64 (H : Int))).set 2 (.int .u64 (s : Int))
    have m0 := B9.cell (j := 0) rfl
    have m1 := B9.cell (j := 1) rfl
    have m2 := B9.cell (j := 2) rfl
    refine bodyPost_ret (v := .agg #[.bool true, .int .u64 (H : Int), .int .u64 (s : Int)]) ?_ rfl ⟨rfl, Bw.setCell (Bw.setCell (Bw.setCell HBW.out (p := ⟨w.heap.size + 1 + 1, 0, none⟩) (by simp; try omega) _) (p := ⟨w.heap.size + 1 + 1, 1, none⟩) (by simp; try omega) _) (p := ⟨w.heap.size + 1 + 1, 2, none⟩) (by simp; try omega) _⟩
    simp [results, Try.results47, go_sem, m0, m1, m2]
theorem plus_lt_false (h1 l1 h2 l2 : Nat) (w : World) (e1 : h1 < 18446744073709551616) (e2 : l1 < 18446744073709551616) (e3 : h2 < 18446744073709551616) (e4 : l2 < 18446744073709551616) (e5 : h1 + (if l2 < l1 then 1 else 0) ≤ h2) (e6 : h1 = h2 → l1 < l2) :
    Calls Try.prog 47 #[.agg #[.bool false, .int .u64 (h1 : Int), .int .u64 (l1 : Int)], .agg #[.bool true, .int .u64 (h2 : Int), .int .u64 (l2 : Int)]] w fun e w' => e = .returned (.agg #[.bool true, .int .u64 ((h2 - h1 - (if l2 < l1 then 1 else 0) : Nat) : Int), .int .u64 (((l2 + 18446744073709551616 - l1) % 18446744073709551616 : Nat) : Int)]) ∧ Bw w w' := by
  obtain ⟨s, hs⟩ : ∃ s, (l2 + 18446744073709551616 - l1) % 18446744073709551616 = s := ⟨_, rfl⟩
  obtain ⟨c, hc⟩ : ∃ c : Nat, (if l2 < l1 then 1 else 0) = c := ⟨_, rfl⟩
  have AD := Lib.hid (fun W => run_Sub64_v l2 l1 s c hs hc W)
  rw [hs, hc]
  rw [hc] at e5
  clear hs hc
  obtain ⟨H, hH⟩ : ∃ H, H = h2 - h1 - c := ⟨_, rfl⟩
  rw [← hH]
  have hHz : (h2 : Int) - (h1 : Int) - (c : Int) = (H : Int) := by omega
  have hH2 : H < 18446744073709551616 := by omega
  clear hH
  by_cases heq : h1 = h2
  · subst heq
    have hll : (l1 : Int) < l2 := by have := e6 rfl; omega
    clear e6
    obtain rfl : c = 0 := by omega
    obtain rfl : H = 0 := by omega
    clear hHz
    have HBW := Lib.hid (Bw.alloc (Bw.alloc (Bw.alloc (Bw.refl w) (.cells #[.bool false, .int .u64 (h1 : Int), .int .u64 (l1 : Int)] 80)) (.cells #[.bool true, .int .u64 (h1 : Int), .int .u64 (l2 : Int)] 80)) (.cells #[.bool false, .int .u64 0, .int .u64 0] 80))
    have KX := Lib.hid (((Blk.new w 80 #[.bool false, .int .u64 (h1 : Int), .int .u64 (l1 : Int)]).alloc (.cells #[.bool true, .int .u64 (h1 : Int), .int .u64 (l2 : Int)] 80)).alloc (.cells #[.bool false, .int .u64 0, .int .u64 0] 80))
    have VX : Hid (Blk (((w.alloc (.cells #[.bool false, .int .u64 (h1 : Int), .int .u64 (l1 : Int)] 80)).alloc (.cells #[.bool true, .int .u64 (h1 : Int), .int .u64 (l2 : Int)] 80)).alloc (.cells #[.bool false, .int .u64 0, .int .u64 0] 80)) (w.heap.size + 1) 80 #[.bool true, .int .u64 (h1 : Int), .int .u64 (l2 : Int)]) := Lib.hid (by have h9 := (Blk.new (w.alloc (.cells #[.bool false, .int .u64 (h1 : Int), .int .u64 (l1 : Int)] 80)) 80 #[.bool true, .int .u64 (h1 : Int), .int .u64 (l2 : Int)]).alloc (.cells #[.bool false, .int .u64 0, .int .u64 0] 80); simpa using h9)
    have ZX : Hid (Blk (((w.alloc (.cells #[.bool false, .int .u64 (h1 : Int), .int .u64 (l1 : Int)] 80)).alloc (.cells #[.bool true, .int .u64 (h1 : Int), .int .u64 (l2 : Int)] 80)).alloc (.cells #[.bool false, .int .u64 0, .int .u64 0] 80)) (w.heap.size + 1 + 1) 80 #[.bool false, .int .u64 0, .int .u64 0]) := Lib.hid (by have h9 := Blk.new ((w.alloc (.cells #[.bool false, .int .u64 (h1 : Int), .int .u64 (l1 : Int)] 80)).alloc (.cells #[.bool true, .int .u64 (h1 : Int), .int .u64 (l2 : Int)] 80)) 80 #[.bool false, .int .u64 0, .int .u64 0]; simpa using h9)
    go_enter Try.func47, Try.ntmps47
    go_upto_region 1 with fail
    obtain ⟨W0, hW0⟩ : ∃ W0, (((w.alloc (.cells #[.bool false, .int .u64 (h1 : Int), .int .u64 (l1 : Int)] 80)).alloc (.cells #[.bool true, .int .u64 (h1 : Int), .int .u64 (l2 : Int)] 80)).alloc (.cells #[.bool false, .int .u64 0, .int .u64 0] 80)) = W0 := ⟨_, rfl⟩
    rw [hW0] at HBW KX VX ZX ⊢
    clear hW0
    have k0 : W0.cell? ⟨w.heap.size, 0, none⟩ = some (.bool false) := KX.out.cell rfl
    have k1 : W0.cell? ⟨w.heap.size, 1, none⟩ = some (.int .u64 (h1 : Int)) := KX.out.cell rfl
    have k2 : W0.cell? ⟨w.heap.size, 2, none⟩ = some (.int .u64 (l1 : Int)) := KX.out.cell rfl
    have fk0 := KX.out.frozen 0
    have fk1 := KX.out.frozen 1
    have fk2 := KX.out.frozen 2
    have v0 : W0.cell? ⟨w.heap.size + 1, 0, none⟩ = some (.bool true) := VX.out.cell rfl
    have v1 : W0.cell? ⟨w.heap.size + 1, 1, none⟩ = some (.int .u64 (h1 : Int)) := VX.out.cell rfl
    have v2 : W0.cell? ⟨w.heap.size + 1, 2, none⟩ = some (.int .u64 (l2 : Int)) := VX.out.cell rfl
    have fv0 := VX.out.frozen 0
    have fv1 := VX.out.frozen 1
    have fv2 := VX.out.frozen 2
    have z0 : W0.cell? ⟨w.heap.size + 1 + 1, 0, none⟩ = some (.bool false) := ZX.out.cell rfl
    have z1 : W0.cell? ⟨w.heap.size + 1 + 1, 1, none⟩ = some (.int .u64 0) := ZX.out.cell rfl
    have z2 : W0.cell? ⟨w.heap.size + 1 + 1, 2, none⟩ = some (.int .u64 0) := ZX.out.cell rfl
    have fz0 := ZX.out.frozen 0
    have fz1 := ZX.out.frozen 1
    have fz2 := ZX.out.frozen 2
    go_upto_region 6 with fail
    have KX2 : Hid (Blk ((((((W0.setCell ⟨w.heap.size, 0, none⟩ (.bool true)).setCell ⟨w.heap.size, 1, none⟩ (.int .u64 (h1 : Int))).setCell ⟨w.heap.size, 2, none⟩ (.int .u64 (l2 : Int))).setCell ⟨w.heap.size + 1, 0, none⟩ (.bool false)).setCell ⟨w.heap.size + 1, 1, none⟩ (.int .u64 (h1 : Int))).setCell ⟨w.heap.size + 1, 2, none⟩ (.int .u64 (l1 : Int))) (w.heap.size) 80 #[.bool true, .int .u64 (h1 : Int), .int .u64 (l2 : Int)]) := Lib.hid (by simpa using (Blk.set_other (Blk.set_other (Blk.set_other (Blk.set (Blk.set (Blk.set KX.out 0 (.bool true)) 1 (.int .u64 (h1 : Int))) 2 (.int .u64 (l2 : Int))) (show w.heap.size ≠ w.heap.size + 1 by omega) 0 (.bool false)) (show w.heap.size ≠ w.heap.size + 1 by omega) 1 (.int .u64 (h1 : Int))) (show w.heap.size ≠ w.heap.size + 1 by omega) 2 (.int .u64 (l1 : Int))))
    have VX2 : Hid (Blk ((((((W0.setCell ⟨w.heap.size, 0, none⟩ (.bool true)).setCell ⟨w.heap.size, 1, none⟩ (.int .u64 (h1 : Int))).setCell ⟨w.heap.size, 2, none⟩ (.int .u64 (l2 : Int))).setCell ⟨w.heap.size + 1, 0, none⟩ (.bool false)).setCell ⟨w.heap.size + 1, 1, none⟩ (.int .u64 (h1 : Int))).setCell ⟨w.heap.size + 1, 2, none⟩ (.int .u64 (l1 : Int))) (w.heap.size + 1) 80 #[.bool false, .int .u64 (h1 : Int), .int .u64 (l1 : Int)]) := Lib.hid (by simpa using (Blk.set (Blk.set (Blk.set (Blk.set_other (Blk.set_other (Blk.set_other VX.out (show w.heap.size + 1 ≠ w.heap.size by omega) 0 (.bool true)) (show w.heap.size + 1 ≠ w.heap.size by omega) 1 (.int .u64 (h1 : Int))) (show w.heap.size + 1 ≠ w.heap.size by omega) 2 (.int .u64 (l2 : Int))) 0 (.bool false)) 1 (.int .u64 (h1 : Int))) 2 (.int .u64 (l1 : Int))))
    have ZX2 : Hid (Blk ((((((W0.setCell ⟨w.heap.size, 0, none⟩ (.bool true)).setCell ⟨w.heap.size, 1, none⟩ (.int .u64 (h1 : Int))).setCell ⟨w.heap.size, 2, none⟩ (.int .u64 (l2 : Int))).setCell ⟨w.heap.size + 1, 0, none⟩ (.bool false)).setCell ⟨w.heap.size + 1, 1, none⟩ (.int .u64 (h1 : Int))).setCell ⟨w.heap.size + 1, 2, none⟩ (.int .u64 (l1 : Int))) (w.heap.size + 1 + 1) 80 #[.bool false, .int .u64 0, .int .u64 0]) := Lib.hid (by simpa using (Blk.set_other (Blk.set_other (Blk.set_other (Blk.set_other (Blk.set_other (Blk.set_other ZX.out (show w.heap.size + 1 + 1 ≠ w.heap.size by omega) 0 (.bool true)) (show w.heap.size + 1 + 1 ≠ w.heap.size by omega) 1 (.int .u64 (h1 : Int))) (show w.heap.size + 1 + 1 ≠ w.heap.size by omega) 2 (.int .u64 (l2 : Int))) (show w.heap.size + 1 + 1 ≠ w.heap.size + 1 by omega) 0 (.bool false)) (show w.heap.size + 1 + 1 ≠ w.heap.size + 1 by omega) 1 (.int .u64 (h1 : Int))) (show w.heap.size + 1 + 1 ≠ w.heap.size + 1 by omega) 2 (.int .u64 (l1 : Int))))
    have HBW2 := Lib.hid (Bw.setCell (Bw.setCell (Bw.setCell (Bw.setCell (Bw.setCell (Bw.setCell HBW.out (p := ⟨w.heap.size, 0, none⟩) (by simp; try omega) (.bool true)) (p := ⟨w.heap.size, 1, none⟩) (by simp; try omega) (.int .u64 (h1 : Int))) (p := ⟨w.heap.size, 2, none⟩) (by simp; try omega) (.int .u64 (l2 : Int))) (p := ⟨w.heap.size + 1, 0, none⟩) (by simp; try omega) (.bool false)) (p := ⟨w.heap.size + 1, 1, none⟩) (by simp; try omega) (.int .u64 (h1 : Int))) (p := ⟨w.heap.size + 1, 2, none⟩) (by simp; try omega) (.int .u64 (l1 : Int)))
    clear k0 fk0 k1 fk1 k2 fk2 v0 fv0 v1 fv1 v2 fv2 z0 fz0 z1 fz1 z2 fz2 KX VX ZX HBW
    generalize ((((((W0.setCell ⟨w.heap.size, 0, none⟩ (.bool true)).setCell ⟨w.heap.size, 1, none⟩ (.int .u64 (h1 : Int))).setCell ⟨w.heap.size, 2, none⟩ (.int .u64 (l2 : Int))).setCell ⟨w.heap.size + 1, 0, none⟩ (.bool false)).setCell ⟨w.heap.size + 1, 1, none⟩ (.int .u64 (h1 : Int))).setCell ⟨w.heap.size + 1, 2, none⟩ (.int .u64 (l1 : Int))) = W1 at KX2 VX2 ZX2 HBW2 ⊢
    have KX := KX2
    have VX := VX2
    have ZX := ZX2
    have HBW := HBW2
    clear KX2 VX2 ZX2 HBW2
    have k0 : W1.cell? ⟨w.heap.size, 0, none⟩ = some (.bool true) := KX.out.cell rfl
    have k1 : W1.cell? ⟨w.heap.size, 1, none⟩ = some (.int .u64 (h1 : Int)) := KX.out.cell rfl
    have k2 : W1.cell? ⟨w.heap.size, 2, none⟩ = some (.int .u64 (l2 : Int)) := KX.out.cell rfl
    have fk0 := KX.out.frozen 0
    have fk1 := KX.out.frozen 1
    have fk2 := KX.out.frozen 2
    have v0 : W1.cell? ⟨w.heap.size + 1, 0, none⟩ = some (.bool false) := VX.out.cell rfl
    have v1 : W1.cell? ⟨w.heap.size + 1, 1, none⟩ = some (.int .u64 (h1 : Int)) := VX.out.cell rfl
    have v2 : W1.cell? ⟨w.heap.size + 1, 2, none⟩ = some (.int .u64 (l1 : Int)) := VX.out.cell rfl
    have fv0 := VX.out.frozen 0
    have fv1 := VX.out.frozen 1
    have fv2 := VX.out.frozen 2
    have z0 : W1.cell? ⟨w.heap.size + 1 + 1, 0, none⟩ = some (.bool false) := ZX.out.cell rfl
    have z1 : W1.cell? ⟨w.heap.size + 1 + 1, 1, none⟩ = some (.int .u64 0) := ZX.out.cell rfl
    have z2 : W1.cell? ⟨w.heap.size + 1 + 1, 2, none⟩ = some (.int .u64 0) := ZX.out.cell rfl
    have fz0 := ZX.out.frozen 0
    have fz1 := ZX.out.frozen 1
    have fz2 := ZX.out.frozen 2
    go_wp2_with (simp only [AD.out])
    have B9 := ((ZX.out.set 0 (.bool true)).set 1 (.int .u64 0)).set 2 (.int .u64 (s : Int))
    have m0 := B9.cell (j := 0) rfl
    have m1 := B9.cell (j := 1) rfl
    have m2 := B9.cell (j := 2) rfl
    refine bodyPost_ret (v := .agg #[.bool true, .int .u64 0, .int .u64 (s : Int)]) ?_ rfl ⟨rfl, Bw.setCell (Bw.setCell (Bw.setCell HBW.out (p := ⟨w.heap.size + 1 + 1, 0, none⟩) (by simp; try omega) _) (p := ⟨w.heap.size + 1 + 1, 1, none⟩) (by simp; try omega) _) (p := ⟨w.heap.size + 1 + 1, 2, none⟩) (by simp; try omega) _⟩
    simp [results, Try.results47, go_sem, m0, m1, m2]
  · have hgt : (h1 : Int) < h2 := by omega
    clear e6
    have HBW := Lib.hid (Bw.alloc (Bw.alloc (Bw.alloc (Bw.refl w) (.cells #[.bool false, .int .u64 (h1 : Int), .int .u64 (l1 : Int)] 80)) (.cells #[.bool true, .int .u64 (h2 : Int), .int .u64 (l2 : Int)] 80)) (.cells #[.bool false, .int .u64 0, .int .u64 0] 80))
    have KX := Lib.hid (((Blk.new w 80 #[.bool false, .int .u64 (h1 : Int), .int .u64 (l1 : Int)]).alloc (.cells #[.bool true, .int .u64 (h2 : Int), .int .u64 (l2 : Int)] 80)).alloc (.cells #[.bool false, .int .u64 0, .int .u64 0] 80))
    have VX : Hid (Blk (((w.alloc (.cells #[.bool false, .int .u64 (h1 : Int), .int .u64 (l1 : Int)] 80)).alloc (.cells #[.bool true, .int .u64 (h2 : Int), .int .u64 (l2 : Int)] 80)).alloc (.cells #[.bool false, .int .u64 0, .int .u64 0] 80)) (w.heap.size + 1) 80 #[.bool true, .int .u64 (h2 : Int), .int .u64 (l2 : Int)]) := Lib.hid (by have h9 := (Blk.new (w.alloc (.cells #[.bool false, .int .u64 (h1 : Int), .int .u64 (l1 : Int)] 80)) 80 #[.bool true, .int .u64 (h2 : Int), .int .u64 (l2 : Int)]).alloc (.cells #[.bool false, .int .u64 0, .int .u64 0] 80); simpa using h9)
    have ZX : Hid (Blk (((w.alloc (.cells #[.bool false, .int .u64 (h1 : Int), .int .u64 (l1 : Int)] 80)).alloc (.cells #[.bool true, .int .u64 (h2 : Int), .int .u64 (l2 : Int)] 80)).alloc (.cells #[.bool false, .int .u64 0, .int .u64 0] 80)) (w.heap.size + 1 + 1) 80 #[.bool false, .int .u64 0, .int .u64 0]) := Lib.hid (by have h9 := Blk.new ((w.alloc (.cells #[.bool false, .int .u64 (h1 : Int), .int .u64 (l1 : Int)] 80)).alloc (.cells #[.bool true, .int .u64 (h2 : Int), .int .u64 (l2 : Int)] 80)) 80 #[.bool false, .int .u64 0, .int .u64 0]; simpa using h9)
    go_enter Try.func47, Try.ntmps47
    go_upto_region 1 with fail
    obtain ⟨W0, hW0⟩ : ∃ W0, (((w.alloc (.cells #[.bool false, .int .u64 (h1 : Int), .int .u64 (l1 : Int)] 80)).alloc (.cells #[.bool true, .int .u64 (h2 : Int), .int .u64 (l2 : Int)] 80)).alloc (.cells #[.bool false, .int .u64 0, .int .u64 0] 80)) = W0 := ⟨_, rfl⟩
    rw [hW0] at HBW KX VX ZX ⊢
    clear hW0
    have k0 : W0.cell? ⟨w.heap.size, 0, none⟩ = some (.bool false) := KX.out.cell rfl
    have k1 : W0.cell? ⟨w.heap.size, 1, none⟩ = some (.int .u64 (h1 : Int)) := KX.out.cell rfl
    have k2 : W0.cell? ⟨w.heap.size, 2, none⟩ = some (.int .u64 (l1 : Int)) := KX.out.cell rfl
    have fk0 := KX.out.frozen 0
    have fk1 := KX.out.frozen 1
    have fk2 := KX.out.frozen 2
    have v0 : W0.cell? ⟨w.heap.size + 1, 0, none⟩ = some (.bool true) := VX.out.cell rfl
    have v1 : W0.cell? ⟨w.heap.size + 1, 1, none⟩ = some (.int .u64 (h2 : Int)) := VX.out.cell rfl
    have v2 : W0.cell? ⟨w.heap.size + 1, 2, none⟩ = some (.int .u64 (l2 : Int)) := VX.out.cell rfl
    have fv0 := VX.out.frozen 0
    have fv1 := VX.out.frozen 1
    have fv2 := VX.out.frozen 2
    have z0 : W0.cell? ⟨w.heap.size + 1 + 1, 0, none⟩ = some (.bool false) := ZX.out.cell rfl
    have z1 : W0.cell? ⟨w.heap.size + 1 + 1, 1, none⟩ = some (.int .u64 0) := ZX.out.cell rfl
    have z2 : W0.cell? ⟨w.heap.size + 1 + 1, 2, none⟩ = some (.int .u64 0) := ZX.out.cell rfl
    have fz0 := ZX.out.frozen 0
    have fz1 := ZX.out.frozen 1
    have fz2 := ZX.out.frozen 2
    go_upto_region 6 with fail
    have KX2 : Hid (Blk ((((((W0.setCell ⟨w.heap.size, 0, none⟩ (.bool true)).setCell ⟨w.heap.size, 1, none⟩ (.int .u64 (h2 : Int))).setCell ⟨w.heap.size, 2, none⟩ (.int .u64 (l2 : Int))).setCell ⟨w.heap.size + 1, 0, none⟩ (.bool false)).setCell ⟨w.heap.size + 1, 1, none⟩ (.int .u64 (h1 : Int))).setCell ⟨w.heap.size + 1, 2, none⟩ (.int .u64 (l1 : Int))) (w.heap.size) 80 #[.bool true, .int .u64 (h2 : Int), .int .u64 (l2 : Int)]) := Lib.hid (by simpa using (Blk.set_other (Blk.set_other (Blk.set_other (Blk.set (Blk.set (Blk.set KX.out 0 (.bool true)) 1 (.int .u64 (h2 : Int))) 2 (.int .u64 (l2 : Int))) (show w.heap.size ≠ w.heap.size + 1 by omega) 0 (.bool false)) (show w.heap.size ≠ w.heap.size + 1 by omega) 1 (.int .u64 (h1 : Int))) (show w.heap.size ≠ w.heap.size + 1 by omega) 2 (.int .u64 (l1 : Int))))
    have VX2 : Hid (Blk ((((((W0.setCell ⟨w.heap.size, 0, none⟩ (.bool true)).setCell ⟨w.heap.size, 1, none⟩ (.int .u64 (h2 : Int))).setCell ⟨w.heap.size, 2, none⟩ (.int .u64 (l2 : Int))).setCell ⟨w.heap.size + 1, 0, none⟩ (.bool false)).setCell ⟨w.heap.size + 1, 1, none⟩ (.int .u64 (h1 : Int))).setCell ⟨w.heap.size + 1, 2, none⟩ (.int .u64 (l1 : Int))) (w.heap.size + 1) 80 #[.bool false, .int .u64 (h1 : Int), .int .u64 (l1 : Int)]) := Lib.hid (by simpa using (Blk.set (Blk.set (Blk.set (Blk.set_other (Blk.set_other (Blk.set_other VX.out (show w.heap.size + 1 ≠ w.heap.size by omega) 0 (.bool true)) (show w.heap.size + 1 ≠ w.heap.size by omega) 1 (.int .u64 (h2 : Int))) (show w.heap.size + 1 ≠ w.heap.size by omega) 2 (.int .u64 (l2 : Int))) 0 (.bool false)) 1 (.int .u64 (h1 : Int))) 2 (.int .u64 (l1 : Int))))
    have ZX2 : Hid (Blk ((((((W0.setCell ⟨w.heap.size, 0, none⟩ (.bool true)).setCell ⟨w.heap.size, 1, none⟩ (.int .u64 (h2 : Int))).setCell ⟨w.heap.size, 2, none⟩ (.int .u64 (l2 : Int))).setCell ⟨w.heap.size + 1, 0, none⟩ (.bool false)).setCell ⟨w.heap.size + 1, 1, none⟩ (.int .u64 (h1 : Int))).setCell ⟨w.heap.size + 1, 2, none⟩ (.int .u64 (l1 : Int))) (w.heap.size + 1 + 1) 80 #[.bool false, .int .u64 0, .int .u64 0]) := Lib.hid (by simpa using (Blk.set_other (Blk.set_other (Blk.set_other (Blk.set_other (Blk.set_other (Blk.set_other ZX.out (show w.heap.size + 1 + 1 ≠ w.heap.size by omega) 0 (.bool true)) (show w.heap.size + 1 + 1 ≠ w.heap.size by omega) 1 (.int .u64 (h2 : Int))) (show w.heap.size + 1 + 1 ≠ w.heap.size by omega) 2 (.int .u64 (l2 : Int))) (show w.heap.size + 1 + 1 ≠ w.heap.size + 1 by omega) 0 (.bool false)) (show w.heap.size + 1 + 1 ≠ w.heap.size + 1 by omega) 1 (.int .u64 (h1 : Int))) (show w.heap.size + 1 + 1 ≠ w.heap.size + 1 by omega) 2 (.int .u64 (l1 : Int))))
    have HBW2 := Lib.hid (Bw.setCell (Bw.setCell (Bw.setCell (Bw.setCell (Bw.setCell (Bw.setCell HBW.out (p := ⟨w.heap.size, 0, none⟩) (by simp; try omega) (.bool true)) (p := ⟨w.heap.size, 1, none⟩) (by simp; try omega) (.int .u64 (h2 : Int))) (p := ⟨w.heap.size, 2, none⟩) (by simp; try omega) (.int .u64 (l2 : Int))) (p := ⟨w.heap.size + 1, 0, none⟩) (by simp; try omega) (.bool false)) (p := ⟨w.heap.size + 1, 1, none⟩) (by simp; try omega) (.int .u64 (h1 : Int))) (p := ⟨w.heap.size + 1, 2, none⟩) (by simp; try omega) (.int .u64 (l1 : Int)))
    clear k0 fk0 k1 fk1 k2 fk2 v0 fv0 v1 fv1 v2 fv2 z0 fz0 z1 fz1 z2 fz2 KX VX ZX HBW
    generalize ((((((W0.setCell ⟨w.heap.size, 0, none⟩ (.bool true)).setCell ⟨w.heap.size, 1, none⟩ (.int .u64 (h2 : Int))).setCell ⟨w.heap.size, 2, none⟩ (.int .u64 (l2 : Int))).setCell ⟨w.heap.size + 1, 0, none⟩ (.bool false)).setCell ⟨w.heap.size + 1, 1, none⟩ (.int .u64 (h1 : Int))).setCell ⟨w.heap.size + 1, 2, none⟩ (.int .u64 (l1 : Int))) = W1 at KX2 VX2 ZX2 HBW2 ⊢
    have KX := KX2
    have VX := VX2
    have ZX := ZX2
    have HBW := HBW2
    clear KX2 VX2 ZX2 HBW2
    have k0 : W1.cell? ⟨w.heap.size, 0, none⟩ = some (.bool true) := KX.out.cell rfl
    have k1 : W1.cell? ⟨w.heap.size, 1, none⟩ = some (.int .u64 (h2 : Int)) := KX.out.cell rfl
    have k2 : W1.cell? ⟨w.heap.size, 2, none⟩ = some (.int .u64 (l2 : Int)) := KX.out.cell rfl
    have fk0 := KX.out.frozen 0
    have fk1 := KX.out.frozen 1
    have fk2 := KX.out.frozen 2
    have v0 : W1.cell? ⟨w.heap.size + 1, 0, none⟩ = some (.bool false) := VX.out.cell rfl
    have v1 : W1.cell? ⟨w.heap.size + 1, 1, none⟩ = some (.int .u64 (h1 : Int)) := VX.out.cell rfl
    have v2 : W1.cell? ⟨w.heap.size + 1, 2, none⟩ = some (.int .u64 (l1 : Int)) := VX.out.cell rfl
    have fv0 := VX.out.frozen 0
    have fv1 := VX.out.frozen 1
    have fv2 := VX.out.frozen 2
    have z0 : W1.cell? ⟨w.heap.size + 1 + 1, 0, none⟩ = some (.bool false) := ZX.out.cell rfl
    have z1 : W1.cell? ⟨w.heap.size + 1 + 1, 1, none⟩ = some (.int .u64 0) := ZX.out.cell rfl
    have z2 : W1.cell? ⟨w.heap.size + 1 + 1, 2, none⟩ = some (.int .u64 0) := ZX.out.cell rfl
    have fz0 := ZX.out.frozen 0
    have fz1 := ZX.out.frozen 1
    have fz2 := ZX.out.frozen 2
    go_wp2_with (simp only [AD.out])
    have B9 := ((ZX.out.set 0 (.bool true)).set 1 (.int .u64 (H : Int))).set 2 (.int .u64 (s : Int))
    have m0 := B9.cell (j := 0) rfl
    have m1 := B9.cell (j := 1) rfl
    have m2 := B9.cell (j := 2) rfl
    refine bodyPost_ret (v := .agg #[.bool true, .int .u64 (H : Int), .int .u64 (s : Int)]) ?_ rfl ⟨rfl, Bw.setCell (Bw.setCell (Bw.setCell HBW.out (p := ⟨w.heap.size + 1 + 1, 0, none⟩) (by simp; try omega) _) (p := ⟨w.heap.size + 1 + 1, 1, none⟩) (by simp; try omega) _) (p := ⟨w.heap.size + 1 + 1, 2, none⟩) (by simp; try omega) _⟩
    simp [results, Try.results47, go_sem, m0, m1, m2]
theorem plus_lt_true (h1 l1 h2 l2 : Nat) (w : World) (e1 : h1 < 18446744073709551616) (e2 : l1 < 18446744073709551616) (e3 : h2 < 18446744073709551616) (e4 : l2 < 18446744073709551616) (e5 : h1 + (if l2 < l1 then 1 else 0) ≤ h2) (e6 : h1 = h2 → l1 < l2) :
    Calls Try.prog 47 #[.agg #[.bool true, .int .u64 (h1 : Int), .int .u64 (l1 : Int)], .agg #[.bool false, .int .u64 (h2 : Int), .int .u64 (l2 : Int)]] w fun e w' => e = .returned (.agg #[.bool false, .int .u64 ((h2 - h1 - (if l2 < l1 then 1 else 0) : Nat) : Int), .int .u64 (((l2 + 18446744073709551616 - l1) % 18446744073709551616 : Nat) : Int)]) ∧ Bw w w' := by
  obtain ⟨s, hs⟩ : ∃ s, (l2 + 18446744073709551616 - l1) % 18446744073709551616 = s := ⟨_, rfl⟩
  obtain ⟨c, hc⟩ : ∃ c : Nat, (if l2 < l1 then 1 else 0) = c := ⟨_, rfl⟩
  have AD := Lib.hid (fun W => run_Sub64_v l2 l1 s c hs hc W)
  rw [hs, hc]
  rw [hc] at e5
  clear hs hc
  obtain ⟨H, hH⟩ : ∃ H, H = h2 - h1 - c := ⟨_, rfl⟩
  rw [← hH]
  have hHz : (h2 : Int) - (h1 : Int) - (c : Int) = (H : Int) := by omega
  have hH2 : H < 18446744073709551616 := by omega
  clear hH
  by_cases heq : h1 = h2
  · subst heq
    have hll : (l1 : Int) < l2 := by have := e6 rfl; omega
    clear e6
    obtain rfl : c = 0 := by omega
    obtain rfl : H = 0 := by omega
    clear hHz
    have HBW := Lib.hid (Bw.alloc (Bw.alloc (Bw.alloc (Bw.refl w) (.cells #[.bool true, .int .u64 (h1 : Int), .int .u64 (l1 : Int)] 80)) (.cells #[.bool false, .int .u64 (h1 : Int), .int .u64 (l2 : Int)] 80)) (.cells #[.bool false, .int .u64 0, .int .u64 0] 80))
    have KX := Lib.hid (((Blk.new w 80 #[.bool true, .int .u64 (h1 : Int), .int .u64 (l1 : Int)]).alloc (.cells #[.bool false, .int .u64 (h1 : Int), .int .u64 (l2 : Int)] 80)).alloc (.cells #[.bool false, .int .u64 0, .int .u64 0] 80))
    have VX : Hid (Blk (((w.alloc (.cells #[.bool true, .int .u64 (h1 : Int), .int .u64 (l1 : Int)] 80)).alloc (.cells #[.bool false, .int .u64 (h1 : Int), .int .u64 (l2 : Int)] 80)).alloc (.cells #[.bool false, .int .u64 0, .int .u64 0] 80)) (w.heap.size + 1) 80 #[.bool false, .int .u64 (h1 : Int), .int .u64 (l2 : Int)]) := Lib.hid (by have h9 := (Blk.new (w.alloc (.cells #[.bool true, .int .u64 (h1 : Int), .int .u64 (l1 : Int)] 80)) 80 #[.bool false, .int .u64 (h1 : Int), .int .u64 (l2 : Int)]).alloc (.cells #[.bool false, .int .u64 0, .int .u64 0] 80); simpa using h9)
    have ZX : Hid (Blk (((w.alloc (.cells #[.bool true, .int .u64 (h1 : Int), .int .u64 (l1 : Int)] 80)).alloc (.cells #[.bool false, .int .u64 (h1 : Int), .int .u64 (l2 : Int)] 80)).alloc (.cells #[.bool false, .int .u64 0, .int .u64 0] 80)) (w.heap.size + 1 + 1) 80 #[.bool false, .int .u64 0, .int .u64 0]) := Lib.hid (by have h9 := Blk.new ((w.alloc (.cells #[.bool true, .int .u64 (h1 : Int), .int .u64 (l1 : Int)] 80)).alloc (.cells #[.bool false, .int .u64 (h1 : Int), .int .u64 (l2 : Int)] 80)) 80 #[.bool false, .int .u64 0, .int .u64 0]; simpa using h9)
    go_enter Try.func47, Try.ntmps47
    go_upto_region 1 with fail
    obtain ⟨W0, hW0⟩ : ∃ W0, (((w.alloc (.cells #[.bool true, .int .u64 (h1 : Int), .int .u64 (l1 : Int)] 80)).alloc (.cells #[.bool false, .int .u64 (h1 : Int), .int .u64 (l2 : Int)] 80)).alloc (.cells #[.bool false, .int .u64 0, .int .u64 0] 80)) = W0 := ⟨_, rfl⟩
    rw [hW0] at HBW KX VX ZX ⊢
    clear hW0
    have k0 : W0.cell? ⟨w.heap.size, 0, none⟩ = some (.bool true) := KX.out.cell rfl
    have k1 : W0.cell? ⟨w.heap.size, 1, none⟩ = some (.int .u64 (h1 : Int)) := KX.out.cell rfl
    have k2 : W0.cell? ⟨w.heap.size, 2, none⟩ = some (.int .u64 (l1 : Int)) := KX.out.cell rfl
    have fk0 := KX.out.frozen 0
    have fk1 := KX.out.frozen 1
    have fk2 := KX.out.frozen 2
    have v0 : W0.cell? ⟨w.heap.size + 1, 0, none⟩ = some (.bool false) := VX.out.cell rfl
    have v1 : W0.cell? ⟨w.heap.size + 1, 1, none⟩ = some (.int .u64 (h1 : Int)) := VX.out.cell rfl
    have v2 : W0.cell? ⟨w.heap.size + 1, 2, none⟩ = some (.int .u64 (l2 : Int)) := VX.out.cell rfl
    have fv0 := VX.out.frozen 0
    have fv1 := VX.out.frozen 1
    have fv2 := VX.out.frozen 2
    have z0 : W0.cell? ⟨w.heap.size + 1 + 1, 0, none⟩ = some (.bool false) := ZX.out.cell rfl
    have z1 : W0.cell? ⟨w.heap.size + 1 + 1, 1, none⟩ = some (.int .u64 0) := ZX.out.cell rfl
    have z2 : W0.cell? ⟨w.heap.size + 1 + 1, 2, none⟩ = some (.int .u64 0) := ZX.out.cell rfl
    have fz0 := ZX.out.frozen 0
    have fz1 := ZX.out.frozen 1
    have fz2 := ZX.out.frozen 2
    go_upto_region 6 with fail
    have KX2 : Hid (Blk ((((((W0.setCell ⟨w.heap.size, 0, none⟩ (.bool false)).setCell ⟨w.heap.size, 1, none⟩ (.int .u64 (h1 : Int))).setCell ⟨w.heap.size, 2, none⟩ (.int .u64 (l2 : Int))).setCell ⟨w.heap.size + 1, 0, none⟩ (.bool true)).setCell ⟨w.heap.size + 1, 1, none⟩ (.int .u64 (h1 : Int))).setCell ⟨w.heap.size + 1, 2, none⟩ (.int .u64 (l1 : Int))) (w.heap.size) 80 #[.bool false, .int .u64 (h1 : Int), .int .u64 (l2 : Int)]) := Lib.hid (by simpa using (Blk.set_other (Blk.set_other (Blk.set_other (Blk.set (Blk.set (Blk.set KX.out 0 (.bool false)) 1 (.int .u64 (h1 : Int))) 2 (.int .u64 (l2 : Int))) (show w.heap.size ≠ w.heap.size + 1 by omega) 0 (.bool true)) (show w.heap.size ≠ w.heap.size + 1 by omega) 1 (.int .u64 (h1 : Int))) (show w.heap.size ≠ w.heap.size + 1 by omega) 2 (.int .u64 (l1 : Int))))
    have VX2 : Hid (Blk ((((((W0.setCell ⟨w.heap.size, 0, none⟩ (.bool false)).setCell ⟨w.heap.size, 1, none⟩ (.int .u64 (h1 : Int))).setCell ⟨w.heap.size, 2, none⟩ (.int .u64 (l2 : Int))).setCell ⟨w.heap.size + 1, 0, none⟩ (.bool true)).setCell ⟨w.heap.size + 1, 1, none⟩ (.int .u64 (h1 : Int))).setCell ⟨w.heap.size + 1, 2, none⟩ (.int .u64 (l1 : Int))) (w.heap.size + 1) 80 #[.bool true, .int .u64 (h1 : Int), .int .u64 (l1 : Int)]) := Lib.hid (by simpa using (Blk.set (Blk.set (Blk.set (Blk.set_other (Blk.set_other (Blk.set_other VX.out (show w.heap.size + 1 ≠ w.heap.size by omega) 0 (.bool false)) (show w.heap.size + 1 ≠ w.heap.size by omega) 1 (.int .u64 (h1 : Int))) (show w.heap.size + 1 ≠ w.heap.size by omega) 2 (.int .u64 (l2 : Int))) 0 (.bool true)) 1 (.int .u64 (h1 : Int))) 2 (.int .u64 (l1 : Int))))
    have ZX2 : Hid (Blk ((((((W0.setCell ⟨w.heap.size, 0, none⟩ (.bool false)).setCell ⟨w.heap.size, 1, none⟩ (.int .u64 (h1 : Int))).setCell ⟨w.heap.size, 2, none⟩ (.int .u64 (l2 : Int))).setCell ⟨w.heap.size + 1, 0, none⟩ (.bool true)).setCell ⟨w.heap.size + 1, 1, none⟩ (.int .u64 (h1 : Int))).setCell ⟨w.heap.size + 1, 2, none⟩ (.int .u64 (l1 : Int))) (w.heap.size + 1 + 1) 80 #[.bool false, .int .u64 0, .int .u64 0]) := Lib.hid (by simpa using (Blk.set_other (Blk.set_other (Blk.set_other (Blk.set_other (Blk.set_other (Blk.set_other ZX.out (show w.heap.size + 1 + 1 ≠ w.heap.size by omega) 0 (.bool false)) (show w.heap.size + 1 + 1 ≠ w.heap.size by omega) 1 (.int .u64 (h1 : Int))) (show w.heap.size + 1 + 1 ≠ w.heap.size by omega) 2 (.int .u64 (l2 : Int))) (show w.heap.size + 1 + 1 ≠ w.heap.size + 1 by omega) 0 (.bool true)) (show w.heap.size + 1 + 1 ≠ w.heap.size + 1 by omega) 1 (.int .u64 (h1 : Int))) (show w.heap.size + 1 + 1 ≠ w.heap.size + 1 by omega) 2 (.int .u64 (l1 : Int))))
    have HBW2 := Lib.hid (Bw.setCell (Bw.setCell (Bw.setCell (Bw.setCell (Bw.setCell (Bw.setCell HBW.out (p := ⟨w.heap.size, 0, none⟩) (by simp; try omega) (.bool false)) (p := ⟨w.heap.size, 1, none⟩) (by simp; try omega) (.int .u64 (h1 : Int))) (p := ⟨w.heap.size, 2, none⟩) (by simp; try omega) (.int .u64 (l2 : Int))) (p := ⟨w.heap.size + 1, 0, none⟩) (by simp; try omega) (.bool true)) (p := ⟨w.heap.size + 1, 1, none⟩) (by simp; try omega) (.int .u64 (h1 : Int))) (p := ⟨w.heap.size + 1, 2, none⟩) (by simp; try omega) (.int .u64 (l1 : Int)))
    clear k0 fk0 k1 fk1 k2 fk2 v0 fv0 v1 fv1 v2 fv2 z0 fz0 z1 fz1 z2 fz2 KX VX ZX HBW
    generalize ((((((W0.setCell ⟨w.heap.size, 0, none⟩ (.bool false)).setCell ⟨w.heap.size, 1, none⟩ (.int .u64 (h1 : Int))).setCell ⟨w.heap.size, 2, none⟩ (.int .u64 (l2 : Int))).setCell ⟨w.heap.size + 1, 0, none⟩ (.bool true)).setCell ⟨w.heap.size + 1, 1, none⟩ (.int .u64 (h1 : Int))).setCell ⟨w.heap.size + 1, 2, none⟩ (.int .u64 (l1 : Int))) = W1 at KX2 VX2 ZX2 HBW2 ⊢
    have KX := KX2
    have VX := VX2
    have ZX := ZX2
    have HBW := HBW2
    clear KX2 VX2 ZX2 HBW2
    have k0 : W1.cell? ⟨w.heap.size, 0, none⟩ = some (.bool false) := KX.out.cell rfl
    have k1 : W1.cell? ⟨w.heap.size, 1, none⟩ = some (.int .u64 (h1 : Int)) := KX.out.cell rfl
    have k2 : W1.cell? ⟨w.heap.size, 2, none⟩ = some (.int .u64 (l2 : Int)) := KX.out.cell rfl
    have fk0 := KX.out.frozen 0
    have fk1 := KX.out.frozen 1
    have fk2 := KX.out.frozen 2
    have v0 : W1.cell? ⟨w.heap.size + 1, 0, none⟩ = some (.bool true) := VX.out.cell rfl
    have v1 : W1.cell? ⟨w.heap.size + 1, 1, none⟩ = some (.int .u64 (h1 : Int)) := VX.out.cell rfl
    have v2 : W1.cell? ⟨w.heap.size + 1, 2, none⟩ = some (.int .u64 (l1 : Int)) := VX.out.cell rfl
    have fv0 := VX.out.frozen 0
    have fv1 := VX.out.frozen 1
    have fv2 := VX.out.frozen 2
    have z0 : W1.cell? ⟨w.heap.size + 1 + 1, 0, none⟩ = some (.bool false) := ZX.out.cell rfl
    have z1 : W1.cell? ⟨w.heap.size + 1 + 1, 1, none⟩ = some (.int .u64 0) := ZX.out.cell rfl
    have z2 : W1.cell? ⟨w.heap.size + 1 + 1, 2, none⟩ = some (.int .u64 0) := ZX.out.cell rfl
    have fz0 := ZX.out.frozen 0
    have fz1 := ZX.out.frozen 1
    have fz2 := ZX.out.frozen 2
    go_wp2_with (simp only [AD.out])
    have B9 := ((ZX.out.set 0 (.bool false)).set 1 (.int .u64 0)).set 2 (.int .u64 (s : Int))
    have m0 := B9.cell (j := 0) rfl
    have m1 := B9.cell (j := 1) rfl
    have m2 := B9.cell (j := 2) rfl
    refine bodyPost_ret (v := .agg #[.bool false, .int .u64 0, .int .u64 (s : Int)]) ?_ rfl ⟨rfl, Bw.setCell (Bw.setCell (Bw.setCell HBW.out (p := ⟨w.heap.size + 1 + 1, 0, none⟩) (by simp; try omega) _) (p := ⟨w.heap.size + 1 + 1, 1, none⟩) (by simp; try omega) _) (p := ⟨w.heap.size + 1 + 1, 2, none⟩) (by simp; try omega) _⟩
    simp [results, Try.results47, go_sem, m0, m1, m2]
  · have hgt : (h1 : Int) < h2 := by omega
    clear e6
    have HBW := Lib.hid (Bw.alloc (Bw.alloc (Bw.alloc (Bw.refl w) (.cells #[.bool true, .int .u64 (h1 : Int), .int .u64 (l1 : Int)] 80)) (.cells #[.bool false, .int .u64 (h2 : Int), .int .u64 (l2 : Int)] 80)) (.cells #[.bool false, .int .u64 0, .int .u64 0] 80))
    have KX := Lib.hid (((Blk.new w 80 #[.bool true, .int .u64 (h1 : Int), .int .u64 (l1 : Int)]).alloc (.cells #[.bool false, .int .u64 (h2 : Int), .int .u64 (l2 : Int)] 80)).alloc (.cells #[.bool false, .int .u64 0, .int .u64 0] 80))
    have VX : Hid (Blk (((w.alloc (.cells #[.bool true, .int .u64 (h1 : Int), .int .u64 (l1 : Int)] 80)).alloc (.cells #[.bool false, .int .u64 (h2 : Int), .int .u64 (l2 : Int)] 80)).alloc (.cells #[.bool false, .int .u64 0, .int .u64 0] 80)) (w.heap.size + 1) 80 #[.bool false, .int .u64 (h2 : Int), .int .u64 (l2 : Int)]) := Lib.hid (by have h9 := (Blk.new (w.alloc (.cells #[.bool true, .int .u64 (h1 : Int), .int .u64 (l1 : Int)] 80)) 80 #[.bool false, .int .u64 (h2 : Int), .int .u64 (l2 : Int)]).alloc (.cells #[.bool false, .int .u64 0, .int .u64 0] 80); simpa using h9)
    have ZX : Hid (Blk (((w.alloc (.cells #[.bool true, .int .u64 (h1 : Int), .int .u64 (l1 : Int)] 80)).alloc (.cells #[.bool false, .int .u64 (h2 : Int), .int .u64 (l2 : Int)] 80)).alloc (.cells #[.bool false, .int .u64 0, .int .u64 0] 80)) (w.heap.size + 1 + 1) 80 #[.bool false, .int .u64 0, .int .u64 0]) := Lib.hid (by have h9 := Blk.new ((w.alloc (.cells #[.bool true, .int .u64 (h1 : Int), .int .u64 (l1 : Int)] 80)).alloc (.cells #[.bool false, .int .u64 (h2 : Int), .int .u64 (l2 : Int)] 80)) 80 #[.bool false, .int .u64 0, .int .u64 0]; simpa using h9)
    go_enter Try.func47, Try.ntmps47
    go_upto_region 1 with fail
    obtain ⟨W0, hW0⟩ : ∃ W0, (((w.alloc (.cells #[.bool true, .int .u64 (h1 : Int), .int .u64 (l1 : Int)] 80)).alloc (.cells #[.bool false, .int .u64 (h2 : Int), .int .u64 (l2 : Int)] 80)).alloc (.cells #[.bool false, .int .u64 0, .int .u64 0] 80)) = W0 := ⟨_, rfl⟩
    rw [hW0] at HBW KX VX ZX ⊢
    clear hW0
    have k0 : W0.cell? ⟨w.heap.size, 0, none⟩ = some (.bool true) := KX.out.cell rfl
    have k1 : W0.cell? ⟨w.heap.size, 1, none⟩ = some (.int .u64 (h1 : Int)) := KX.out.cell rfl
    have k2 : W0.cell? ⟨w.heap.size, 2, none⟩ = some (.int .u64 (l1 : Int)) := KX.out.cell rfl
    have fk0 := KX.out.frozen 0
    have fk1 := KX.out.frozen 1
    have fk2 := KX.out.frozen 2
    have v0 : W0.cell? ⟨w.heap.size + 1, 0, none⟩ = some (.bool false) := VX.out.cell rfl
    have v1 : W0.cell? ⟨w.heap.size + 1, 1, none⟩ = some (.int .u64 (h2 : Int)) := VX.out.cell rfl
    have v2 : W0.cell? ⟨w.heap.size + 1, 2, none⟩ = some (.int .u64 (l2 : Int)) := VX.out.cell rfl
    have fv0 := VX.out.frozen 0
    have fv1 := VX.out.frozen 1
    have fv2 := VX.out.frozen 2
    have z0 : W0.cell? ⟨w.heap.size + 1 + 1, 0, none⟩ = some (.bool false) := ZX.out.cell rfl
    have z1 : W0.cell? ⟨w.heap.size + 1 + 1, 1, none⟩ = some (.int .u64 0) := ZX.out.cell rfl
    have z2 : W0.cell? ⟨w.heap.size + 1 + 1, 2, none⟩ = some (.int .u64 0) := ZX.out.cell rfl
    have fz0 := ZX.out.frozen 0
    have fz1 := ZX.out.frozen 1
    have fz2 := ZX.out.frozen 2
    go_upto_region 6 with fail
    have KX2 : Hid (Blk ((((((W0.setCell ⟨w.heap.size, 0, none⟩ (.bool false)).setCell ⟨w.heap.size, 1, none⟩ (.int .u64 (h2 : Int))).setCell ⟨w.heap.size, 2, none⟩ (.int .u64 (l2 : Int))).setCell ⟨w.heap.size + 1, 0, none⟩ (.bool true)).setCell ⟨w.heap.size + 1, 1, none⟩ (.int .u64 (h1 : Int))).setCell ⟨w.heap.size + 1, 2, none⟩ (.int .u64 (l1 : Int))) (w.heap.size) 80 #[.bool false, .int .u64 (h2 : Int), .int .u64 (l2 : Int)]) := Lib.hid (by simpa using (Blk.set_other (Blk.set_other (Blk.set_other (Blk.set (Blk.set (Blk.set KX.out 0 (.bool false)) 1 (.int .u64 (h2 : Int))) 2 (.int .u64 (l2 : Int))) (show w.heap.size ≠ w.heap.size + 1 by omega) 0 (.bool true)) (show w.heap.size ≠ w.heap.size + 1 by omega) 1 (.int .u64 (h1 : Int))) (show w.heap.size ≠ w.heap.size + 1 by omega) 2 (.int .u64 (l1 : Int))))
    have VX2 : Hid (Blk ((((((W0.setCell ⟨w.heap.size, 0, none⟩ (.bool false)).setCell ⟨w.heap.size, 1, none⟩ (.int .u64 (h2 : Int))).setCell ⟨w.heap.size, 2, none⟩ (.int .u64 (l2 : Int))).setCell ⟨w.heap.size + 1, 0, none⟩ (.bool true)).setCell ⟨w.heap.size + 1, 1, none⟩ (.int .u64 (h1 : Int))).setCell ⟨w.heap.size + 1, 2, none⟩ (.int .u64 (l1 : Int))) (w.heap.size + 1) 80 #[.bool true, .int .u64 (h1 : Int), .int .u64 (l1 : Int)]) := Lib.hid (by simpa using (Blk.set (Blk.set (Blk.set (Blk.set_other (Blk.set_other (Blk.set_other VX.out (show w.heap.size + 1 ≠ w.heap.size by omega) 0 (.bool false)) (show w.heap.size + 1 ≠ w.heap.size by omega) 1 (.int .u64 (h2 : Int))) (show w.heap.size + 1 ≠ w.heap.size by omega) 2 (.int .u64 (l2 : Int))) 0 (.bool true)) 1 (.int .u64 (h1 : Int))) 2 (.int .u64 (l1 : Int))))
    have ZX2 : Hid (Blk ((((((W0.setCell ⟨w.heap.size, 0, none⟩ (.bool false)).setCell ⟨w.heap.size, 1, none⟩ (.int .u64 (h2 : Int))).setCell ⟨w.heap.size, 2, none⟩ (.int .u64 (l2 : Int))).setCell ⟨w.heap.size + 1, 0, none⟩ (.bool true)).setCell ⟨w.heap.size + 1, 1, none⟩ (.int .u64 (h1 : Int))).setCell ⟨w.heap.size + 1, 2, none⟩ (.int .u64 (l1 : Int))) (w.heap.size + 1 + 1) 80 #[.bool false, .int .u64 0, .int .u64 0]) := Lib.hid (by simpa using (Blk.set_other (Blk.set_other (Blk.set_other (Blk.set_other (Blk.set_other (Blk.set_other ZX.out (show w.heap.size + 1 + 1 ≠ w.heap.size by omega) 0 (.bool false)) (show w.heap.size + 1 + 1 ≠ w.heap.size by omega) 1 (.int .u64 (h2 : Int))) (show w.heap.size + 1 + 1 ≠ w.heap.size by omega) 2 (.int .u64 (l2 : Int))) (show w.heap.size + 1 + 1 ≠ w.heap.size + 1 by omega) 0 (.bool true)) (show w.heap.size + 1 + 1 ≠ w.heap.size + 1 by omega) 1 (.int .u64 (h1 : Int))) (show w.heap.size + 1 + 1 ≠ w.heap.size + 1 by omega) 2 (.int .u64 (l1 : Int))))
    have HBW2 := Lib.hid (Bw.setCell (Bw.setCell (Bw.setCell (Bw.setCell (Bw.setCell (Bw.setCell HBW.out (p := ⟨w.heap.size, 0, none⟩) (by simp; try omega) (.bool false)) (p := ⟨w.heap.size, 1, none⟩) (by simp; try omega) (.int .u64 (h2 : Int))) (p := ⟨w.heap.size, 2, none⟩) (by simp; try omega) (.int .u64 (l2 : Int))) (p := ⟨w.heap.size + 1, 0, none⟩) (by simp; try omega) (.bool true)) (p := ⟨w.heap.size + 1, 1, none⟩) (by simp; try omega) (.int .u64 (h1 : Int))) (p := ⟨w.heap.size + 1, 2, none⟩) (by simp; try omega) (.int .u64 (l1 : Int)))
    clear k0 fk0 k1 fk1 k2 fk2 v0 fv0 v1 fv1 v2 fv2 z0 fz0 z1 fz1 z2 fz2 KX VX ZX HBW
    generalize ((((((W0.setCell ⟨w.heap.size, 0, none⟩ (.bool false)).setCell ⟨w.heap.size, 1, none⟩ (.int .u64 (h2 : Int))).setCell ⟨w.heap.size, 2, none⟩ (.int .u64 (l2 : Int))).setCell ⟨w.heap.size + 1, 0, none⟩ (.bool true)).setCell ⟨w.heap.size + 1, 1, none⟩ (.int .u64 (h1 : Int))).setCell ⟨w.heap.size + 1, 2, none⟩ (.int .u64 (l1 : Int))) = W1 at KX2 VX2 ZX2 HBW2 ⊢
    have KX := KX2
    have VX := VX2
    have ZX := ZX2
    have HBW := HBW2
    clear KX2 VX2 ZX2 HBW2
    have k0 : W1.cell? ⟨w.heap.size, 0, none⟩ = some (.bool false) := KX.out.cell rfl
    have k1 : W1.cell? ⟨w.heap.size, 1, none⟩ = some (.int .u64 (h2 : Int)) := KX.out.cell rfl
    have k2 : W1.cell? ⟨w.heap.size, 2, none⟩ = some (.int .u64 (l2 : Int)) := KX.out.cell rfl
    have fk0 := KX.out.frozen 0
    have fk1 := KX.out.frozen 1
    have fk2 := KX.out.frozen 2
    have v0 : W1.cell? ⟨w.heap.size + 1, 0, none⟩ = some (.bool true) := VX.out.cell rfl
    have v1 : W1.cell? ⟨w.heap.size + 1, 1, none⟩ = some (.int .u64 (h1 : Int)) := VX.out.cell rfl
    have v2 : W1.cell? ⟨w.heap.size + 1, 2, none⟩ = some (.int .u64 (l1 : Int)) := VX.out.cell rfl
    have fv0 := VX.out.frozen 0
    have fv1 := VX.out.frozen 1
    have fv2 := VX.out.frozen 2
    have z0 : W1.cell? ⟨w.heap.size + 1 + 1, 0, none⟩ = some (.bool false) := ZX.out.cell rfl
    have z1 : W1.cell? ⟨w.heap.size + 1 + 1, 1, none⟩ = some (.int .u64 0) := ZX.out.cell rfl
    have z2 : W1.cell? ⟨w.heap.size + 1 + 1, 2, none⟩ = some (.int .u64 0) := ZX.out.cell rfl
    have fz0 := ZX.out.frozen 0
    have fz1 := ZX.out.frozen 1
    have fz2 := ZX.out.frozen 2
    go_wp2_with (simp only [AD.out])
    have B9 := ((ZX.out.set 0 (.bool false)).set 1 (.int .u64 (H : Int))).set 2 (.int .u64 (s : Int))
    have m0 := B9.cell (j := 0) rfl
    have m1 := B9.cell (j := 1) rfl
    have m2 := B9.cell (j := 2) rfl
    refine bodyPost_ret (v := .agg #[.bool false, .int .u64 (H : Int), .int .u64 (s : Int)]) ?_ rfl ⟨rfl, Bw.setCell (Bw.setCell (Bw.setCell HBW.out (p := ⟨w.heap.size + 1 + 1, 0, none⟩) (by simp; try omega) _) (p := ⟨w.heap.size + 1 + 1, 1, none⟩) (by simp; try omega) _) (p := ⟨w.heap.size + 1 + 1, 2, none⟩) (by simp; try omega) _⟩
    simp [results, Try.results47, go_sem, m0, m1, m2]
end Go.Proofs.Sky
