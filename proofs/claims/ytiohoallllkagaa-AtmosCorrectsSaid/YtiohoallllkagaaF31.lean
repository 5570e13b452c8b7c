/-
  lemmas for the theorems of this claim. No conditions beyond those written in the statements.
-/
import Derived.Test.YtiohoallllkagaaC31
import Derived.Deep.LoopGhost
import Derived.Deep.CutRange
import Derived.Deep.Cut
set_option linter.unusedVariables false
set_option linter.unusedSimpArgs false
set_option linter.unnecessarySimpa false
namespace Go.Proofs.Sky
open Go Go.RowKit Go.Shelf
set_option maxHeartbeats 2000000
set_option maxRecDepth 4000
theorem shl_parts (x : Nat) (h : x * 2 < 340282366920938463463374607431768211456) : (x * 2) / 18446744073709551616 = x / 18446744073709551616 * 2 + x % 18446744073709551616 / 9223372036854775808 ∧ (x * 2) % 18446744073709551616 = x % 18446744073709551616 * 2 % 18446744073709551616 ∧ x / 18446744073709551616 * 2 < 18446744073709551616 ∧ x % 18446744073709551616 / 9223372036854775808 < 2 := by omega
theorem or_join (a c : Nat) (ha : a * 2 < 18446744073709551616) (hc : c < 2) : bits .or .u64 ((a : Int) * 2) (c : Int) = ((a * 2 + c : Nat) : Int) := by
  have h := bits_or_u64_nat (a * 2) c ha (by omega)
  rw [Int.natCast_mul] at h
  have e : a * 2 ||| c = a * 2 + c := by
    rcases (show c = 0 ∨ c = 1 by omega) with rfl | rfl
    · simp
    · have := Nat.two_pow_add_eq_or_of_lt (i := 1) (b := 1) (by omega) a
      rw [show 2 ^ 1 * a = a * 2 by omega] at this
      exact this.symm
  rw [e] at h
  exact h
theorem shifted_any (b : Bool) (m n : Nat) (w : World) (hn : n ≤ 127) (h : m * 2 ^ n < 340282366920938463463374607431768211456) :
    Calls Try.prog 48 #[wv b m, .int .i64 n] w fun e w' => e = .returned (wv b (m * 2 ^ n)) ∧ Bw w w' := by
  have HBW := Lib.hid (Bw.alloc (Bw.alloc (Bw.refl w) (.cells #[.bool b, .int .u64 ((m / 18446744073709551616 : Nat) : Int), .int .u64 ((m % 18446744073709551616 : Nat) : Int)] 80)) (.cells #[.bool false, .int .u64 0, .int .u64 0] 80))
  have KX := Lib.hid ((Blk.new w 80 #[.bool b, .int .u64 ((m / 18446744073709551616 : Nat) : Int), .int .u64 ((m % 18446744073709551616 : Nat) : Int)]).alloc (.cells #[.bool false, .int .u64 0, .int .u64 0] 80))
  have ZX : Hid (Blk ((w.alloc (.cells #[.bool b, .int .u64 ((m / 18446744073709551616 : Nat) : Int), .int .u64 ((m % 18446744073709551616 : Nat) : Int)] 80)).alloc (.cells #[.bool false, .int .u64 0, .int .u64 0] 80)) (w.heap.size + 1) 80 #[.bool false, .int .u64 0, .int .u64 0]) := Lib.hid (by have h9 := Blk.new (w.alloc (.cells #[.bool b, .int .u64 ((m / 18446744073709551616 : Nat) : Int), .int .u64 ((m % 18446744073709551616 : Nat) : Int)] 80)) 80 #[.bool false, .int .u64 0, .int .u64 0]; simpa using h9)
  have HM := Lib.hid h
  clear h
  unfold wv
  obtain ⟨x0, hx0⟩ : ∃ x0, x0 = m / 18446744073709551616 := ⟨_, rfl⟩
  obtain ⟨x1, hx1⟩ : ∃ x1, x1 = m % 18446744073709551616 := ⟨_, rfl⟩
  rw [← hx0, ← hx1] at HBW KX ZX
  rw [← hx0, ← hx1]
  obtain ⟨r0, hr0⟩ : ∃ r0, r0 = m * 2 ^ n / 18446744073709551616 := ⟨_, rfl⟩
  obtain ⟨r1, hr1⟩ : ∃ r1, r1 = m * 2 ^ n % 18446744073709551616 := ⟨_, rfl⟩
  rw [← hr0, ← hr1]
  have HX0 := Lib.hid hx0; have HX1 := Lib.hid hx1; have HR0 := Lib.hid hr0; have HR1 := Lib.hid hr1
  clear hx0 hx1 hr0 hr1
  go_enter Try.func48, Try.ntmps48
  go_upto_region 2 with fail
  obtain ⟨W0, hW0⟩ : ∃ W0, ((w.alloc (.cells #[.bool b, .int .u64 (x0 : Int), .int .u64 (x1 : Int)] 80)).alloc (.cells #[.bool false, .int .u64 0, .int .u64 0] 80)) = W0 := ⟨_, rfl⟩
  rw [hW0] at HBW KX ZX ⊢
  clear hW0
  go_loopg [6] 127 (fun gg s6 wr => ∃ i : Nat, i ≤ n ∧ n - i ≤ gg ∧ s6 = .int .i64 i ∧ Hid (Bw w wr) ∧ Hid (Blk wr w.heap.size 80 #[.bool b, .int .u64 ((m * 2 ^ i / 18446744073709551616 : Nat) : Int), .int .u64 ((m * 2 ^ i % 18446744073709551616 : Nat) : Int)]) ∧ Hid (Blk wr (w.heap.size + 1) 80 #[.bool false, .int .u64 0, .int .u64 0]))
  case atStart => exact ⟨0, Nat.zero_le _, by omega, rfl, HBW, Lib.hid (by rw [Nat.pow_zero, Nat.mul_one, ← HX0.out, ← HX1.out]; exact KX.out), ZX⟩
  case round =>
    clear HBW KX ZX
    obtain ⟨i, hi, hgg, rfl, HBW, KX, ZX⟩ := hrel
    by_cases hlt : i < n
    · have hiz : (i : Int) < n := by omega
      have hx2 : m * 2 ^ i * 2 < 340282366920938463463374607431768211456 := by
        have h1 : m * 2 ^ i * 2 = m * 2 ^ (i + 1) := by rw [Nat.pow_succ, Nat.mul_assoc]
        rw [h1]
        exact Nat.lt_of_le_of_lt (Nat.mul_le_mul_left m (Nat.pow_le_pow_right (by omega) hlt)) HM.out
      have HNX := Lib.hid (show m * 2 ^ (i + 1) = m * 2 ^ i * 2 by rw [Nat.pow_succ, Nat.mul_assoc])
      generalize m * 2 ^ i = x at KX hx2 HNX
      obtain ⟨p1, p2, p3, p4⟩ := shl_parts x hx2
      have HP1 := Lib.hid p1
      have HP2 := Lib.hid p2
      clear p1 p2
      obtain ⟨a, ha⟩ : ∃ a, a = x / 18446744073709551616 := ⟨_, rfl⟩
      obtain ⟨l, hl⟩ : ∃ l, l = x % 18446744073709551616 := ⟨_, rfl⟩
      have hl64 : l < 18446744073709551616 := by omega
      rw [← ha] at p3 KX HP1
      rw [← hl] at p4 KX HP1 HP2
      have hor := or_join a (l / 9223372036854775808) p3 p4
      clear ha hl hx2
      have k0 : wr.cell? ⟨w.heap.size, 0, none⟩ = some (.bool b) := KX.out.cell rfl
      have k1 : wr.cell? ⟨w.heap.size, 1, none⟩ = some (.int .u64 (a : Int)) := KX.out.cell rfl
      have k2 : wr.cell? ⟨w.heap.size, 2, none⟩ = some (.int .u64 (l : Int)) := KX.out.cell rfl
      have f1 := KX.out.frozen 1
      have f2 := KX.out.frozen 2
      have hor2 : bits .or .u64 ((a : Int) * 2) ((l : Int) / 9223372036854775808) = ((x * 2 / 18446744073709551616 : Nat) : Int) := by
        rw [HP1.out, ← hor]; congr 1
      have hwr : IntKind.u64.wrap ((l : Int) * 2) = ((x * 2 % 18446744073709551616 : Nat) : Int) := by
        rw [HP2.out, IntKind.wrap_u64]; omega
      have HOR := Lib.hid hor2
      have HWR := Lib.hid hwr
      clear hor hor2 hwr
      go_wp2
      have NK := Lib.hid ((KX.out.set 1 (.int .u64 (bits .or .u64 ((a : Int) * 2) ((l : Int) / 9223372036854775808)))).set 2 (.int .u64 (IntKind.u64.wrap ((l : Int) * 2))))
      have NZ := Lib.hid ((ZX.out.set_other (show w.heap.size + 1 ≠ w.heap.size by omega) 1 (.int .u64 (bits .or .u64 ((a : Int) * 2) ((l : Int) / 9223372036854775808)))).set_other (show w.heap.size + 1 ≠ w.heap.size by omega) 2 (.int .u64 (IntKind.u64.wrap ((l : Int) * 2))))
      have NW := Lib.hid (Bw.setCell (Bw.setCell HBW.out (p := ⟨w.heap.size, 1, none⟩) (Nat.le_refl _) (.int .u64 (bits .or .u64 ((a : Int) * 2) ((l : Int) / 9223372036854775808)))) (p := ⟨w.heap.size, 2, none⟩) (Nat.le_refl _) (.int .u64 (IntKind.u64.wrap ((l : Int) * 2))))
      go_roundg (n - (i + 1))
      case measure => omega
      case rel => exact ⟨i + 1, by omega, by omega, by go_num, NW, Lib.hid ((show _ = some (Obj.cells _ _ _) from NK.out).trans (by rw [HNX.out, HOR.out, HWR.out]; rfl)), NZ⟩
    · obtain rfl : n = i := by omega
      have hiz : ¬ (n : Int) < n := by omega
      rw [← HR0.out, ← HR1.out] at KX
      have k0 : wr.cell? ⟨w.heap.size, 0, none⟩ = some (.bool b) := KX.out.cell rfl
      have k1 : wr.cell? ⟨w.heap.size, 1, none⟩ = some (.int .u64 (r0 : Int)) := KX.out.cell rfl
      have k2 : wr.cell? ⟨w.heap.size, 2, none⟩ = some (.int .u64 (r1 : Int)) := KX.out.cell rfl
      have z0 : wr.cell? ⟨w.heap.size + 1, 0, none⟩ = some (.bool false) := ZX.out.cell rfl
      have z1 : wr.cell? ⟨w.heap.size + 1, 1, none⟩ = some (.int .u64 0) := ZX.out.cell rfl
      have z2 : wr.cell? ⟨w.heap.size + 1, 2, none⟩ = some (.int .u64 0) := ZX.out.cell rfl
      have q0 := ZX.out.frozen 0
      have q1 := ZX.out.frozen 1
      have q2 := ZX.out.frozen 2
      go_wp2
      have B9 := ((ZX.out.set 0 (.bool b)).set 1 (.int .u64 (r0 : Int))).set 2 (.int .u64 (r1 : Int))
      have m0 := B9.cell (j := 0) rfl
      have m1 := B9.cell (j := 1) rfl
      have m2 := B9.cell (j := 2) rfl
      refine bodyPost_ret (v := .agg #[.bool b, .int .u64 (r0 : Int), .int .u64 (r1 : Int)]) ?_ rfl ⟨rfl, Bw.setCell (Bw.setCell (Bw.setCell HBW.out (p := ⟨w.heap.size + 1, 0, none⟩) (by simp) _) (p := ⟨w.heap.size + 1, 1, none⟩) (by simp) _) (p := ⟨w.heap.size + 1, 2, none⟩) (by simp) _⟩
      simp [results, Try.results48, go_sem, m0, m1, m2]
end Go.Proofs.Sky

namespace Go.Proofs.Sky
open Go Go.RowKit Go.Shelf
set_option maxHeartbeats 2000000
set_option maxRecDepth 4000
theorem away_any (b : Bool) (m j : Nat) (w : World) (hj : j ≤ 126) (h : m + 2 ^ j < 340282366920938463463374607431768211456) :
    Calls Try.prog 65 #[wv b m, .int .i64 ((j : Int) + 1)] w fun e w' => e = .returned (wv b (m + 2 ^ j)) ∧ Bw w w' := by
  have SH := Lib.hid (show ∀ W : World, Calls Try.prog 48 #[.agg #[.bool b, .int .u64 0, .int .u64 1], .int .i64 j] W fun e w' => e = .returned (wv b (1 * 2 ^ j)) ∧ Bw W w' from fun W => shifted_any b 1 j W (by omega) (by rw [Nat.one_mul]; omega))
  rw [Nat.one_mul] at SH
  have PL := Lib.hid (fun W => plus_any b m b (2 ^ j) W h)
  rw [show plW b m b (2 ^ j) = (b, m + 2 ^ j) by unfold plW; rw [if_pos rfl]] at PL
  simp only at PL
  generalize wv b (2 ^ j) = V at SH PL
  clear h
  unfold wv at PL
  unfold wv
  obtain ⟨x0, hx0⟩ : ∃ x0, x0 = m / 18446744073709551616 := ⟨_, rfl⟩
  obtain ⟨x1, hx1⟩ : ∃ x1, x1 = m % 18446744073709551616 := ⟨_, rfl⟩
  obtain ⟨r0, hr0⟩ : ∃ r0, r0 = (m + 2 ^ j) / 18446744073709551616 := ⟨_, rfl⟩
  obtain ⟨r1, hr1⟩ : ∃ r1, r1 = (m + 2 ^ j) % 18446744073709551616 := ⟨_, rfl⟩
  rw [← hx0, ← hx1, ← hr0, ← hr1] at PL
  rw [← hx0, ← hx1, ← hr0, ← hr1]
  clear hx0 hx1 hr0 hr1
  have hjz : (j : Int) + 1 - 1 = (j : Int) := by omega
  have HBW := Lib.hid (Bw.alloc (Bw.alloc (Bw.refl w) (.cells #[.bool b, .int .u64 (x0 : Int), .int .u64 (x1 : Int)] 80)) (.cells #[.bool false, .int .u64 0, .int .u64 0] 80))
  have KX := Lib.hid ((Blk.new w 80 #[.bool b, .int .u64 (x0 : Int), .int .u64 (x1 : Int)]).alloc (.cells #[.bool false, .int .u64 0, .int .u64 0] 80))
  have ZX : Hid (Blk ((w.alloc (.cells #[.bool b, .int .u64 (x0 : Int), .int .u64 (x1 : Int)] 80)).alloc (.cells #[.bool false, .int .u64 0, .int .u64 0] 80)) (w.heap.size + 1) 80 #[.bool false, .int .u64 0, .int .u64 0]) := Lib.hid (by have h9 := Blk.new (w.alloc (.cells #[.bool b, .int .u64 (x0 : Int), .int .u64 (x1 : Int)] 80)) 80 #[.bool false, .int .u64 0, .int .u64 0]; simpa using h9)
  go_enter Try.func65, Try.ntmps65
  go_upto_region 1 with fail
  obtain ⟨W0, hW0⟩ : ∃ W0, ((w.alloc (.cells #[.bool b, .int .u64 (x0 : Int), .int .u64 (x1 : Int)] 80)).alloc (.cells #[.bool false, .int .u64 0, .int .u64 0] 80)) = W0 := ⟨_, rfl⟩
  rw [hW0] at HBW KX ZX ⊢
  clear hW0
  have k0 : W0.cell? ⟨w.heap.size, 0, none⟩ = some (.bool b) := KX.out.cell rfl
  have k1 : W0.cell? ⟨w.heap.size, 1, none⟩ = some (.int .u64 (x0 : Int)) := KX.out.cell rfl
  have k2 : W0.cell? ⟨w.heap.size, 2, none⟩ = some (.int .u64 (x1 : Int)) := KX.out.cell rfl
  have e0 := fun p' : Ext W0 => Ext.cell' k0 p'
  have e1 := fun p' : Ext W0 => Ext.cell' k1 p'
  have e2 := fun p' : Ext W0 => Ext.cell' k2 p'
  clear k0 k1 k2
  (refine wp_region_ext_tail 8 (by kernel_rfl) (by kernel_rfl) ?_; simp only [List.take_succ_cons, List.take_zero, List.drop_succ_cons, List.drop_zero]; (repeat (go_big_quiet_step ((first | (go_at_call 48; with_reducible refine Calls.ext_of (SH.out _)) | (go_at_call 47; with_reducible refine Calls.ext_of (PL.out _)))))); refine wpQuiet_nil ?_; rintro wq ⟨⟨_, hbq⟩, rfl⟩; obtain ⟨hccq, hffq⟩ := Bw.cells hbq; have hszq := Bw.size hbq)
  replace HBW := Lib.hid (HBW.out.trans hbq)
  replace ZX := Lib.hid (ZX.out.bw hbq)
  clear e0 e1 e2 hbq hccq hffq hszq
  have z0 : wq.cell? ⟨w.heap.size + 1, 0, none⟩ = some (.bool false) := ZX.out.cell rfl
  have z1 : wq.cell? ⟨w.heap.size + 1, 1, none⟩ = some (.int .u64 0) := ZX.out.cell rfl
  have z2 : wq.cell? ⟨w.heap.size + 1, 2, none⟩ = some (.int .u64 0) := ZX.out.cell rfl
  have fz0 := ZX.out.frozen 0
  have fz1 := ZX.out.frozen 1
  have fz2 := ZX.out.frozen 2
  go_wp2
  have B9 := ((ZX.out.set 0 (.bool b)).set 1 (.int .u64 (r0 : Int))).set 2 (.int .u64 (r1 : Int))
  have m0 := B9.cell (j := 0) rfl
  have m1 := B9.cell (j := 1) rfl
  have m2 := B9.cell (j := 2) rfl
  refine bodyPost_ret (v := .agg #[.bool b, .int .u64 (r0 : Int), .int .u64 (r1 : Int)]) ?_ rfl ⟨rfl, Bw.setCell (Bw.setCell (Bw.setCell HBW.out (p := ⟨w.heap.size + 1, 0, none⟩) (by simp) _) (p := ⟨w.heap.size + 1, 1, none⟩) (by simp) _) (p := ⟨w.heap.size + 1, 2, none⟩) (by simp) _⟩
  simp [results, Try.results65, go_sem, m0, m1, m2]
theorem shr_parts (x : Nat) (h : x < 340282366920938463463374607431768211456) : x / 2 / 18446744073709551616 = x / 18446744073709551616 / 2 ∧ x / 2 % 18446744073709551616 = x / 18446744073709551616 % 2 * 9223372036854775808 + x % 18446744073709551616 / 2 := by omega
theorem or_join2 (a l : Nat) (hl : l < 18446744073709551616) : bits .or .u64 ((l : Int) / 2) (IntKind.u64.wrap ((a : Int) * 9223372036854775808)) = ((a % 2 * 9223372036854775808 + l / 2 : Nat) : Int) := by
  have e1 : (l : Int) / 2 = ((l / 2 : Nat) : Int) := by omega
  have e2 : IntKind.u64.wrap ((a : Int) * 9223372036854775808) = ((a % 2 * 9223372036854775808 : Nat) : Int) := by rw [IntKind.wrap_u64]; omega
  rw [e1, e2, bits_or_u64_nat _ _ (by omega) (by omega)]
  congr 1
  have := Nat.two_pow_add_eq_or_of_lt (i := 63) (b := l / 2) (by omega) (a % 2)
  rw [Nat.or_comm, show a % 2 * 9223372036854775808 = 2 ^ 63 * (a % 2) by omega]
  exact this.symm
theorem rounded_any (b : Bool) (m j : Nat) (w : World) (hj : j ≤ 126) (h : m + 2 ^ j < 340282366920938463463374607431768211456) (hq : (m + 2 ^ j) / 2 ^ (j + 1) < 4611686018427387904) :
    Calls Try.prog 49 #[wv b m, .int .i64 ((j : Int) + 1)] w fun e w' => e = .returned (.int .i64 (sg b ((m + 2 ^ j) / 2 ^ (j + 1)))) ∧ Bw w w' := by
  have AW := Lib.hid (fun W => away_any b m j W hj h)
  obtain ⟨X, hX⟩ : ∃ X, X = m + 2 ^ j := ⟨_, rfl⟩
  rw [← hX] at AW h hq ⊢
  unfold wv at AW
  unfold wv
  obtain ⟨x0, hx0⟩ : ∃ x0, x0 = m / 18446744073709551616 := ⟨_, rfl⟩
  obtain ⟨x1, hx1⟩ : ∃ x1, x1 = m % 18446744073709551616 := ⟨_, rfl⟩
  obtain ⟨r0, hr0⟩ : ∃ r0, r0 = X / 18446744073709551616 := ⟨_, rfl⟩
  obtain ⟨r1, hr1⟩ : ∃ r1, r1 = X % 18446744073709551616 := ⟨_, rfl⟩
  rw [← hx0, ← hx1, ← hr0, ← hr1] at AW
  rw [← hx0, ← hx1]
  have HR0 := Lib.hid hr0; have HR1 := Lib.hid hr1
  have HXB := Lib.hid h
  obtain ⟨R, hR⟩ : ∃ R, R = X / 2 ^ (j + 1) := ⟨_, rfl⟩
  rw [← hR] at hq ⊢
  have HR := Lib.hid hR
  clear hx0 hx1 hr0 hr1 hX h hR
  have HBW := Lib.hid (Bw.alloc (Bw.refl w) (.cells #[.bool b, .int .u64 (x0 : Int), .int .u64 (x1 : Int)] 80))
  have KX := Lib.hid (Blk.new w 80 #[.bool b, .int .u64 (x0 : Int), .int .u64 (x1 : Int)])
  go_enter Try.func49, Try.ntmps49
  go_upto_region 1 with fail
  obtain ⟨W0, hW0⟩ : ∃ W0, (w.alloc (.cells #[.bool b, .int .u64 (x0 : Int), .int .u64 (x1 : Int)] 80)) = W0 := ⟨_, rfl⟩
  rw [hW0] at HBW KX ⊢
  clear hW0
  have k0 : W0.cell? ⟨w.heap.size, 0, none⟩ = some (.bool b) := KX.out.cell rfl
  have k1 : W0.cell? ⟨w.heap.size, 1, none⟩ = some (.int .u64 (x0 : Int)) := KX.out.cell rfl
  have k2 : W0.cell? ⟨w.heap.size, 2, none⟩ = some (.int .u64 (x1 : Int)) := KX.out.cell rfl
  go_upto_region 2 with (go_at_call 65; (with_reducible refine Calls.mono (AW.out _) ?_); rintro e1 w1 ⟨rfl, hb9⟩; replace HBW := Lib.hid (HBW.out.trans hb9); replace KX := Lib.hid (KX.out.bw hb9); clear hb9 k0 k1 k2; have k0 : w1.cell? ⟨w.heap.size, 0, none⟩ = some (.bool b) := KX.out.cell rfl; have k1 : w1.cell? ⟨w.heap.size, 1, none⟩ = some (.int .u64 (x0 : Int)) := KX.out.cell rfl; have k2 : w1.cell? ⟨w.heap.size, 2, none⟩ = some (.int .u64 (x1 : Int)) := KX.out.cell rfl; have fk0 := KX.out.frozen 0; have fk1 := KX.out.frozen 1; have fk2 := KX.out.frozen 2)
  replace KX := Lib.hid (show Blk _ _ 80 #[.bool b, .int .u64 (r0 : Int), .int .u64 (r1 : Int)] by have h := ((KX.out.set 0 (.bool b)).set 1 (.int .u64 (r0 : Int))).set 2 (.int .u64 (r1 : Int)); simpa using h)
  replace HBW := Lib.hid (Bw.setCell (Bw.setCell (Bw.setCell HBW.out (p := ⟨w.heap.size, 0, none⟩) (Nat.le_refl _) (.bool b)) (p := ⟨w.heap.size, 1, none⟩) (Nat.le_refl _) (.int .u64 (r0 : Int))) (p := ⟨w.heap.size, 2, none⟩) (Nat.le_refl _) (.int .u64 (r1 : Int)))
  clear k0 k1 k2 fk0 fk1 fk2
  generalize (((w1.setCell ⟨w.heap.size, 0, none⟩ (.bool b)).setCell ⟨w.heap.size, 1, none⟩ (.int .u64 (r0 : Int))).setCell ⟨w.heap.size, 2, none⟩ (.int .u64 (r1 : Int))) = w2 at KX HBW ⊢
  go_wp2
  go_loopg [9] 127 (fun gg s9 wr => ∃ i : Nat, i ≤ j + 1 ∧ j + 1 - i ≤ gg ∧ s9 = .int .i64 i ∧ Hid (Bw w wr) ∧ Hid (Blk wr w.heap.size 80 #[.bool b, .int .u64 ((X / 2 ^ i / 18446744073709551616 : Nat) : Int), .int .u64 ((X / 2 ^ i % 18446744073709551616 : Nat) : Int)]))
  case atStart => exact ⟨0, Nat.zero_le _, by omega, rfl, HBW, Lib.hid (by rw [Nat.pow_zero, Nat.div_one, ← HR0.out, ← HR1.out]; exact KX.out)⟩
  case round =>
    clear HBW KX
    obtain ⟨i, hi, hgg, rfl, HBW, KX⟩ := hrel
    by_cases hlt : i < j + 1
    · have hiz : (i : Int) < (j : Int) + 1 := by omega
      have HNX := Lib.hid (show X / 2 ^ (i + 1) = X / 2 ^ i / 2 by rw [Nat.pow_succ, Nat.div_div_eq_div_mul])
      have hx2 : X / 2 ^ i < 340282366920938463463374607431768211456 := Nat.lt_of_le_of_lt (Nat.div_le_self _ _) HXB.out
      generalize X / 2 ^ i = x at KX hx2 HNX
      obtain ⟨p1, p2⟩ := shr_parts x hx2
      have HP1 := Lib.hid p1
      have HP2 := Lib.hid p2
      clear p1 p2
      obtain ⟨a, ha⟩ : ∃ a, a = x / 18446744073709551616 := ⟨_, rfl⟩
      obtain ⟨l, hl⟩ : ∃ l, l = x % 18446744073709551616 := ⟨_, rfl⟩
      have hl64 : l < 18446744073709551616 := by omega
      have ha64 : a < 18446744073709551616 := by omega
      rw [← ha] at KX HP1 HP2
      rw [← hl] at KX HP2
      have HOR := Lib.hid (show bits .or .u64 ((l : Int) / 2) (IntKind.u64.wrap ((a : Int) * 9223372036854775808)) = ((x / 2 % 18446744073709551616 : Nat) : Int) by rw [HP2.out]; exact or_join2 a l hl64)
      have HAH := Lib.hid (show (a : Int) / 2 = ((x / 2 / 18446744073709551616 : Nat) : Int) by rw [HP1.out]; omega)
      clear ha hl hx2
      have k0 : wr.cell? ⟨w.heap.size, 0, none⟩ = some (.bool b) := KX.out.cell rfl
      have k1 : wr.cell? ⟨w.heap.size, 1, none⟩ = some (.int .u64 (a : Int)) := KX.out.cell rfl
      have k2 : wr.cell? ⟨w.heap.size, 2, none⟩ = some (.int .u64 (l : Int)) := KX.out.cell rfl
      have fk0 := KX.out.frozen 0
      have fk1 := KX.out.frozen 1
      have fk2 := KX.out.frozen 2
      go_wp2
      have NK := Lib.hid ((KX.out.set 1 (.int .u64 ((a : Int) / 2))).set 2 (.int .u64 (bits .or .u64 ((l : Int) / 2) (IntKind.u64.wrap ((a : Int) * 9223372036854775808)))))
      have NW := Lib.hid (Bw.setCell (Bw.setCell HBW.out (p := ⟨w.heap.size, 1, none⟩) (Nat.le_refl _) (.int .u64 ((a : Int) / 2))) (p := ⟨w.heap.size, 2, none⟩) (Nat.le_refl _) (.int .u64 (bits .or .u64 ((l : Int) / 2) (IntKind.u64.wrap ((a : Int) * 9223372036854775808)))))
      go_roundg (j + 1 - (i + 1))
      case measure => omega
      case rel => exact ⟨i + 1, by omega, by omega, by go_num, NW, Lib.hid ((show _ = some (Obj.cells _ _ _) from NK.out).trans (by rw [HNX.out, HAH.out, HOR.out]; rfl))⟩
    · obtain rfl : i = j + 1 := by omega
      have hiz : ¬ ((j + 1 : Nat) : Int) < (j : Int) + 1 := by omega
      rw [← HR.out, show R / 18446744073709551616 = 0 by omega, show R % 18446744073709551616 = R by omega] at KX
      have k0 : wr.cell? ⟨w.heap.size, 0, none⟩ = some (.bool b) := KX.out.cell rfl
      have k1 : wr.cell? ⟨w.heap.size, 1, none⟩ = some (.int .u64 ((0 : Nat) : Int)) := KX.out.cell rfl
      have k2 : wr.cell? ⟨w.heap.size, 2, none⟩ = some (.int .u64 (R : Int)) := KX.out.cell rfl
      have fk0 := KX.out.frozen 0
      have fk1 := KX.out.frozen 1
      have fk2 := KX.out.frozen 2
      have hRz : (R : Int) < 4611686018427387904 := by omega
      cases b with
      | false =>
        go_wp2
        go_ret
        exact ⟨ret_int (by simp [sg]), HBW.out⟩
      | true =>
        go_wp2
        go_ret
        exact ⟨ret_int (by simp [sg]), HBW.out⟩
end Go.Proofs.Sky

namespace Go.Proofs.Sky
open Go Go.RowKit Go.Shelf
set_option maxHeartbeats 2000000
set_option maxRecDepth 4000
def hsum (c : Nat → Int) (z N : Nat) : Nat → Int
  | 0 => 0
  | q + 1 => hsum c z N q * z + c (N - 1 - q) * 2 ^ (30 * q)
def bnd : Nat → Nat
  | 0 => 0
  | q + 1 => bnd q * 1073741824 + 1000000 * 2 ^ (30 * q)
/-- a quotient by a power of 2, rounded half away from zero -/
def rndH (S : Int) (k : Nat) : Int := if S < 0 then -((-S + 2 ^ (k - 1)) / 2 ^ k) else (S + 2 ^ (k - 1)) / 2 ^ k
theorem rnd_sg (b : Bool) (m k : Nat) : sg b ((m + 2 ^ k) / 2 ^ (k + 1)) = rndH (sg b m) (k + 1) := by
  have hd : (2 : Nat) ^ k < 2 ^ (k + 1) := by rw [Nat.pow_succ]; have := Nat.two_pow_pos k; omega
  unfold rndH sg
  rw [Nat.add_sub_cancel]
  cases b with
  | false =>
    simp only [Bool.false_eq_true, if_false]
    rw [if_neg (by omega)]
    push_cast
    rfl
  | true =>
    simp only [if_true]
    by_cases hm : m = 0
    · subst hm
      rw [if_neg (by omega), Nat.zero_add, Nat.div_eq_of_lt hd]
      have h2 : (((2 : Nat) ^ k / 2 ^ (k + 1) : Nat) : Int) = 0 := by rw [Nat.div_eq_of_lt hd]; rfl
      have h3 : (2 : Int) ^ k / 2 ^ (k + 1) = 0 := by push_cast at h2; exact h2
      rw [show -(((0 : Nat)) : Int) + 2 ^ k = 2 ^ k by simp, h3]
      rfl
    · rw [if_pos (by omega)]
      push_cast
      rw [Int.neg_neg]
theorem sg_mul (b : Bool) (m z : Nat) : sg b (m * z) = sg b m * z := by
  cases b <;> simp [sg, Int.neg_mul]
theorem sg_abs (c : Int) (k : Nat) : sg (decide (c < 0)) (c.natAbs * 2 ^ k) = c * 2 ^ k := by
  have hp : ((2 ^ k : Nat) : Int) = 2 ^ k := by push_cast; rfl
  by_cases h : c < 0
  · simp only [sg, h, decide_true, if_true, Int.natCast_mul, hp]
    rw [← Int.neg_mul]; congr 1; omega
  · simp only [sg, h, decide_false, Bool.false_eq_true, if_false, Int.natCast_mul, hp]
    congr 1; omega
theorem step_bnd (q : Nat) (hq : q ≤ 3) (ms z cn : Nat) (h1 : ms ≤ bnd q) (h2 : z ≤ 1073741824) (h3 : cn ≤ 1000000) : ms * z ≤ bnd q * 1073741824 ∧ cn * 2 ^ (30 * q) ≤ 1000000 * 2 ^ (30 * q) ∧ bnd q * 1073741824 + 1000000 * 2 ^ (30 * q) = bnd (q + 1) ∧ bnd q < 340282366920938463463374607431768211456 ∧ bnd (q + 1) < 340282366920938463463374607431768211456 ∧ cn < 340282366920938463463374607431768211456 := by
  refine ⟨Nat.mul_le_mul h1 h2, Nat.mul_le_mul_right _ h3, rfl, ?_, ?_, by omega⟩
  · rcases (show q = 0 ∨ q = 1 ∨ q = 2 ∨ q = 3 by omega) with rfl | rfl | rfl | rfl <;> decide
  · rcases (show q = 0 ∨ q = 1 ∨ q = 2 ∨ q = 3 by omega) with rfl | rfl | rfl | rfl <;> decide
theorem times_nat (b : Bool) (m z : Nat) (w : World) (hz : z ≤ 1073741824) (hm : m < 340282366920938463463374607431768211456) (h : m * z < 340282366920938463463374607431768211456) :
    Calls Try.prog 46 #[wv b m, .int .i64 z] w fun e w' => e = .returned (wv b (m * z)) ∧ Bw w w' := by
  have h9 := times_any b m z w (by omega) hm (by rw [Int.natAbs_natCast]; exact h)
  rw [Int.natAbs_natCast, show (b != decide ((z : Int) < 0)) = b by rw [decide_eq_false (by omega)]; cases b <;> rfl] at h9
  exact h9
theorem delay4_any (c : Nat → Int) (z : Nat) (w : World) (hc : ∀ i, -1000000 ≤ c i ∧ c i ≤ 1000000) (hz : z ≤ 1073741824) :
    Calls Try.prog 30 #[.agg #[.int .i64 (c 0), .int .i64 (c 1), .int .i64 (c 2), .int .i64 (c 3)], .int .i64 z] w fun e w' => e = .returned (.int .i64 (rndH (hsum c z 4 4) 90)) ∧ Bw w w' := by
  have HBW := Lib.hid (Bw.alloc (Bw.alloc (Bw.refl w) (.cells #[.int .i64 (c 0), .int .i64 (c 1), .int .i64 (c 2), .int .i64 (c 3)] 22)) (.cells #[.bool false, .int .u64 0, .int .u64 0] 80))
  have KX := Lib.hid ((Blk.new w 22 #[.int .i64 (c 0), .int .i64 (c 1), .int .i64 (c 2), .int .i64 (c 3)]).alloc (.cells #[.bool false, .int .u64 0, .int .u64 0] 80))
  have ZX : Hid (Blk ((w.alloc (.cells #[.int .i64 (c 0), .int .i64 (c 1), .int .i64 (c 2), .int .i64 (c 3)] 22)).alloc (.cells #[.bool false, .int .u64 0, .int .u64 0] 80)) (w.heap.size + 1) 80 #[.bool false, .int .u64 0, .int .u64 0]) := Lib.hid (by have h9 := Blk.new (w.alloc (.cells #[.int .i64 (c 0), .int .i64 (c 1), .int .i64 (c 2), .int .i64 (c 3)] 22)) 80 #[.bool false, .int .u64 0, .int .u64 0]; simpa using h9)
  have HC := Lib.hid hc
  clear hc
  go_enter Try.func30, Try.ntmps30
  go_upto_region 2 with fail
  obtain ⟨W0, hW0⟩ : ∃ W0, ((w.alloc (.cells #[.int .i64 (c 0), .int .i64 (c 1), .int .i64 (c 2), .int .i64 (c 3)] 22)).alloc (.cells #[.bool false, .int .u64 0, .int .u64 0] 80)) = W0 := ⟨_, rfl⟩
  rw [hW0] at HBW KX ZX ⊢
  clear hW0
  have k0 : W0.cell? ⟨w.heap.size, 0, none⟩ = some (.int .i64 (c 0)) := KX.out.cell rfl
  have k1 : W0.cell? ⟨w.heap.size, 1, none⟩ = some (.int .i64 (c 1)) := KX.out.cell rfl
  have k2 : W0.cell? ⟨w.heap.size, 2, none⟩ = some (.int .i64 (c 2)) := KX.out.cell rfl
  have k3 : W0.cell? ⟨w.heap.size, 3, none⟩ = some (.int .i64 (c 3)) := KX.out.cell rfl
  go_upto_region 3 with fail
  clear k0 k1 k2 k3
  have HKC := Lib.hid (show ∀ W, Blk W w.heap.size 22 #[.int .i64 (c 0), .int .i64 (c 1), .int .i64 (c 2), .int .i64 (c 3)] → ∀ i, i < 4 → W.cell? ⟨w.heap.size, i, none⟩ = some (.int .i64 (c i)) from fun W hB i hi => by
    match i, hi with
    | 0, _ => exact hB.cell rfl
    | 1, _ => exact hB.cell rfl
    | 2, _ => exact hB.cell rfl
    | 3, _ => exact hB.cell rfl)
  go_loopg [6] 4 (fun gg s6 wr => ∃ i : Nat, i ≤ 4 ∧ i ≤ gg ∧ s6 = .int .i64 ((i : Int) - 1) ∧ ∃ (bs : Bool) (ms : Nat), Hid (sg bs ms = hsum c z 4 (4 - i)) ∧ Hid (ms ≤ bnd (4 - i)) ∧ Hid (Bw w wr) ∧ Hid (Blk wr w.heap.size 22 #[.int .i64 (c 0), .int .i64 (c 1), .int .i64 (c 2), .int .i64 (c 3)]) ∧ Hid (Blk wr (w.heap.size + 1) 80 #[.bool bs, .int .u64 ((ms / 18446744073709551616 : Nat) : Int), .int .u64 ((ms % 18446744073709551616 : Nat) : Int)]))
  case atStart => exact ⟨4, Nat.le_refl _, by omega, by go_num, false, 0, Lib.hid (by simp [sg, hsum]), Lib.hid (by simp [bnd]), HBW, KX, ZX⟩
  case round =>
    clear HBW KX ZX
    obtain ⟨i, hi, hgg, rfl, bs, ms, HSG, HBD, HX, KX, ZX⟩ := hrel
    by_cases hi0 : i = 0
    · subst hi0
      have hneg : ¬ (0 : Int) ≤ ((0 : Nat) : Int) - 1 := by omega
      have hb4 : bnd 4 + 2 ^ 89 < 340282366920938463463374607431768211456 ∧ (bnd 4 + 2 ^ 89) / 2 ^ 90 < 4611686018427387904 := by decide
      have hms : ms ≤ bnd 4 := HBD.out
      have hdv : (ms + 2 ^ 89) / 2 ^ 90 < 4611686018427387904 := Nat.lt_of_le_of_lt (Nat.div_le_div_right (Nat.add_le_add_right hms _)) hb4.2
      have RD := Lib.hid (show ∀ W : World, Calls Try.prog 49 #[wv bs ms, .int .i64 90] W fun e w' => e = .returned (.int .i64 (sg bs ((ms + 2 ^ 89) / 2 ^ 90))) ∧ Bw W w' from fun W => rounded_any bs ms 89 W (by omega) (by omega) hdv)
      rw [rnd_sg, show sg bs ms = hsum c z 4 4 from HSG.out] at RD
      clear hb4 hms hdv
      unfold wv at RD
      have z0 : wr.cell? ⟨w.heap.size + 1, 0, none⟩ = some (.bool bs) := ZX.out.cell rfl
      have z1 : wr.cell? ⟨w.heap.size + 1, 1, none⟩ = some (.int .u64 ((ms / 18446744073709551616 : Nat) : Int)) := ZX.out.cell rfl
      have z2 : wr.cell? ⟨w.heap.size + 1, 2, none⟩ = some (.int .u64 ((ms % 18446744073709551616 : Nat) : Int)) := ZX.out.cell rfl
      generalize ms / 18446744073709551616 = mh at *
      generalize ms % 18446744073709551616 = ml at *
      have k0 : wr.cell? ⟨w.heap.size, 0, none⟩ = some (.int .i64 (c 0)) := KX.out.cell rfl
      have k1 : wr.cell? ⟨w.heap.size, 1, none⟩ = some (.int .i64 (c 1)) := KX.out.cell rfl
      have k2 : wr.cell? ⟨w.heap.size, 2, none⟩ = some (.int .i64 (c 2)) := KX.out.cell rfl
      have k3 : wr.cell? ⟨w.heap.size, 3, none⟩ = some (.int .i64 (c 3)) := KX.out.cell rfl
      go_wp2_with (go_at_call 49; (with_reducible refine Calls.mono (RD.out _) ?_); rintro e1 w1 ⟨rfl, hb9⟩)
      go_ret
      exact ⟨rfl, HX.out.trans hb9⟩
    · obtain ⟨j, rfl⟩ : ∃ j, i = j + 1 := ⟨i - 1, by omega⟩
      have hjz : ((j + 1 : Nat) : Int) - 1 = (j : Int) := by omega
      rw [hjz]
      have hj0 : (0 : Int) ≤ j := by omega
      have hjn : (j : Int) < 4 := by omega
      obtain ⟨q, hq⟩ : ∃ q, q = 4 - (j + 1) := ⟨_, rfl⟩
      rw [← hq] at HSG HBD
      have hqb : q ≤ 3 := by omega
      have hqs : (30 : Int) * (3 - (j : Int)) = ((30 * q : Nat) : Int) := by omega
      have HNJ := Lib.hid (show 4 - j = q + 1 by omega)
      have HJ := Lib.hid (show 3 - q = j by omega)
      have kc := HKC.out wr KX.out j (by omega)
      have hcb := HC.out j
      have HS1 := Lib.hid (show hsum c z 4 (q + 1) = hsum c z 4 q * z + c j * 2 ^ (30 * q) by rw [hsum, show 4 - 1 - q = j by omega])
      have hmsb : ms ≤ bnd q := HBD.out
      have hB := step_bnd q (by omega) ms z (c j).natAbs HBD.out hz (by omega)
      clear hq hjz
      generalize c j = cj at *
      have hcn := Lib.hid (show sg (decide (cj < 0)) (cj.natAbs * 2 ^ (30 * q)) = cj * 2 ^ (30 * q) from sg_abs cj (30 * q))
      have TM1 := Lib.hid (fun W => times_nat bs ms z W (by omega) (by omega) (by omega))
      have TM2 := Lib.hid (show ∀ W : World, Calls Try.prog 46 #[.agg #[.bool false, .int .u64 0, .int .u64 1], .int .i64 cj] W fun e w' => e = .returned (wv (false != decide (cj < 0)) (1 * cj.natAbs)) ∧ Bw W w' from fun W => times_any false 1 cj W (by omega) (by omega) (by omega))
      have SHF := Lib.hid (fun W => shifted_any (false != decide (cj < 0)) (1 * cj.natAbs) (30 * q) W (by omega) (by rw [Nat.one_mul]; omega))
      rw [Nat.one_mul, show (false != decide (cj < 0)) = decide (cj < 0) by simp] at TM2 SHF
      have PLS := Lib.hid (fun W => plus_any bs (ms * z) (decide (cj < 0)) (cj.natAbs * 2 ^ (30 * q)) W (by omega))
      have HSN := Lib.hid (plW_sg bs (ms * z) (decide (cj < 0)) (cj.natAbs * 2 ^ (30 * q)))
      have HBN := Lib.hid (plW_le bs (ms * z) (decide (cj < 0)) (cj.natAbs * 2 ^ (30 * q)))
      have HMZ := Lib.hid (sg_mul bs ms z)
      have HBB := Lib.hid (show ms * z + cj.natAbs * 2 ^ (30 * q) ≤ bnd (q + 1) by omega)
      generalize wv (decide (cj < 0)) cj.natAbs = V1 at TM2 SHF
      generalize wv (decide (cj < 0)) (cj.natAbs * 2 ^ (30 * q)) = V2 at SHF PLS
      generalize wv bs (ms * z) = V3 at TM1 PLS
      obtain ⟨PR, hPR⟩ : ∃ PR, PR = plW bs (ms * z) (decide (cj < 0)) (cj.natAbs * 2 ^ (30 * q)) := ⟨_, rfl⟩
      rw [← hPR] at PLS HSN HBN
      clear hPR hB hmsb
      obtain ⟨nb, nm⟩ := PR
      simp only at PLS HSN HBN
      have HSF := Lib.hid (show sg nb nm = hsum c z 4 (q + 1) by rw [HSN.out, HMZ.out, HSG.out, hcn.out, HS1.out])
      have HBF := Lib.hid (Nat.le_trans HBN.out HBB.out)
      obtain ⟨k30, hk30⟩ : ∃ k30, 30 * q = k30 := ⟨_, rfl⟩
      rw [hk30] at SHF hqs
      clear hk30
      unfold wv at TM1 PLS
      have d0 : wr.cell? ⟨w.heap.size + 1, 0, none⟩ = some (.bool bs) := ZX.out.cell rfl
      have d1 : wr.cell? ⟨w.heap.size + 1, 1, none⟩ = some (.int .u64 ((ms / 18446744073709551616 : Nat) : Int)) := ZX.out.cell rfl
      have d2 : wr.cell? ⟨w.heap.size + 1, 2, none⟩ = some (.int .u64 ((ms % 18446744073709551616 : Nat) : Int)) := ZX.out.cell rfl
      generalize ms / 18446744073709551616 = mh at *
      generalize ms % 18446744073709551616 = ml at *
      obtain ⟨nh, hnh⟩ : ∃ nh, nh = nm / 18446744073709551616 := ⟨_, rfl⟩
      obtain ⟨nl, hnl⟩ : ∃ nl, nl = nm % 18446744073709551616 := ⟨_, rfl⟩
      rw [← hnh, ← hnl] at PLS
      have HNH := Lib.hid hnh
      have HNL := Lib.hid hnl
      clear hnh hnl
      go_upto_region 5 with fail
      have k0 : wr.cell? ⟨w.heap.size, 0, none⟩ = some (.int .i64 (c 0)) := KX.out.cell rfl
      have k1 : wr.cell? ⟨w.heap.size, 1, none⟩ = some (.int .i64 (c 1)) := KX.out.cell rfl
      have k2 : wr.cell? ⟨w.heap.size, 2, none⟩ = some (.int .i64 (c 2)) := KX.out.cell rfl
      have k3 : wr.cell? ⟨w.heap.size, 3, none⟩ = some (.int .i64 (c 3)) := KX.out.cell rfl
      have kj := kc
      have ek0 := fun p' : Ext wr => Ext.cell' k0 p'
      have ek1 := fun p' : Ext wr => Ext.cell' k1 p'
      have ek2 := fun p' : Ext wr => Ext.cell' k2 p'
      have ek3 := fun p' : Ext wr => Ext.cell' k3 p'
      have ekj := fun p' : Ext wr => Ext.cell' kj p'
      have ed0 := fun p' : Ext wr => Ext.cell' d0 p'
      have ed1 := fun p' : Ext wr => Ext.cell' d1 p'
      have ed2 := fun p' : Ext wr => Ext.cell' d2 p'
      clear k0 k1 k2 k3 kj kc d0 d1 d2
      (refine wp_region_ext_tail 16 (by kernel_rfl) (by kernel_rfl) ?_; simp only [List.take_succ_cons, List.take_zero, List.drop_succ_cons, List.drop_zero]; (repeat (go_big_quiet_step ((first | (go_at_call 46; first | (with_reducible refine Calls.ext_of (TM1.out _)) | (with_reducible refine Calls.ext_of (TM2.out _))) | (go_at_call 48; with_reducible refine Calls.ext_of (SHF.out _)) | (go_at_call 47; with_reducible refine Calls.ext_of (PLS.out _)))))); refine wpQuiet_nil ?_; rintro wq ⟨⟨_, hbq⟩, rfl⟩; obtain ⟨hccq, hffq⟩ := Bw.cells hbq; have hszq := Bw.size hbq)
      replace HX := Lib.hid (HX.out.trans hbq)
      replace KX := Lib.hid (KX.out.bw hbq)
      replace ZX := Lib.hid (ZX.out.bw hbq)
      clear ek0 ek1 ek2 ek3 ekj ed0 ed1 ed2 hbq hccq hffq hszq
      have z0 : wq.cell? ⟨w.heap.size + 1, 0, none⟩ = some (.bool bs) := ZX.out.cell rfl
      have z1 : wq.cell? ⟨w.heap.size + 1, 1, none⟩ = some (.int .u64 (mh : Int)) := ZX.out.cell rfl
      have z2 : wq.cell? ⟨w.heap.size + 1, 2, none⟩ = some (.int .u64 (ml : Int)) := ZX.out.cell rfl
      have q0 := ZX.out.frozen 0
      have q1 := ZX.out.frozen 1
      have q2 := ZX.out.frozen 2
      go_wp2
      have NZ := Lib.hid (((ZX.out.set 0 (.bool nb)).set 1 (.int .u64 (nh : Int))).set 2 (.int .u64 (nl : Int)))
      have NK := Lib.hid (((KX.out.set_other (show w.heap.size ≠ w.heap.size + 1 by omega) 0 (.bool nb)).set_other (show w.heap.size ≠ w.heap.size + 1 by omega) 1 (.int .u64 (nh : Int))).set_other (show w.heap.size ≠ w.heap.size + 1 by omega) 2 (.int .u64 (nl : Int)))
      have NW := Lib.hid (Bw.setCell (Bw.setCell (Bw.setCell HX.out (p := ⟨w.heap.size + 1, 0, none⟩) (by simp) (.bool nb)) (p := ⟨w.heap.size + 1, 1, none⟩) (by simp) (.int .u64 (nh : Int))) (p := ⟨w.heap.size + 1, 2, none⟩) (by simp) (.int .u64 (nl : Int)))
      go_roundg j
      case measure => omega
      case rel => exact ⟨j, by omega, by omega, by go_num, nb, nm, Lib.hid (by rw [HNJ.out]; exact HSF.out), Lib.hid (by rw [HNJ.out]; exact HBF.out), NW, NK, Lib.hid (by rw [← HNH.out, ← HNL.out]; simpa using NZ.out)⟩
theorem delay3_any (c : Nat → Int) (z : Nat) (w : World) (hc : ∀ i, -1000000 ≤ c i ∧ c i ≤ 1000000) (hz : z ≤ 1073741824) :
    Calls Try.prog 31 #[.agg #[.int .i64 (c 0), .int .i64 (c 1), .int .i64 (c 2)], .int .i64 z] w fun e w' => e = .returned (.int .i64 (rndH (hsum c z 3 3) 60)) ∧ Bw w w' := by
  have HBW := Lib.hid (Bw.alloc (Bw.alloc (Bw.refl w) (.cells #[.int .i64 (c 0), .int .i64 (c 1), .int .i64 (c 2)] 23)) (.cells #[.bool false, .int .u64 0, .int .u64 0] 80))
  have KX := Lib.hid ((Blk.new w 23 #[.int .i64 (c 0), .int .i64 (c 1), .int .i64 (c 2)]).alloc (.cells #[.bool false, .int .u64 0, .int .u64 0] 80))
  have ZX : Hid (Blk ((w.alloc (.cells #[.int .i64 (c 0), .int .i64 (c 1), .int .i64 (c 2)] 23)).alloc (.cells #[.bool false, .int .u64 0, .int .u64 0] 80)) (w.heap.size + 1) 80 #[.bool false, .int .u64 0, .int .u64 0]) := Lib.hid (by have h9 := Blk.new (w.alloc (.cells #[.int .i64 (c 0), .int .i64 (c 1), .int .i64 (c 2)] 23)) 80 #[.bool false, .int .u64 0, .int .u64 0]; simpa using h9)
  have HC := Lib.hid hc
  clear hc
  go_enter Try.func31, Try.ntmps31
  go_upto_region 2 with fail
  obtain ⟨W0, hW0⟩ : ∃ W0, ((w.alloc (.cells #[.int .i64 (c 0), .int .i64 (c 1), .int .i64 (c 2)] 23)).alloc (.cells #[.bool false, .int .u64 0, .int .u64 0] 80)) = W0 := ⟨_, rfl⟩
  rw [hW0] at HBW KX ZX ⊢
  clear hW0
  have k0 : W0.cell? ⟨w.heap.size, 0, none⟩ = some (.int .i64 (c 0)) := KX.out.cell rfl
  have k1 : W0.cell? ⟨w.heap.size, 1, none⟩ = some (.int .i64 (c 1)) := KX.out.cell rfl
  have k2 : W0.cell? ⟨w.heap.size, 2, none⟩ = some (.int .i64 (c 2)) := KX.out.cell rfl
  go_upto_region 3 with fail
  clear k0 k1 k2
  have HKC := Lib.hid (show ∀ W, Blk W w.heap.size 23 #[.int .i64 (c 0), .int .i64 (c 1), .int .i64 (c 2)] → ∀ i, i < 3 → W.cell? ⟨w.heap.size, i, none⟩ = some (.int .i64 (c i)) from fun W hB i hi => by
    match i, hi with
    | 0, _ => exact hB.cell rfl
    | 1, _ => exact hB.cell rfl
    | 2, _ => exact hB.cell rfl)
  go_loopg [6] 3 (fun gg s6 wr => ∃ i : Nat, i ≤ 3 ∧ i ≤ gg ∧ s6 = .int .i64 ((i : Int) - 1) ∧ ∃ (bs : Bool) (ms : Nat), Hid (sg bs ms = hsum c z 3 (3 - i)) ∧ Hid (ms ≤ bnd (3 - i)) ∧ Hid (Bw w wr) ∧ Hid (Blk wr w.heap.size 23 #[.int .i64 (c 0), .int .i64 (c 1), .int .i64 (c 2)]) ∧ Hid (Blk wr (w.heap.size + 1) 80 #[.bool bs, .int .u64 ((ms / 18446744073709551616 : Nat) : Int), .int .u64 ((ms % 18446744073709551616 : Nat) : Int)]))
  case atStart => exact ⟨3, Nat.le_refl _, by omega, by go_num, false, 0, Lib.hid (by simp [sg, hsum]), Lib.hid (by simp [bnd]), HBW, KX, ZX⟩
  case round =>
    clear HBW KX ZX
    obtain ⟨i, hi, hgg, rfl, bs, ms, HSG, HBD, HX, KX, ZX⟩ := hrel
    by_cases hi0 : i = 0
    · subst hi0
      have hneg : ¬ (0 : Int) ≤ ((0 : Nat) : Int) - 1 := by omega
      have hb4 : bnd 3 + 2 ^ 59 < 340282366920938463463374607431768211456 ∧ (bnd 3 + 2 ^ 59) / 2 ^ 60 < 4611686018427387904 := by decide
      have hms : ms ≤ bnd 3 := HBD.out
      have hdv : (ms + 2 ^ 59) / 2 ^ 60 < 4611686018427387904 := Nat.lt_of_le_of_lt (Nat.div_le_div_right (Nat.add_le_add_right hms _)) hb4.2
      have RD := Lib.hid (show ∀ W : World, Calls Try.prog 49 #[wv bs ms, .int .i64 60] W fun e w' => e = .returned (.int .i64 (sg bs ((ms + 2 ^ 59) / 2 ^ 60))) ∧ Bw W w' from fun W => rounded_any bs ms 59 W (by omega) (by omega) hdv)
      rw [rnd_sg, show sg bs ms = hsum c z 3 3 from HSG.out] at RD
      clear hb4 hms hdv
      unfold wv at RD
      have z0 : wr.cell? ⟨w.heap.size + 1, 0, none⟩ = some (.bool bs) := ZX.out.cell rfl
      have z1 : wr.cell? ⟨w.heap.size + 1, 1, none⟩ = some (.int .u64 ((ms / 18446744073709551616 : Nat) : Int)) := ZX.out.cell rfl
      have z2 : wr.cell? ⟨w.heap.size + 1, 2, none⟩ = some (.int .u64 ((ms % 18446744073709551616 : Nat) : Int)) := ZX.out.cell rfl
      generalize ms / 18446744073709551616 = mh at *
      generalize ms % 18446744073709551616 = ml at *
      have k0 : wr.cell? ⟨w.heap.size, 0, none⟩ = some (.int .i64 (c 0)) := KX.out.cell rfl
      have k1 : wr.cell? ⟨w.heap.size, 1, none⟩ = some (.int .i64 (c 1)) := KX.out.cell rfl
      have k2 : wr.cell? ⟨w.heap.size, 2, none⟩ = some (.int .i64 (c 2)) := KX.out.cell rfl
      go_wp2_with (go_at_call 49; (with_reducible refine Calls.mono (RD.out _) ?_); rintro e1 w1 ⟨rfl, hb9⟩)
      go_ret
      exact ⟨rfl, HX.out.trans hb9⟩
    · obtain ⟨j, rfl⟩ : ∃ j, i = j + 1 := ⟨i - 1, by omega⟩
      have hjz : ((j + 1 : Nat) : Int) - 1 = (j : Int) := by omega
      rw [hjz]
      have hj0 : (0 : Int) ≤ j := by omega
      have hjn : (j : Int) < 3 := by omega
      obtain ⟨q, hq⟩ : ∃ q, q = 3 - (j + 1) := ⟨_, rfl⟩
      rw [← hq] at HSG HBD
      have hqb : q ≤ 2 := by omega
      have hqs : (30 : Int) * (2 - (j : Int)) = ((30 * q : Nat) : Int) := by omega
      have HNJ := Lib.hid (show 3 - j = q + 1 by omega)
      have HJ := Lib.hid (show 2 - q = j by omega)
      have kc := HKC.out wr KX.out j (by omega)
      have hcb := HC.out j
      have HS1 := Lib.hid (show hsum c z 3 (q + 1) = hsum c z 3 q * z + c j * 2 ^ (30 * q) by rw [hsum, show 3 - 1 - q = j by omega])
      have hmsb : ms ≤ bnd q := HBD.out
      have hB := step_bnd q (by omega) ms z (c j).natAbs HBD.out hz (by omega)
      clear hq hjz
      generalize c j = cj at *
      have hcn := Lib.hid (show sg (decide (cj < 0)) (cj.natAbs * 2 ^ (30 * q)) = cj * 2 ^ (30 * q) from sg_abs cj (30 * q))
      have TM1 := Lib.hid (fun W => times_nat bs ms z W (by omega) (by omega) (by omega))
      have TM2 := Lib.hid (show ∀ W : World, Calls Try.prog 46 #[.agg #[.bool false, .int .u64 0, .int .u64 1], .int .i64 cj] W fun e w' => e = .returned (wv (false != decide (cj < 0)) (1 * cj.natAbs)) ∧ Bw W w' from fun W => times_any false 1 cj W (by omega) (by omega) (by omega))
      have SHF := Lib.hid (fun W => shifted_any (false != decide (cj < 0)) (1 * cj.natAbs) (30 * q) W (by omega) (by rw [Nat.one_mul]; omega))
      rw [Nat.one_mul, show (false != decide (cj < 0)) = decide (cj < 0) by simp] at TM2 SHF
      have PLS := Lib.hid (fun W => plus_any bs (ms * z) (decide (cj < 0)) (cj.natAbs * 2 ^ (30 * q)) W (by omega))
      have HSN := Lib.hid (plW_sg bs (ms * z) (decide (cj < 0)) (cj.natAbs * 2 ^ (30 * q)))
      have HBN := Lib.hid (plW_le bs (ms * z) (decide (cj < 0)) (cj.natAbs * 2 ^ (30 * q)))
      have HMZ := Lib.hid (sg_mul bs ms z)
      have HBB := Lib.hid (show ms * z + cj.natAbs * 2 ^ (30 * q) ≤ bnd (q + 1) by omega)
      generalize wv (decide (cj < 0)) cj.natAbs = V1 at TM2 SHF
      generalize wv (decide (cj < 0)) (cj.natAbs * 2 ^ (30 * q)) = V2 at SHF PLS
      generalize wv bs (ms * z) = V3 at TM1 PLS
      obtain ⟨PR, hPR⟩ : ∃ PR, PR = plW bs (ms * z) (decide (cj < 0)) (cj.natAbs * 2 ^ (30 * q)) := ⟨_, rfl⟩
      rw [← hPR] at PLS HSN HBN
      clear hPR hB hmsb
      obtain ⟨nb, nm⟩ := PR
      simp only at PLS HSN HBN
      have HSF := Lib.hid (show sg nb nm = hsum c z 3 (q + 1) by rw [HSN.out, HMZ.out, HSG.out, hcn.out, HS1.out])
      have HBF := Lib.hid (Nat.le_trans HBN.out HBB.out)
      obtain ⟨k30, hk30⟩ : ∃ k30, 30 * q = k30 := ⟨_, rfl⟩
      rw [hk30] at SHF hqs
      clear hk30
      unfold wv at TM1 PLS
      have d0 : wr.cell? ⟨w.heap.size + 1, 0, none⟩ = some (.bool bs) := ZX.out.cell rfl
      have d1 : wr.cell? ⟨w.heap.size + 1, 1, none⟩ = some (.int .u64 ((ms / 18446744073709551616 : Nat) : Int)) := ZX.out.cell rfl
      have d2 : wr.cell? ⟨w.heap.size + 1, 2, none⟩ = some (.int .u64 ((ms % 18446744073709551616 : Nat) : Int)) := ZX.out.cell rfl
      generalize ms / 18446744073709551616 = mh at *
      generalize ms % 18446744073709551616 = ml at *
      obtain ⟨nh, hnh⟩ : ∃ nh, nh = nm / 18446744073709551616 := ⟨_, rfl⟩
      obtain ⟨nl, hnl⟩ : ∃ nl, nl = nm % 18446744073709551616 := ⟨_, rfl⟩
      rw [← hnh, ← hnl] at PLS
      have HNH := Lib.hid hnh
      have HNL := Lib.hid hnl
      clear hnh hnl
      go_upto_region 5 with fail
      have k0 : wr.cell? ⟨w.heap.size, 0, none⟩ = some (.int .i64 (c 0)) := KX.out.cell rfl
      have k1 : wr.cell? ⟨w.heap.size, 1, none⟩ = some (.int .i64 (c 1)) := KX.out.cell rfl
      have k2 : wr.cell? ⟨w.heap.size, 2, none⟩ = some (.int .i64 (c 2)) := KX.out.cell rfl
      have kj := kc
      have ek0 := fun p' : Ext wr => Ext.cell' k0 p'
      have ek1 := fun p' : Ext wr => Ext.cell' k1 p'
      have ek2 := fun p' : Ext wr => Ext.cell' k2 p'
      have ekj := fun p' : Ext wr => Ext.cell' kj p'
      have ed0 := fun p' : Ext wr => Ext.cell' d0 p'
      have ed1 := fun p' : Ext wr => Ext.cell' d1 p'
      have ed2 := fun p' : Ext wr => Ext.cell' d2 p'
      clear k0 k1 k2 kj kc d0 d1 d2
      (refine wp_region_ext_tail 16 (by kernel_rfl) (by kernel_rfl) ?_; simp only [List.take_succ_cons, List.take_zero, List.drop_succ_cons, List.drop_zero]; (repeat (go_big_quiet_step ((first | (go_at_call 46; first | (with_reducible refine Calls.ext_of (TM1.out _)) | (with_reducible refine Calls.ext_of (TM2.out _))) | (go_at_call 48; with_reducible refine Calls.ext_of (SHF.out _)) | (go_at_call 47; with_reducible refine Calls.ext_of (PLS.out _)))))); refine wpQuiet_nil ?_; rintro wq ⟨⟨_, hbq⟩, rfl⟩; obtain ⟨hccq, hffq⟩ := Bw.cells hbq; have hszq := Bw.size hbq)
      replace HX := Lib.hid (HX.out.trans hbq)
      replace KX := Lib.hid (KX.out.bw hbq)
      replace ZX := Lib.hid (ZX.out.bw hbq)
      clear ek0 ek1 ek2 ekj ed0 ed1 ed2 hbq hccq hffq hszq
      have z0 : wq.cell? ⟨w.heap.size + 1, 0, none⟩ = some (.bool bs) := ZX.out.cell rfl
      have z1 : wq.cell? ⟨w.heap.size + 1, 1, none⟩ = some (.int .u64 (mh : Int)) := ZX.out.cell rfl
      have z2 : wq.cell? ⟨w.heap.size + 1, 2, none⟩ = some (.int .u64 (ml : Int)) := ZX.out.cell rfl
      have q0 := ZX.out.frozen 0
      have q1 := ZX.out.frozen 1
      have q2 := ZX.out.frozen 2
      go_wp2
      have NZ := Lib.hid (((ZX.out.set 0 (.bool nb)).set 1 (.int .u64 (nh : Int))).set 2 (.int .u64 (nl : Int)))
      have NK := Lib.hid (((KX.out.set_other (show w.heap.size ≠ w.heap.size + 1 by omega) 0 (.bool nb)).set_other (show w.heap.size ≠ w.heap.size + 1 by omega) 1 (.int .u64 (nh : Int))).set_other (show w.heap.size ≠ w.heap.size + 1 by omega) 2 (.int .u64 (nl : Int)))
      have NW := Lib.hid (Bw.setCell (Bw.setCell (Bw.setCell HX.out (p := ⟨w.heap.size + 1, 0, none⟩) (by simp) (.bool nb)) (p := ⟨w.heap.size + 1, 1, none⟩) (by simp) (.int .u64 (nh : Int))) (p := ⟨w.heap.size + 1, 2, none⟩) (by simp) (.int .u64 (nl : Int)))
      go_roundg j
      case measure => omega
      case rel => exact ⟨j, by omega, by omega, by go_num, nb, nm, Lib.hid (by rw [HNJ.out]; exact HSF.out), Lib.hid (by rw [HNJ.out]; exact HBF.out), NW, NK, Lib.hid (by rw [← HNH.out, ← HNL.out]; simpa using NZ.out)⟩
end Go.Proofs.Sky
