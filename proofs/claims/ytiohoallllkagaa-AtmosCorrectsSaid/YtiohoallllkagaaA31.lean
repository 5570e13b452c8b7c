/-
  lemmas for the theorems of this claim. No conditions beyond those written in the statements.
-/
import Derived.Test.YtiohoallllkagaaProg
import Derived.Test.YtiohoallllkagaaRdAt
import Derived.Deep.Cut
import Derived.Test.YtiohoallllkagaaKit
import Derived.Shelf.Bits.Mul64
import Derived.Shelf.Spec.BitsCarry
set_option linter.unusedVariables false
set_option linter.unusedSimpArgs false
set_option linter.unnecessarySimpa false
namespace Go.Proofs.Sky
open Go Go.RowKit Go.Shelf
set_option maxHeartbeats 2000000
/-! chapter 31: numbers of 128 bits -/
theorem Mul64_any (x y : Nat) (hx : x < 18446744073709551616) (hy : y < 18446744073709551616) (w : World) :
    Calls Try.prog 62 #[.int .u64 x, .int .u64 y] w fun e w' => e = .returned (.tuple #[.int .u64 ((x * y / 18446744073709551616 : Nat) : Int), .int .u64 ((x * y % 18446744073709551616 : Nat) : Int)]) ∧ w' = w := by
  obtain ⟨bd, bt, bw, hhi⟩ := Lib.mul64_hi x y hx hy
  have ba := Lib.half_mul_le (a := x / 4294967296) (b := y / 4294967296) (by omega) (by omega)
  have bb := Lib.half_mul_le (a := x / 4294967296) (b := y % 4294967296) (by omega) (by omega)
  have bc := Lib.half_mul_le (a := x % 4294967296) (b := y / 4294967296) (by omega) (by omega)
  have ba' : x / 4294967296 * (y / 4294967296) < 18446744073709551616 := by omega
  have bb' : x / 4294967296 * (y % 4294967296) < 18446744073709551616 := by omega
  have bc' : x % 4294967296 * (y / 4294967296) < 18446744073709551616 := by omega
  have bh1 : x / 4294967296 * (y / 4294967296) + (x / 4294967296 * (y % 4294967296) + x % 4294967296 * (y % 4294967296) / 4294967296) / 4294967296 < 18446744073709551616 := by omega
  have bh : x / 4294967296 * (y / 4294967296) + (x / 4294967296 * (y % 4294967296) + x % 4294967296 * (y % 4294967296) / 4294967296) / 4294967296 + ((x / 4294967296 * (y % 4294967296) + x % 4294967296 * (y % 4294967296) / 4294967296) % 4294967296 + x % 4294967296 * (y / 4294967296)) / 4294967296 < 18446744073709551616 := by omega
  go_enter Try.func62, Try.ntmps62
  go_wp2
  simp only [Mul64.maskN x hx, Mul64.maskN y hy, Mul64.divN, Mul64.mulN, Mul64.addN, Mul64.wrapN _ bd, Mul64.wrapN _ bb', Mul64.wrapN _ bt, Mul64.maskN _ bt, Mul64.wrapN _ bc', Mul64.wrapN _ bw, Mul64.wrapN _ ba', Mul64.wrapN _ bh1, Mul64.wrapN _ bh, Mul64.wrapM (x * y)]
  rw [hhi]
  go_ret2
  exact ⟨rfl, rfl⟩
theorem run_Add64 (x y c : Nat) (hc : c ≤ 1) (w : World) :
    (callFunc 63 #[.int .u64 x, .int .u64 y, .int .u64 c]).run Try.prog w =
      .ok (.value (.tuple #[.int .u64 (((x + y + c) % 18446744073709551616 : Nat) : Int), .int .u64 (((x + y + c) / 18446744073709551616 : Nat) : Int)])) w := by
  rw [run_callFunc_extern Try.func63 (by kernel_rfl) (by kernel_rfl) (by kernel_rfl) (e := add64Entry) (by kernel_rfl), run_add64 x y c (by omega) (by omega) (by omega) (by omega)]
  simp only [Result.andThen]
  congr 5 <;> omega
theorem run_Sub64 (x y b : Nat) (hb : b ≤ 1) (w : World) :
    (callFunc 64 #[.int .u64 x, .int .u64 y, .int .u64 b]).run Try.prog w =
      .ok (.value (.tuple #[.int .u64 (((x + 18446744073709551616 - y - b) % 18446744073709551616 : Nat) : Int), .int .u64 ((if x < y + b then 1 else 0 : Nat) : Int)])) w := by
  rw [run_callFunc_extern Try.func64 (by kernel_rfl) (by kernel_rfl) (by kernel_rfl) (e := sub64Entry) (by kernel_rfl), run_sub64 x y b hb]
  rfl
def mx2 (x y : Int) : Int := if y > x then y else x
theorem run_mx2 {P : Program} {w : World} (ts : Array TypeId) (t : TypeId) (k k' : IntKind) (x y : Int) : (Builtin.max_ ts t #[.int k x, .int k' y]).run P w = .ok (.int k (mx2 x y)) w := run_max_int2 w ts t k k' x y
theorem mx2_abs (n : Int) : mx2 n (-n) = (n.natAbs : Int) := by unfold mx2; split <;> omega
/-- a number of 128 bits, by its sign and its absolute value -/
def wv (b : Bool) (m : Nat) : Value := .agg #[.bool b, .int .u64 ((m / 18446744073709551616 : Nat) : Int), .int .u64 ((m % 18446744073709551616 : Nat) : Int)]
theorem mul_hi (m k : Nat) (h : m * k < 340282366920938463463374607431768211456) : m % 18446744073709551616 * k / 18446744073709551616 + m / 18446744073709551616 * k = m * k / 18446744073709551616 ∧ m % 18446744073709551616 * k % 18446744073709551616 = m * k % 18446744073709551616 ∧ m / 18446744073709551616 * k < 18446744073709551616 := by
  have e : m * k = m / 18446744073709551616 * k * 18446744073709551616 + m % 18446744073709551616 * k := by
    rw [Nat.mul_right_comm, ← Nat.add_mul, Nat.div_add_mod']
  rw [e] at h ⊢
  generalize m / 18446744073709551616 * k = a at *
  generalize m % 18446744073709551616 * k = c at *
  omega
attribute [-go_sem] run_max_int2
attribute [local go_sem] run_mx2
theorem times_any (b : Bool) (m : Nat) (n : Int) (w : World) (hn : -9000000000000000000 ≤ n ∧ n ≤ 9000000000000000000) (hm : m < 340282366920938463463374607431768211456) (h : m * n.natAbs < 340282366920938463463374607431768211456) :
    Calls Try.prog 46 #[wv b m, .int .i64 n] w fun e w' => e = .returned (wv (b != decide (n < 0)) (m * n.natAbs)) ∧ Bw w w' := by
  unfold wv
  have hmu := mul_hi m n.natAbs h
  obtain ⟨k, hk⟩ : ∃ k, k = n.natAbs := ⟨_, rfl⟩
  have hmx := mx2_abs n
  rw [← hk] at hmu h hmx ⊢
  have hkb : k < 18446744073709551616 := by omega
  have HML := Lib.hid (fun W => Mul64_any (m % 18446744073709551616) k (by omega) hkb W)
  obtain ⟨hi, hhi⟩ : ∃ hi, hi = m / 18446744073709551616 := ⟨_, rfl⟩
  obtain ⟨lo, hlo⟩ : ∃ lo, lo = m % 18446744073709551616 := ⟨_, rfl⟩
  rw [← hhi, ← hlo] at hmu ⊢
  rw [← hlo] at HML
  have hib : hi < 18446744073709551616 := by omega
  obtain ⟨p, hp⟩ : ∃ p, p = hi * k := ⟨_, rfl⟩
  have hpz : (hi : Int) * (k : Int) = (p : Int) := by rw [hp, Int.natCast_mul]
  rw [← hp] at hmu
  obtain ⟨q, hq⟩ : ∃ q, q = lo * k / 18446744073709551616 := ⟨_, rfl⟩
  obtain ⟨r, hr⟩ : ∃ r, r = lo * k % 18446744073709551616 := ⟨_, rfl⟩
  rw [← hq, ← hr] at HML hmu
  obtain ⟨H, hH⟩ : ∃ H, H = m * k / 18446744073709551616 := ⟨_, rfl⟩
  obtain ⟨L, hL⟩ : ∃ L, L = m * k % 18446744073709551616 := ⟨_, rfl⟩
  have hH64 : H < 18446744073709551616 := by rw [hH]; omega
  rw [← hH, ← hL] at hmu ⊢
  obtain ⟨m1, rfl, m3⟩ := hmu
  have hqp : (q : Int) + (p : Int) = (H : Int) := by omega
  clear hp hq hr hH hL hhi hlo hk h hm
  cases b
  · by_cases hn0 : n < 0
    · rw [show (false != decide (n < 0)) = true by simp [hn0]]
      have HBW := Lib.hid (Bw.alloc (Bw.alloc (Bw.refl w) (.cells #[.bool false, .int .u64 (hi : Int), .int .u64 (lo : Int)] 80)) (.cells #[.bool false, .int .u64 0, .int .u64 0] 80))
      have KX := Lib.hid ((Blk.new w 80 #[.bool false, .int .u64 (hi : Int), .int .u64 (lo : Int)]).alloc (.cells #[.bool false, .int .u64 0, .int .u64 0] 80))
      have ZX : Hid (Blk ((w.alloc (.cells #[.bool false, .int .u64 (hi : Int), .int .u64 (lo : Int)] 80)).alloc (.cells #[.bool false, .int .u64 0, .int .u64 0] 80)) (w.heap.size + 1) 80 #[.bool false, .int .u64 0, .int .u64 0]) := Lib.hid (by have h9 := Blk.new (w.alloc (.cells #[.bool false, .int .u64 (hi : Int), .int .u64 (lo : Int)] 80)) 80 #[.bool false, .int .u64 0, .int .u64 0]; simpa using h9)
      go_enter Try.func46, Try.ntmps46
      go_upto_region 1 with fail
      obtain ⟨W0, hW0⟩ : ∃ W0, ((w.alloc (.cells #[.bool false, .int .u64 (hi : Int), .int .u64 (lo : Int)] 80)).alloc (.cells #[.bool false, .int .u64 0, .int .u64 0] 80)) = W0 := ⟨_, rfl⟩
      rw [hW0] at HBW KX ZX ⊢
      clear hW0
      have k0 : W0.cell? ⟨w.heap.size, 0, none⟩ = some (.bool false) := KX.out.cell rfl
      have k1 : W0.cell? ⟨w.heap.size, 1, none⟩ = some (.int .u64 (hi : Int)) := KX.out.cell rfl
      have k2 : W0.cell? ⟨w.heap.size, 2, none⟩ = some (.int .u64 (lo : Int)) := KX.out.cell rfl
      have z0 : W0.cell? ⟨w.heap.size + 1, 0, none⟩ = some (.bool false) := ZX.out.cell rfl
      have z1 : W0.cell? ⟨w.heap.size + 1, 1, none⟩ = some (.int .u64 0) := ZX.out.cell rfl
      have z2 : W0.cell? ⟨w.heap.size + 1, 2, none⟩ = some (.int .u64 0) := ZX.out.cell rfl
      have q0 := ZX.out.frozen 0
      have q1 := ZX.out.frozen 1
      have q2 := ZX.out.frozen 2
      go_wp2_with (go_at_call 62; (with_reducible refine Calls.mono (HML.out _) ?_); rintro e1 w1 ⟨rfl, hw1⟩; subst hw1)
      have B9 := ((ZX.out.set 0 (.bool true)).set 1 (.int .u64 (H : Int))).set 2 (.int .u64 (r : Int))
      have m0 := B9.cell (j := 0) rfl
      have m1 := B9.cell (j := 1) rfl
      have m2 := B9.cell (j := 2) rfl
      have hdn : decide (n < 0) = true := decide_eq_true (by omega)
      refine bodyPost_ret (v := .agg #[.bool true, .int .u64 (H : Int), .int .u64 (r : Int)]) ?_ rfl ⟨rfl, Bw.setCell (Bw.setCell (Bw.setCell HBW.out (p := ⟨w.heap.size + 1, 0, none⟩) (by simp) _) (p := ⟨w.heap.size + 1, 1, none⟩) (by simp) _) (p := ⟨w.heap.size + 1, 2, none⟩) (by simp) _⟩
      simp [results, Try.results46, go_sem, m0, m1, m2, hdn]
    · rw [show (false != decide (n < 0)) = false by simp [hn0]]
      have HBW := Lib.hid (Bw.alloc (Bw.alloc (Bw.refl w) (.cells #[.bool false, .int .u64 (hi : Int), .int .u64 (lo : Int)] 80)) (.cells #[.bool false, .int .u64 0, .int .u64 0] 80))
      have KX := Lib.hid ((Blk.new w 80 #[.bool false, .int .u64 (hi : Int), .int .u64 (lo : Int)]).alloc (.cells #[.bool false, .int .u64 0, .int .u64 0] 80))
      have ZX : Hid (Blk ((w.alloc (.cells #[.bool false, .int .u64 (hi : Int), .int .u64 (lo : Int)] 80)).alloc (.cells #[.bool false, .int .u64 0, .int .u64 0] 80)) (w.heap.size + 1) 80 #[.bool false, .int .u64 0, .int .u64 0]) := Lib.hid (by have h9 := Blk.new (w.alloc (.cells #[.bool false, .int .u64 (hi : Int), .int .u64 (lo : Int)] 80)) 80 #[.bool false, .int .u64 0, .int .u64 0]; simpa using h9)
      go_enter Try.func46, Try.ntmps46
      go_upto_region 1 with fail
      obtain ⟨W0, hW0⟩ : ∃ W0, ((w.alloc (.cells #[.bool false, .int .u64 (hi : Int), .int .u64 (lo : Int)] 80)).alloc (.cells #[.bool false, .int .u64 0, .int .u64 0] 80)) = W0 := ⟨_, rfl⟩
      rw [hW0] at HBW KX ZX ⊢
      clear hW0
      have k0 : W0.cell? ⟨w.heap.size, 0, none⟩ = some (.bool false) := KX.out.cell rfl
      have k1 : W0.cell? ⟨w.heap.size, 1, none⟩ = some (.int .u64 (hi : Int)) := KX.out.cell rfl
      have k2 : W0.cell? ⟨w.heap.size, 2, none⟩ = some (.int .u64 (lo : Int)) := KX.out.cell rfl
      have z0 : W0.cell? ⟨w.heap.size + 1, 0, none⟩ = some (.bool false) := ZX.out.cell rfl
      have z1 : W0.cell? ⟨w.heap.size + 1, 1, none⟩ = some (.int .u64 0) := ZX.out.cell rfl
      have z2 : W0.cell? ⟨w.heap.size + 1, 2, none⟩ = some (.int .u64 0) := ZX.out.cell rfl
      have q0 := ZX.out.frozen 0
      have q1 := ZX.out.frozen 1
      have q2 := ZX.out.frozen 2
      go_wp2_with (go_at_call 62; (with_reducible refine Calls.mono (HML.out _) ?_); rintro e1 w1 ⟨rfl, hw1⟩; subst hw1)
      have B9 := ((ZX.out.set 0 (.bool false)).set 1 (.int .u64 (H : Int))).set 2 (.int .u64 (r : Int))
      have m0 := B9.cell (j := 0) rfl
      have m1 := B9.cell (j := 1) rfl
      have m2 := B9.cell (j := 2) rfl
      have hdn : decide (n < 0) = false := decide_eq_false (by omega)
      refine bodyPost_ret (v := .agg #[.bool false, .int .u64 (H : Int), .int .u64 (r : Int)]) ?_ rfl ⟨rfl, Bw.setCell (Bw.setCell (Bw.setCell HBW.out (p := ⟨w.heap.size + 1, 0, none⟩) (by simp) _) (p := ⟨w.heap.size + 1, 1, none⟩) (by simp) _) (p := ⟨w.heap.size + 1, 2, none⟩) (by simp) _⟩
      simp [results, Try.results46, go_sem, m0, m1, m2, hdn]
  · by_cases hn0 : n < 0
    · rw [show (true != decide (n < 0)) = false by simp [hn0]]
      have HBW := Lib.hid (Bw.alloc (Bw.alloc (Bw.refl w) (.cells #[.bool true, .int .u64 (hi : Int), .int .u64 (lo : Int)] 80)) (.cells #[.bool false, .int .u64 0, .int .u64 0] 80))
      have KX := Lib.hid ((Blk.new w 80 #[.bool true, .int .u64 (hi : Int), .int .u64 (lo : Int)]).alloc (.cells #[.bool false, .int .u64 0, .int .u64 0] 80))
      have ZX : Hid (Blk ((w.alloc (.cells #[.bool true, .int .u64 (hi : Int), .int .u64 (lo : Int)] 80)).alloc (.cells #[.bool false, .int .u64 0, .int .u64 0] 80)) (w.heap.size + 1) 80 #[.bool false, .int .u64 0, .int .u64 0]) := Lib.hid (by have h9 := Blk.new (w.alloc (.cells #[.bool true, .int .u64 (hi : Int), .int .u64 (lo : Int)] 80)) 80 #[.bool false, .int .u64 0, .int .u64 0]; simpa using h9)
      go_enter Try.func46, Try.ntmps46
      go_upto_region 1 with fail
      obtain ⟨W0, hW0⟩ : ∃ W0, ((w.alloc (.cells #[.bool true, .int .u64 (hi : Int), .int .u64 (lo : Int)] 80)).alloc (.cells #[.bool false, .int .u64 0, .int .u64 0] 80)) = W0 := ⟨_, rfl⟩
      rw [hW0] at HBW KX ZX ⊢
      clear hW0
      have k0 : W0.cell? ⟨w.heap.size, 0, none⟩ = some (.bool true) := KX.out.cell rfl
      have k1 : W0.cell? ⟨w.heap.size, 1, none⟩ = some (.int .u64 (hi : Int)) := KX.out.cell rfl
      have k2 : W0.cell? ⟨w.heap.size, 2, none⟩ = some (.int .u64 (lo : Int)) := KX.out.cell rfl
      have z0 : W0.cell? ⟨w.heap.size + 1, 0, none⟩ = some (.bool false) := ZX.out.cell rfl
      have z1 : W0.cell? ⟨w.heap.size + 1, 1, none⟩ = some (.int .u64 0) := ZX.out.cell rfl
      have z2 : W0.cell? ⟨w.heap.size + 1, 2, none⟩ = some (.int .u64 0) := ZX.out.cell rfl
      have q0 := ZX.out.frozen 0
      have q1 := ZX.out.frozen 1
      have q2 := ZX.out.frozen 2
      go_wp2_with (go_at_call 62; (with_reducible refine Calls.mono (HML.out _) ?_); rintro e1 w1 ⟨rfl, hw1⟩; subst hw1)
      have B9 := ((ZX.out.set 0 (.bool false)).set 1 (.int .u64 (H : Int))).set 2 (.int .u64 (r : Int))
      have m0 := B9.cell (j := 0) rfl
      have m1 := B9.cell (j := 1) rfl
      have m2 := B9.cell (j := 2) rfl
      have hdn : decide (n < 0) = true := decide_eq_true (by omega)
      refine bodyPost_ret (v := .agg #[.bool false, .int .u64 (H : Int), .int .u64 (r : Int)]) ?_ rfl ⟨rfl, Bw.setCell (Bw.setCell (Bw.setCell HBW.out (p := ⟨w.heap.size + 1, 0, none⟩) (by simp) _) (p := ⟨w.heap.size + 1, 1, none⟩) (by simp) _) (p := ⟨w.heap.size + 1, 2, none⟩) (by simp) _⟩
      simp [results, Try.results46, go_sem, m0, m1, m2, hdn]
    · rw [show (true != decide (n < 0)) = true by simp [hn0]]
      have HBW := Lib.hid (Bw.alloc (Bw.alloc (Bw.refl w) (.cells #[.bool true, .int .u64 (hi : Int), .int .u64 (lo : Int)] 80)) (.cells #[.bool false, .int .u64 0, .int .u64 0] 80))
      have KX := Lib.hid ((Blk.new w 80 #[.bool true, .int .u64 (hi : Int), .int .u64 (lo : Int)]).alloc (.cells #[.bool false, .int .u64 0, .int .u64 0] 80))
      have ZX : Hid (Blk ((w.alloc (.cells #[.bool true, .int .u64 (hi : Int), .int .u64 (lo : Int)] 80)).alloc (.cells #[.bool false, .int .u64 0, .int .u64 0] 80)) (w.heap.size + 1) 80 #[.bool false, .int .u64 0, .int .u64 0]) := Lib.hid (by have h9 := Blk.new (w.alloc (.cells #[.bool true, .int .u64 (hi : Int), .int .u64 (lo : Int)] 80)) 80 #[.bool false, .int .u64 0, .int .u64 0]; simpa using h9)
      go_enter Try.func46, Try.ntmps46
      go_upto_region 1 with fail
      obtain ⟨W0, hW0⟩ : ∃ W0, ((w.alloc (.cells #[.bool true, .int .u64 (hi : Int), .int .u64 (lo : Int)] 80)).alloc (.cells #[.bool false, .int .u64 0, .int .u64 0] 80)) = W0 := ⟨_, rfl⟩
      rw [hW0] at HBW KX ZX ⊢
      clear hW0
      have k0 : W0.cell? ⟨w.heap.size, 0, none⟩ = some (.bool true) := KX.out.cell rfl
      have k1 : W0.cell? ⟨w.heap.size, 1, none⟩ = some (.int .u64 (hi : Int)) := KX.out.cell rfl
      have k2 : W0.cell? ⟨w.heap.size, 2, none⟩ = some (.int .u64 (lo : Int)) := KX.out.cell rfl
      have z0 : W0.cell? ⟨w.heap.size + 1, 0, none⟩ = some (.bool false) := ZX.out.cell rfl
      have z1 : W0.cell? ⟨w.heap.size + 1, 1, none⟩ = some (.int .u64 0) := ZX.out.cell rfl
      have z2 : W0.cell? ⟨w.heap.size + 1, 2, none⟩ = some (.int .u64 0) := ZX.out.cell rfl
      have q0 := ZX.out.frozen 0
      have q1 := ZX.out.frozen 1
      have q2 := ZX.out.frozen 2
      go_wp2_with (go_at_call 62; (with_reducible refine Calls.mono (HML.out _) ?_); rintro e1 w1 ⟨rfl, hw1⟩; subst hw1)
      have B9 := ((ZX.out.set 0 (.bool true)).set 1 (.int .u64 (H : Int))).set 2 (.int .u64 (r : Int))
      have m0 := B9.cell (j := 0) rfl
      have m1 := B9.cell (j := 1) rfl
      have m2 := B9.cell (j := 2) rfl
      have hdn : decide (n < 0) = false := decide_eq_false (by omega)
      refine bodyPost_ret (v := .agg #[.bool true, .int .u64 (H : Int), .int .u64 (r : Int)]) ?_ rfl ⟨rfl, Bw.setCell (Bw.setCell (Bw.setCell HBW.out (p := ⟨w.heap.size + 1, 0, none⟩) (by simp) _) (p := ⟨w.heap.size + 1, 1, none⟩) (by simp) _) (p := ⟨w.heap.size + 1, 2, none⟩) (by simp) _⟩
      simp [results, Try.results46, go_sem, m0, m1, m2, hdn]
end Go.Proofs.Sky
