/-
  lemmas for the theorems of this claim. No conditions beyond those written in the statements.
-/
import Derived.Test.YtpmopobjlpfdaaaDoorM25
import Derived.Deep.RegionWith
import Derived.Deep.Cut
import Derived.Test.YtpmopobjlpfdaaaDoorBlkC
import Derived.Test.YtpmopobjlpfdaaaDoorP25L
set_option linter.unusedVariables false
set_option linter.unusedSimpArgs false
set_option linter.unnecessarySimpa false
namespace Go.Proofs.Sky
open Go Go.RowKit Go.Shelf
set_option maxHeartbeats 1000000
theorem makeInt (n : Nat) (hn : n ≤ 1048576) (w : World) : (Instr.makeSlice 34 (.int .i64 n) (.int .i64 n)).run Tryd.prog w = .ok (.slice (some ⟨w.heap.size, 0, none⟩) n n) (w.alloc (.cells (madeCells #[.int .i64 0] (n * 1)) 3)) := by
  obtain ⟨i, hi, hzz⟩ := Option.map_eq_some_iff.1 infoInt
  simp only [Prod.mk.injEq] at hzz
  obtain ⟨hz, hs, hb⟩ := hzz
  have h := run_make (P := Tryd.prog) w 34 3 i _ Tryd.underlying34 hi hz .i64 .i64 n n (by omega) (by omega) (by rw [hb]; omega) (by omega)
  simpa [hs, Value.cells] using h
theorem made1 (z : Value) (n : Nat) : (madeCells #[z] (n * 1)).toList = List.replicate n z := by
  apply List.ext_getElem?
  intro j
  by_cases hj : j < n
  · simp [madeCells, hj, Nat.mod_one]
  · simp [madeCells, hj]
theorem rdI_made (n : Nat) (hn : n ≤ 1048576) (w : World) : RdI (w.alloc (.cells (madeCells #[.int .i64 0] (n * 1)) 3)) (.slice (some ⟨w.heap.size, 0, none⟩) n n) (List.replicate n 0) := by
  have h := RdI.lit w (madeCells #[.int .i64 0] (n * 1)) 3 (List.replicate n 0) (by rw [made1]; simp) (by simp; omega)
  simpa using h
def PutOk (base : Nat) (l : List Int) (e : Ending) (w' : World) : Prop := ∃ v', e = .returned (.tuple #[v', .int .i64 0]) ∧ RdI w' v' l ∧ Fresh base v'
theorem Limits_ok (a n : Int) (g : Bool) (u c lo hi : Int) (w : World) (h : fk a n u c) (h1 : c + lowR n g * u = lo) (h2 : c + highR n g * u = hi) : Calls Tryd.prog 57 #[.agg #[.int .i64 a, .int .i64 n, .bool g, .int .i64 u, .int .i64 c]] w fun e w' => e = .returned (.tuple #[.int .i64 lo, .int .i64 hi, .int .i64 0]) ∧ Bw w w' := by
  have := Limits_any a n g u c w
  rw [limP_ok h, h1, h2] at this
  exact this
theorem alike_same (xs : List Int) (v1 v2 : Value) (w : World) (h1 : RdI w v1 xs) (h2 : RdI w v2 xs) : Calls Tryd.prog 13 #[v1, v2] w fun e w' => e = .returned (.bool true) ∧ Bw w w' := by
  have := alike_any xs xs v1 v2 w h1 h2
  simpa using this
end Go.Proofs.Sky

namespace Go.Proofs.Sky
/-- the number from 0 to k-1 that any number selects -/
def bel (n k : Int) : Int := if k < 1 then 0 else n % k
theorem bel_bd (n k : Int) (h : 1 ≤ k) : 0 ≤ bel n k ∧ bel n k < k := by
  unfold bel; rw [if_neg (by omega)]
  exact ⟨Int.emod_nonneg _ (by omega), Int.emod_lt_of_pos _ (by omega)⟩
def nth (zs : List Int) (i : Int) : Int := if i < 0 ∨ (zs.length : Int) ≤ i then 0 else zs.getD i.toNat 0
theorem tmod_way (n k : Int) (h : 1 ≤ k) : ∃ r, n.tmod k = r ∧ -k < r ∧ r < k ∧ ((r < 0 ∧ n % k = r + k) ∨ (0 ≤ r ∧ n % k = r)) := by
  refine ⟨n.tmod k, rfl, ?_⟩
  have a := Int.emod_nonneg n (show k ≠ 0 by omega)
  have b := Int.emod_lt_of_pos n (show 0 < k by omega)
  by_cases hn : 0 ≤ n
  · rw [Int.tmod_eq_emod_of_nonneg hn]; exact ⟨by omega, by omega, .inr ⟨a, rfl⟩⟩
  · have e : n.tmod k = -((-n) % k) := by
      have := Int.neg_tmod (-n) k; rw [Int.neg_neg] at this; rw [this, Int.tmod_eq_emod_of_nonneg (by omega)]
    have c := Int.emod_nonneg (-n) (show k ≠ 0 by omega)
    have d := Int.emod_lt_of_pos (-n) (show 0 < k by omega)
    have f := Int.mul_ediv_add_emod (-n) k
    have g := Int.mul_ediv_add_emod n k
    rw [e]
    refine ⟨by omega, by omega, ?_⟩
    by_cases hz : (-n) % k = 0
    · right
      refine ⟨by omega, ?_⟩
      have : k ∣ n := by have := Int.dvd_of_emod_eq_zero hz; exact (Int.dvd_neg).1 this
      rw [Int.emod_eq_zero_of_dvd this, hz]; rfl
    · left
      refine ⟨by omega, ?_⟩
      have h1 : n = k * (-((-n) / k) - 1) + (k - (-n) % k) := by rw [Int.mul_sub, Int.mul_neg]; omega
      have h2 : n % k = (k - (-n) % k) % k := by
        conv => lhs; rw [h1]
        rw [Int.add_comm, Int.add_mul_emod_self_left]
      rw [h2, Int.emod_eq_of_lt (by omega) (by omega)]; omega
end Go.Proofs.Sky

namespace Go.Proofs.Sky
open Go Go.RowKit
/-- all but one block is kept -/
structure Kx (g : Nat) (w w' : World) : Prop where
  b : Below g w w'
  oth : ∀ b, b < w.heap.size → b ≠ g → w'.heap[b]? = w.heap[b]?
theorem Kx.size {g : Nat} {w w' : World} (h : Kx g w w') : w.heap.size ≤ w'.heap.size := Below.size h.b
theorem Kx.of_bw {g : Nat} {w w' : World} (h : Bw w w') (hg : g ≤ w.heap.size) : Kx g w w' := ⟨Below.mono h hg, fun b hb _ => h.out.block b hb⟩
theorem Kx.trans {g : Nat} {a b c : World} (h : Kx g a b) (k : Kx g b c) : Kx g a c :=
  ⟨Below.trans h.b k.b, fun x hx hn => (k.oth x (Nat.lt_of_lt_of_le hx h.size) hn).trans (h.oth x hx hn)⟩
theorem Kx.blk {g b : Nat} {w w' : World} {T : TypeId} {cs : Array Value} (h : Kx g w w') (hB : Blk w b T cs) (hn : b ≠ g) : Blk w' b T cs := (h.oth b hB.lt hn).trans hB
theorem Kx.bw {g : Nat} {a w w' : World} (h : Kx g w w') (hb : Bw a w) (hg : a.heap.size ≤ g) : Bw a w' := Below.trans hb (Below.mono h.b hg)
theorem Kx.set {g j : Nat} {w : World} (hg : g < w.heap.size) (v : Value) : Kx g w (w.setCell ⟨g, j, none⟩ v) :=
  ⟨Below.setCell (p := ⟨g, j, none⟩) (Below.refl g w) (Nat.le_refl g) v, fun b _ hn => heap_setCell_other w ⟨g, j, none⟩ b v (by simpa using hn)⟩
theorem Kx.rdI {g base : Nat} {w w' : World} {v : Value} {zs : List Int} (h : Kx g w w') (hr : RdI w v zs) (hf : Fresh base v) (hg : g < base) : RdI w' v zs := by
  obtain ⟨h2, a, cap, rfl, h4⟩ := hr
  refine ⟨h2, a, cap, rfl, ?_⟩
  rcases h4 with h4 | ⟨b', off, rfl, h6, h7⟩
  · exact .inl h4
  · have := hf b' rfl
    refine .inr ⟨b', off, rfl, Nat.lt_of_lt_of_le h6 h.size, fun i hi => ?_⟩
    rw [World.cell?_of_block (h.oth b' h6 (by omega))]; exact h7 i hi
end Go.Proofs.Sky
