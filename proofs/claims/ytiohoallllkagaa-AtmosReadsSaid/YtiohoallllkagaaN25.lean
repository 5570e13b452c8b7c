/-
  lemmas for the theorems of this claim. No conditions beyond those written in the statements.
-/
import Derived.Test.YtiohoallllkagaaM25
import Derived.Deep.RegionWith
import Derived.Deep.Cut
set_option linter.unusedVariables false
set_option linter.unusedSimpArgs false
set_option linter.unnecessarySimpa false
namespace Go.Proofs.Sky
open Go Go.RowKit Go.Shelf
set_option maxHeartbeats 1000000
theorem makeInt (n : Nat) (hn : n ≤ 1048576) (w : World) : (Instr.makeSlice 36 (.int .i64 n) (.int .i64 n)).run Try.prog w = .ok (.slice (some ⟨w.heap.size, 0, none⟩) n n) (w.alloc (.cells (madeCells #[.int .i64 0] (n * 1)) 3)) := by
  obtain ⟨i, hi, hzz⟩ := Option.map_eq_some_iff.1 infoInt
  simp only [Prod.mk.injEq] at hzz
  obtain ⟨hz, hs, hb⟩ := hzz
  have h := run_make (P := Try.prog) w 36 3 i _ Try.underlying36 hi hz .i64 .i64 n n (by omega) (by omega) (by rw [hb]; omega) (by omega)
  simpa [hs, Value.cells] using h
theorem made1 (z : Value) (n : Nat) : (madeCells #[z] (n * 1)).toList = List.replicate n z := by
  apply List.ext_getElem?
  intro j
  by_cases hj : j < n
  · simp [madeCells, hj, Nat.mod_one]
  · simp [madeCells, hj]
theorem rdI_made (n : Nat) (hn : n ≤ 1048576) (w : World) : RdI (w.alloc (.cells (madeCells #[.int .i64 0] (n * 1)) 3)) (.slice (some ⟨w.heap.size, 0, none⟩) n n) (List.replicate n 0) := by
  have h := RdI.lit w (madeCells #[.int .i64 0] (n * 1)) 3 (List.replicate n 0) (by rw [made1]; simp) (by simp; omega)
  simpa using h
def PutOk (base : Nat) (l : List Int) (e : Ending) (w' : World) : Prop := ∃ v', e = .returned (.tuple #[v', .int .i64 0]) ∧ RdI w' v' l ∧ Fresh base v'
theorem Get_ok (zs : List Int) (v : Value) (a n : Int) (g : Bool) (u c x : Int) (w : World) (hv : RdI w v zs) (h1 : errT zs a n u c = 0) (h2 : getV zs a.toNat n.toNat g u c = x) : Calls Try.prog 60 #[v, .agg #[.int .i64 a, .int .i64 n, .bool g, .int .i64 u, .int .i64 c]] w fun e w' => e = .returned (.tuple #[.int .i64 x, .int .i64 0]) ∧ Bw w w' := by
  have := Get_any zs v a n g u c w hv
  unfold GetP getR at this
  rw [h1, if_pos rfl, h2] at this
  exact this
theorem alike_same (xs : List Int) (v1 v2 : Value) (w : World) (h1 : RdI w v1 xs) (h2 : RdI w v2 xs) : Calls Try.prog 22 #[v1, v2] w fun e w' => e = .returned (.bool true) ∧ Bw w w' := by
  have := alike_any xs xs v1 v2 w h1 h2
  simpa using this
end Go.Proofs.Sky
