/-
  lemmas for the theorems of this claim. No conditions beyond those written in the statements.
-/
import Derived.Test.YtcbkjfakedngbaaM25
import Derived.Deep.RegionWith
import Derived.Deep.Cut
set_option linter.unusedVariables false
set_option linter.unusedSimpArgs false
set_option linter.unnecessarySimpa false
namespace Go.Proofs.Sky
open Go Go.RowKit Go.Shelf
set_option maxHeartbeats 1000000
theorem plain_any (a n : Int) (g : Bool) (w : World) : Calls Try.prog 30 #[.int .i64 a, .int .i64 n, .bool g] w fun e w' => e = .returned (.agg #[.int .i64 a, .int .i64 n, .bool g, .int .i64 1, .int .i64 0]) ∧ Bw w w' := by
  go_enter Try.func30, Try.ntmps30
  go_wp2
  exact bodyPost_ret (v := .agg #[.int .i64 a, .int .i64 n, .bool g, .int .i64 1, .int .i64 0]) (by simp [results, Try.results30, go_sem]) rfl ⟨rfl, (by repeat (first | exact Bw.refl _ | assumption | refine Bw.alloc ?_ _ | refine Bw.drew ?_ | refine Bw.trans ?_ (by assumption) | refine Bw.setCell ?_ (by simp; try omega) _))⟩
theorem makeInt (n : Nat) (hn : n ≤ 1048576) (w : World) : (Instr.makeSlice 22 (.int .i64 n) (.int .i64 n)).run Try.prog w = .ok (.slice (some ⟨w.heap.size, 0, none⟩) n n) (w.alloc (.cells (madeCells #[.int .i64 0] (n * 1)) 3)) := by
  obtain ⟨i, hi, hzz⟩ := Option.map_eq_some_iff.1 infoInt
  simp only [Prod.mk.injEq] at hzz
  obtain ⟨hz, hs, hb⟩ := hzz
  have h := run_make (P := Try.prog) w 22 3 i _ Try.underlying22 hi hz .i64 .i64 n n (by omega) (by omega) (by rw [hb]; omega) (by omega)
  simpa [hs, Value.cells] using h
theorem made1 (z : Value) (n : Nat) : (madeCells #[z] (n * 1)).toList = List.replicate n z := by
  apply List.ext_getElem?
  intro j
  by_cases hj : j < n
  · simp [madeCells, hj, Nat.mod_one]
  · simp [madeCells, hj]
theorem rdI_made (n : Nat) (hn : n ≤ 1048576) (w : World) : RdI (w.alloc (.cells (madeCells #[.int .i64 0] (n * 1)) 3)) (.slice (some ⟨w.heap.size, 0, none⟩) n n) (List.replicate n 0) := by
  have h := RdI.lit w (madeCells #[.int .i64 0] (n * 1)) 3 (List.replicate n 0) (by rw [made1]; simp) (by simp; omega)
  simpa using h
def PutOk (base : Nat) (l : List Int) (e : Ending) (w' : World) : Prop := ∃ v', e = .returned (.tuple #[v', .int .i64 0]) ∧ RdI w' v' l ∧ Fresh base v'
theorem Put_ok (zs l : List Int) (v : Value) (a n : Int) (g : Bool) (u c x : Int) (w : World) (hv : RdI w v zs) (hn : zs.length ≤ 1048576) (h1 : errP zs a n g u c x = 0) (h2 : putR zs a n g u c x = l) : Calls Try.prog 12 #[v, .agg #[.int .i64 a, .int .i64 n, .bool g, .int .i64 u, .int .i64 c], .int .i64 x] w fun e w' => PutOk w.heap.size l e w' ∧ Bw w w' := by
  have := Put_any zs v a n g u c x w hv hn
  unfold PutP at this
  rw [h1, h2] at this
  exact this
theorem Get_ok (zs : List Int) (v : Value) (a n : Int) (g : Bool) (u c x : Int) (w : World) (hv : RdI w v zs) (h1 : errT zs a n u c = 0) (h2 : getV zs a.toNat n.toNat g u c = x) : Calls Try.prog 14 #[v, .agg #[.int .i64 a, .int .i64 n, .bool g, .int .i64 u, .int .i64 c]] w fun e w' => e = .returned (.tuple #[.int .i64 x, .int .i64 0]) ∧ Bw w w' := by
  have := Get_any zs v a n g u c w hv
  unfold GetP getR at this
  rw [h1, if_pos rfl, h2] at this
  exact this
theorem Limits_ok (a n : Int) (g : Bool) (u c lo hi : Int) (w : World) (h : fk a n u c) (h1 : c + lowR n g * u = lo) (h2 : c + highR n g * u = hi) : Calls Try.prog 10 #[.agg #[.int .i64 a, .int .i64 n, .bool g, .int .i64 u, .int .i64 c]] w fun e w' => e = .returned (.tuple #[.int .i64 lo, .int .i64 hi, .int .i64 0]) ∧ Bw w w' := by
  have := Limits_any a n g u c w
  rw [limP_ok h, h1, h2] at this
  exact this
theorem alike_same (xs : List Int) (v1 v2 : Value) (w : World) (h1 : RdI w v1 xs) (h2 : RdI w v2 xs) : Calls Try.prog 18 #[v1, v2] w fun e w' => e = .returned (.bool true) ∧ Bw w w' := by
  have := alike_any xs xs v1 v2 w h1 h2
  simpa using this
theorem awake_any (w : World) : Calls Try.prog 9 #[] w fun e w' => e = .returned (.bool true) ∧ Bw w w' := by
  have hmk := fun w => makeInt 5 (by decide) w
  simp only [Int.cast_ofNat_Int] at hmk
  have HM := Lib.hid (fun w => rdI_made 5 (by decide) w)
  have HPC := Lib.hid (fun v w hv => Put_ok (List.replicate 5 0) [0, 1, 1, 1, 0] v 1 3 true 1 0 (-1) w hv (by decide) (by decide +kernel) (by decide +kernel))
  have HGC := Lib.hid (fun v w hv => Get_ok [1, 0, 1] v 0 3 true 1 0 (-3) w hv (by decide +kernel) (by decide +kernel))
  have HLC := Lib.hid (fun w => Limits_ok 2 4 true 10 5 (-75) 75 w (by unfold fk; decide) (by decide +kernel) (by decide +kernel))
  go_enter Try.func9, Try.ntmps9
  go_wp2
  go_region_with (first | (go_at_call 30; refine (plain_any _ _ _ _).mono ?_; rintro e w' ⟨rfl, hb⟩; obtain ⟨hcc, hff⟩ := Bw.cells hb; have hsz := Bw.size hb) | (go_at_call 12; refine (HPC.out _ _ (by first | exact (HM.out w.drew).mono (by assumption) | exact HM.out _)).mono ?_; rintro e w2 ⟨⟨v', rfl, hr, hfr⟩, hb2⟩; obtain ⟨a', c', rfl⟩ := hr.form; have HR := Lib.hid hr; clear hr hfr))
  all_goals (have HBW := Lib.hid (show Bw w w2 from (by repeat (first | exact Bw.refl _ | assumption | refine Bw.alloc ?_ _ | refine Bw.drew ?_ | refine Bw.trans ?_ (by assumption) | refine Bw.setCell ?_ (by simp; try omega) _))); clear hb hb2 hcc hff; go_wp2_with (first | (go_at_call 30; refine (plain_any _ _ _ _).mono ?_; rintro e w' ⟨rfl, hb⟩; obtain ⟨hcc, hff⟩ := Bw.cells hb; have hsz := Bw.size hb; try (have hz0 : w.heap.size < w'.heap.size := by (try simp at hsz); omega); try (have hz1 : w.heap.size + 1 < w'.heap.size := by (try simp at hsz); omega); try (have hz2 : w.heap.size + 1 + 1 < w'.heap.size := by (try simp at hsz); omega); try (have hz3 : w.heap.size + 1 + 1 + 1 < w'.heap.size := by (try simp at hsz); omega); try (have hz4 : w.heap.size + 1 + 1 + 1 + 1 < w'.heap.size := by (try simp at hsz); omega); try (have hzr : wr.heap.size < w'.heap.size := by (try simp at hsz); omega); try (have hzr1 : wr.heap.size + 1 < w'.heap.size := by (try simp at hsz); omega)) | (go_at_call 14; refine (HGC.out _ _ ((RdI.lit _ #[.int .i64 1, .int .i64 0, .int .i64 1] 3 [1, 0, 1] rfl (by decide)).mono (by assumption))).mono ?_; rintro e w' ⟨rfl, hb⟩; obtain ⟨hcc, hff⟩ := Bw.cells hb; have hsz := Bw.size hb; try (have hz0 : w.heap.size < w'.heap.size := by (try simp at hsz); omega); try (have hz1 : w.heap.size + 1 < w'.heap.size := by (try simp at hsz); omega); try (have hz2 : w.heap.size + 1 + 1 < w'.heap.size := by (try simp at hsz); omega); try (have hz3 : w.heap.size + 1 + 1 + 1 < w'.heap.size := by (try simp at hsz); omega); try (have hz4 : w.heap.size + 1 + 1 + 1 + 1 < w'.heap.size := by (try simp at hsz); omega); try (have hzr : wr.heap.size < w'.heap.size := by (try simp at hsz); omega); try (have hzr1 : wr.heap.size + 1 < w'.heap.size := by (try simp at hsz); omega)) | (go_at_call 10; refine (HLC.out _).mono ?_; rintro e w' ⟨rfl, hb⟩; obtain ⟨hcc, hff⟩ := Bw.cells hb; have hsz := Bw.size hb; try (have hz0 : w.heap.size < w'.heap.size := by (try simp at hsz); omega); try (have hz1 : w.heap.size + 1 < w'.heap.size := by (try simp at hsz); omega); try (have hz2 : w.heap.size + 1 + 1 < w'.heap.size := by (try simp at hsz); omega); try (have hz3 : w.heap.size + 1 + 1 + 1 < w'.heap.size := by (try simp at hsz); omega); try (have hz4 : w.heap.size + 1 + 1 + 1 + 1 < w'.heap.size := by (try simp at hsz); omega); try (have hzr : wr.heap.size < w'.heap.size := by (try simp at hsz); omega); try (have hzr1 : wr.heap.size + 1 < w'.heap.size := by (try simp at hsz); omega)) | (go_at_call 18; refine (alike_same [0, 1, 1, 1, 0] _ _ _ (HR.out.mono (by repeat (first | exact Bw.refl _ | assumption | refine Bw.alloc ?_ _ | refine Bw.drew ?_ | refine Bw.trans ?_ (by assumption) | refine Bw.setCell ?_ (by simp; try omega) _))) (RdI.lit _ #[.int .i64 0, .int .i64 1, .int .i64 1, .int .i64 1, .int .i64 0] 3 [0, 1, 1, 1, 0] rfl (by decide))).mono ?_; rintro e w' ⟨rfl, hb⟩; obtain ⟨hcc, hff⟩ := Bw.cells hb; have hsz := Bw.size hb; try (have hz0 : w.heap.size < w'.heap.size := by (try simp at hsz); omega); try (have hz1 : w.heap.size + 1 < w'.heap.size := by (try simp at hsz); omega); try (have hz2 : w.heap.size + 1 + 1 < w'.heap.size := by (try simp at hsz); omega); try (have hz3 : w.heap.size + 1 + 1 + 1 < w'.heap.size := by (try simp at hsz); omega); try (have hz4 : w.heap.size + 1 + 1 + 1 + 1 < w'.heap.size := by (try simp at hsz); omega); try (have hzr : wr.heap.size < w'.heap.size := by (try simp at hsz); omega); try (have hzr1 : wr.heap.size + 1 < w'.heap.size := by (try simp at hsz); omega))))
  all_goals (go_ret; exact ⟨rfl, Bw.trans HBW.out (by repeat (first | exact Bw.refl _ | assumption | refine Bw.alloc ?_ _ | refine Bw.drew ?_ | refine Bw.trans ?_ (by assumption) | refine Bw.setCell ?_ (by simp; try omega) _))⟩)
end Go.Proofs.Sky
