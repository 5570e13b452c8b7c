/-
  lemmas for the theorems of this claim. No conditions beyond those written in the statements.
-/
import Derived.Test.YtdaplhjkccfmgaaV30
import Derived.Test.YtdaplhjkccfmgaaV30b
import Derived.Test.YtdaplhjkccfmgaaU30
set_option linter.unusedVariables false
set_option linter.unusedSimpArgs false
set_option linter.unnecessarySimpa false
namespace Go.Proofs.Sky
open Go Go.RowKit Go.Shelf
set_option maxHeartbeats 2000000
theorem same_same (xs : List Int) (v1 v2 : Value) (w : World) (h1 : RdI w v1 xs) (h2 : RdI w v2 xs) : Calls Try.prog 13 #[v1, v2] w fun e w' => e = .returned (.bool true) ∧ Bw w w' := by
  have := same_any xs xs v1 v2 w h1 h2
  simpa using this
theorem ratios_same (xs : List (Int × Int)) (v1 v2 : Value) (w : World) (h1 : RdS w v1 xs) (h2 : RdS w v2 xs) : Calls Try.prog 12 #[v1, v2] w fun e w' => e = .returned (.bool true) ∧ Bw w w' := by
  have := ratios_any xs xs v1 v2 w h1 h2
  simpa using this
theorem state_same (W L : Int) (xs : List Int) (v1 v2 : Value) (w : World) (h1 : RdI w v1 xs) (h2 : RdI w v2 xs) : Calls Try.prog 18 #[.agg #[.int .i64 W, .int .i64 L, v1], .agg #[.int .i64 W, .int .i64 L, v2]] w fun e w' => e = .returned (.bool true) ∧ Bw w w' := by
  have H1 := Lib.hid h1
  have H2 := Lib.hid h2
  obtain ⟨a1, c1, rfl⟩ := h1.form
  obtain ⟨a2, c2, rfl⟩ := h2.form
  clear h1 h2
  go_enter Try.func18, Try.ntmps18
  go_wp2_with (go_at_call 13; refine (same_same xs _ _ _ (H1.out.mono (by repeat (first | exact Bw.refl _ | assumption | refine Bw.alloc ?_ _ | refine Bw.drew ?_ | refine Bw.trans ?_ (by assumption) | refine Bw.setCell ?_ (by simp; try omega) _))) (H2.out.mono (by repeat (first | exact Bw.refl _ | assumption | refine Bw.alloc ?_ _ | refine Bw.drew ?_ | refine Bw.trans ?_ (by assumption) | refine Bw.setCell ?_ (by simp; try omega) _)))).mono ?_; rintro e w' ⟨rfl, hb⟩; obtain ⟨hcc, hff⟩ := Bw.cells hb; have hsz := Bw.size hb; try (have hz0 : w.heap.size < w'.heap.size := by (try simp at hsz); omega); try (have hz1 : w.heap.size + 1 < w'.heap.size := by (try simp at hsz); omega); try (have hz2 : w.heap.size + 1 + 1 < w'.heap.size := by (try simp at hsz); omega); try (have hz3 : w.heap.size + 1 + 1 + 1 < w'.heap.size := by (try simp at hsz); omega); try (have hz4 : w.heap.size + 1 + 1 + 1 + 1 < w'.heap.size := by (try simp at hsz); omega); try (have hzr : wr.heap.size < w'.heap.size := by (try simp at hsz); omega); try (have hzr1 : wr.heap.size + 1 < w'.heap.size := by (try simp at hsz); omega))
  go_ret
  exact ⟨rfl, (by repeat (first | exact Bw.refl _ | assumption | refine Bw.alloc ?_ _ | refine Bw.drew ?_ | refine Bw.trans ?_ (by assumption) | refine Bw.setCell ?_ (by simp; try omega) _))⟩
def measL : List (Int × Int) := [(1000, 400), (1130, 510), (1190, 600), (1310, 700), (1400, 1000)]
theorem measured_any (w : World) : Calls Try.prog 23 #[] w fun e w' => (∃ v, e = .returned v ∧ RdS w' v measL) ∧ Bw w w' := by
  go_enter Try.func23, Try.ntmps23
  go_wp2
  go_ret
  refine ⟨⟨_, rfl, RdS.lit w _ _ measL (by rfl) (by decide)⟩, (by repeat (first | exact Bw.refl _ | assumption | refine Bw.alloc ?_ _ | refine Bw.drew ?_ | refine Bw.trans ?_ (by assumption) | refine Bw.setCell ?_ (by simp; try omega) _))⟩
def measR : List (Int × Int) := [(1000, 1), (2240, 2), (3610, 3), (3920, 3), (1400, 1)]
theorem replR_meas : replR 3 100 measL = (measR, [4], 0) := by decide
theorem awake_any (w : World) : Calls Try.prog 9 #[] w fun e w' => e = .returned (.bool true) ∧ Bw w w' := by
  have HR := fun W v (h : RdS W v measL) => Replay_any 3 100 measL v W h
  rw [replR_meas] at HR
  have HR := Lib.hid HR
  go_enter Try.func9, Try.ntmps9
  go_wp2_with (first | (go_at_call 23; refine (measured_any _).mono ?_; rintro e w1 ⟨⟨v1, rfl, hr1⟩, hb1⟩; have R1 := Lib.hid hr1; clear hr1) | (go_at_call 10; refine (HR.out _ _ R1.out).mono ?_; rintro e w2 ⟨⟨v2, v3, rfl, hr2, hr3, _, _⟩, hb2⟩; have R2 := Lib.hid hr2; have R3 := Lib.hid hr3; obtain ⟨a2, c2, rfl⟩ := hr2.form; obtain ⟨a3, c3, rfl⟩ := hr3.form; clear hr2 hr3) | (go_at_call 13; refine (same_same [4] _ _ _ (R3.out.mono (Bw.alloc (Bw.refl _) _)) (RdI.lit _ _ _ [4] (by rfl) (by decide))).mono ?_; rintro e w3 ⟨rfl, hb3⟩) | (go_at_call 12; refine (ratios_same measR _ _ _ (R2.out.mono (by repeat (first | exact Bw.refl _ | assumption | refine Bw.alloc ?_ _ | refine Bw.drew ?_ | refine Bw.trans ?_ (by assumption) | refine Bw.setCell ?_ (by simp; try omega) _))) (RdS.lit _ _ _ measR (by rfl) (by decide))).mono ?_; rintro e w4 ⟨rfl, hb4⟩))
  go_ret
  exact ⟨rfl, (by repeat (first | exact Bw.refl _ | assumption | refine Bw.alloc ?_ _ | refine Bw.drew ?_ | refine Bw.trans ?_ (by assumption) | refine Bw.setCell ?_ (by simp; try omega) _))⟩
end Go.Proofs.Sky
