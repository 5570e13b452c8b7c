/-
  lemmas for the theorems of this claim. No conditions beyond those written in the statements.
-/
import Derived.Test.YtmilfedbggbpdaaJ13
import Derived.Test.YtmilfedbggbpdaaU13
set_option linter.unusedVariables false
set_option linter.unusedSimpArgs false
set_option linter.unnecessarySimpa false
namespace Go.Proofs.Sky
open Go Go.RowKit
set_option maxHeartbeats 2000000
theorem equal_t (ps : List Int) (u v : Value) (w : World) (hu : RdI w u ps) (hv : RdI w v ps) :
    Calls Try.prog 24 #[u, v] w fun e w' => e = .returned (.bool true) ∧ Bw w w' := by
  have := equal_any ps ps u v w hu hv
  rwa [decide_eq_true rfl] at this
theorem World.cell?_lt' {w : World} {b o : Nat} {v : Value} (h : w.cell? ⟨b, o, none⟩ = some v) : b < w.heap.size := by
  rcases Nat.lt_or_ge b w.heap.size with h' | h'
  · exact h'
  · simp [World.cell?, Array.getElem?_eq_none h'] at h
theorem law_samples (b s : Int) (ps : List (Int × Int)) (v : Value) (w : World) (hv : RdS w v ps) :
    Calls Try.prog 4 #[v, .agg #[.int .i64 b, .int .i64 s]] w fun e w' => e = .returned (.bool true) ∧ Bw w w' := by
  have HV := Lib.hid hv
  obtain ⟨a0, c0, rfl⟩ := hv.form
  clear hv
  by_cases hl : 300 < ps.length
  · go_enter Try.func4, Try.ntmps4
    go_wp2_with (go_at_call 16; refine (awake_any _).mono ?_; rintro e w' ⟨rfl, hb⟩; obtain ⟨hcc, hff⟩ := Bw.cells hb; have hsz := Bw.size hb; try (have hz0 : w.heap.size < w'.heap.size := by (try simp at hsz); omega); try (have hz1 : w.heap.size + 1 < w'.heap.size := by (try simp at hsz); omega); try (have hz2 : w.heap.size + 1 + 1 < w'.heap.size := by (try simp at hsz); omega); try (have hz3 : w.heap.size + 1 + 1 + 1 < w'.heap.size := by (try simp at hsz); omega); try (have hz4 : w.heap.size + 1 + 1 + 1 + 1 < w'.heap.size := by (try simp at hsz); omega); try (have hzr : wr.heap.size < w'.heap.size := by (try simp at hsz); omega); try (have hzr1 : wr.heap.size + 1 < w'.heap.size := by (try simp at hsz); omega))
    go_ret
    exact ⟨rfl, (by repeat (first | exact Bw.refl _ | assumption | refine Bw.alloc ?_ _ | refine Bw.drew ?_ | refine Bw.trans ?_ (by assumption) | refine Bw.setCell ?_ (by simp; try omega) _))⟩
  · have hle : ps.length ≤ 300 := by omega
    clear hl
    go_enter Try.func4, Try.ntmps4
    go_wp2_with fail
    refine (Quantise_any b s ps _ _ (HV.out.mono (by repeat (first | exact Bw.refl _ | assumption | refine Bw.alloc ?_ _ | refine Bw.drew ?_ | refine Bw.trans ?_ (by assumption) | refine Bw.setCell ?_ (by simp; try omega) _)))).mono ?_
    rintro e w1 ⟨⟨v1, rfl, r1, _⟩, b1⟩
    obtain ⟨a1, c1, rfl⟩ := r1.form
    have R1 := Lib.hid r1; clear r1
    obtain ⟨hc1, hf1⟩ := Bw.cells b1
    have z12 : w.heap.size < w1.heap.size := by have := b1.size; simp at this; omega
    have z12' : w.heap.size < w1.heap.size + 1 := by omega
    go_wp2_with fail
    refine (RQuantise_any b s ps _ _ (HV.out.mono (by repeat (first | exact Bw.refl _ | assumption | refine Bw.alloc ?_ _ | refine Bw.drew ?_ | refine Bw.trans ?_ (by assumption) | refine Bw.setCell ?_ (by simp; try omega) _)))).mono ?_
    rintro e w2 ⟨⟨v2, rfl, r2, _⟩, b2⟩
    obtain ⟨a2, c2, rfl⟩ := r2.form
    have R2 := Lib.hid r2; clear r2
    obtain ⟨hc2, hf2⟩ := Bw.cells b2
    have z13 : w.heap.size < w2.heap.size := by have := b2.size; simp at this; omega
    have z13' : w.heap.size < w2.heap.size + 1 := by omega
    go_wp2_with fail
    refine (Restore_any b s ps _ _ (HV.out.mono (by repeat (first | exact Bw.refl _ | assumption | refine Bw.alloc ?_ _ | refine Bw.drew ?_ | refine Bw.trans ?_ (by assumption) | refine Bw.setCell ?_ (by simp; try omega) _)))).mono ?_
    rintro e w3 ⟨⟨v3, rfl, r3, _⟩, b3⟩
    obtain ⟨a3, c3, rfl⟩ := r3.form
    have R3 := Lib.hid r3; clear r3
    obtain ⟨hc3, hf3⟩ := Bw.cells b3
    have z14 : w.heap.size < w3.heap.size := by have := b3.size; simp at this; omega
    go_wp2_with fail
    refine (RRestore_any b s ps _ _ (HV.out.mono (by repeat (first | exact Bw.refl _ | assumption | refine Bw.alloc ?_ _ | refine Bw.drew ?_ | refine Bw.trans ?_ (by assumption) | refine Bw.setCell ?_ (by simp; try omega) _)))).mono ?_
    rintro e w4 ⟨⟨v4, rfl, r4, _⟩, b4⟩
    obtain ⟨a4, c4, rfl⟩ := r4.form
    have R4 := Lib.hid r4; clear r4
    obtain ⟨hc4, hf4⟩ := Bw.cells b4
    have z15 : w.heap.size < w4.heap.size := by have := b4.size; omega
    go_wp2_with fail
    refine (Counts_any b s ps _ _ (HV.out.mono (by repeat (first | exact Bw.refl _ | assumption | refine Bw.alloc ?_ _ | refine Bw.drew ?_ | refine Bw.trans ?_ (by assumption) | refine Bw.setCell ?_ (by simp; try omega) _)))).mono ?_
    rintro e w5 ⟨⟨v5, rfl, r5, _⟩, b5⟩
    obtain ⟨a5, c5, rfl⟩ := r5.form
    have R5 := Lib.hid r5; clear r5
    obtain ⟨hc5, hf5⟩ := Bw.cells b5
    have z16 : w.heap.size < w5.heap.size := by have := b5.size; omega
    go_wp2_with fail
    refine (RCounts_any b s ps _ _ (HV.out.mono (by repeat (first | exact Bw.refl _ | assumption | refine Bw.alloc ?_ _ | refine Bw.drew ?_ | refine Bw.trans ?_ (by assumption) | refine Bw.setCell ?_ (by simp; try omega) _)))).mono ?_
    rintro e w6 ⟨⟨v6, rfl, r6, _⟩, b6⟩
    obtain ⟨a6, c6, rfl⟩ := r6.form
    have R6 := Lib.hid r6; clear r6
    have x1 := Bw.trans b3 (Bw.trans b4 (Bw.trans b5 b6))
    have x2 := Bw.trans (Bw.trans b2 (Bw.alloc (Bw.refl _) _)) x1
    have x1' := Bw.trans (Bw.alloc (Bw.refl w2) _) x1
    have x2' := Bw.trans (Bw.alloc (Bw.refl w1) _) x2
    have m0 : w6.cell? ⟨w1.heap.size, 0, none⟩ = some (.slice a1 (qL b s ps).length c1) := (x2.cells.1 w1.heap.size 0 (by simp)).trans (by simp [go_sem])
    have m1 : w6.cell? ⟨w1.heap.size, 1, none⟩ = some (.int .i64 (qN b s ps)) := (x2.cells.1 w1.heap.size 1 (by simp)).trans (by simp [go_sem])
    have m2 : w6.cell? ⟨w2.heap.size, 0, none⟩ = some (.slice a2 (qL b s ps).length c2) := (x1.cells.1 w2.heap.size 0 (by simp)).trans (by simp [go_sem])
    have m3 : w6.cell? ⟨w2.heap.size, 1, none⟩ = some (.int .i64 (qN b s ps)) := (x1.cells.1 w2.heap.size 1 (by simp)).trans (by simp [go_sem])
    have S1 := R1.out.mono x2'
    have S2 := R2.out.mono x1'
    have S3 := R3.out.mono (Bw.trans b4 (Bw.trans b5 b6))
    have S4 := R4.out.mono (Bw.trans b5 b6)
    have S5 := R5.out.mono b6
    have T := Lib.hid (And.intro S1 (And.intro S2 (And.intro S3 (And.intro S4 (And.intro S5 R6.out)))))
    have BB : Bw w w6 := Bw.trans (Bw.trans (Bw.alloc (Bw.refl _) _) b1) x2'
    have HBB := Lib.hid BB
    clear S1 S2 S3 S4 S5 R1 R2 R3 R4 R5 R6 hc1 hf1 hc2 hf2 hc3 hf3 hc4 hf4 hc5 hf5 b1 b2 b3 b4 b5 b6 x1 x2 x1' x2' BB
    have z5 : w1.heap.size < w6.heap.size := World.cell?_lt' m0
    have z6 : w2.heap.size < w6.heap.size := World.cell?_lt' m2
    go_wp2_with fail
    refine (samples_t _ _ _ _ T.out.1 T.out.2.1).mono ?_
    rintro e w7 ⟨rfl, b7⟩
    obtain ⟨hc7, hf7⟩ := Bw.cells b7
    go_wp2_with fail
    refine (samples_t _ _ _ _ (T.out.2.2.1.mono b7) (T.out.2.2.2.1.mono b7)).mono ?_
    rintro e w8 ⟨rfl, b8⟩
    go_wp2_with fail
    refine (equal_t _ _ _ _ (T.out.2.2.2.2.1.mono (Bw.trans b7 b8)) (T.out.2.2.2.2.2.mono (Bw.trans b7 b8))).mono ?_
    rintro e w9 ⟨rfl, b9⟩
    go_wp2_with fail
    refine (awake_any _).mono ?_
    rintro e w10 ⟨rfl, b10⟩
    go_wp2_with fail
    go_ret
    exact ⟨rfl, Bw.trans HBB.out (Bw.trans b7 (Bw.trans b8 (Bw.trans b9 b10)))⟩
end Go.Proofs.Sky
