/-
  lemmas for the theorems of this claim. No conditions beyond those written in the statements.
-/
import Derived.Test.YtmilfedbggbpdaaH13
import Derived.Test.YtmilfedbggbpdaaI13
set_option linter.unusedVariables false
set_option linter.unusedSimpArgs false
set_option linter.unnecessarySimpa false
namespace Go.Proofs.Sky
open Go Go.RowKit
set_option maxHeartbeats 1000000
theorem level_aw (w : World) : Calls Try.prog 10 #[.agg #[.int .i64 3, .int .i64 1], .int .i64 7] w fun e w' => e = .returned (.tuple #[.int .i64 3, .bool true, .int .i64 0]) ∧ Bw w w' := by
  have h := Level_any 3 1 7 w
  rw [show levY 3 1 7 = 3 by decide +kernel, show levL 3 1 7 = true by decide +kernel, show levE 3 1 7 = 0 by decide +kernel] at h
  exact h
def QAw (base : Nat) (e : Ending) (w' : World) : Prop := ∃ v, e = .returned (.tuple #[.agg #[v, .int .i64 1], .int .i64 0]) ∧ RdS w' v [(3, -3), (1, 0)] ∧ Fresh base v
theorem quant_aw (v : Value) (w : World) (hv : RdS w v [(5, -7), (1, 0)]) : Calls Try.prog 17 #[v, .agg #[.int .i64 3, .int .i64 1]] w fun e w' => QAw w.heap.size e w' ∧ Bw w w' := by
  refine (Quantise_any 3 1 _ v w hv).mono ?_
  rintro e w' ⟨⟨v', rfl, h1, h2⟩, hb⟩
  rw [show qL 3 1 [(5, -7), (1, 0)] = [(3, -3), (1, 0)] by decide +kernel] at h1
  exact ⟨⟨v', by rw [show qN 3 1 [(5, -7), (1, 0)] = 1 by decide +kernel, show errQ 3 1 [(5, -7), (1, 0)] = 0 by decide +kernel], h1, h2⟩, hb⟩
theorem samples_t (ps : List (Int × Int)) (u v : Value) (w : World) (hu : RdS w u ps) (hv : RdS w v ps) :
    Calls Try.prog 23 #[u, v] w fun e w' => e = .returned (.bool true) ∧ Bw w w' := by
  have := samples_eq ps ps u v w hu hv
  rwa [decide_eq_true rfl] at this
theorem lit1 (w : World) : RdS (w.alloc (.cells #[.int .i64 5, .int .i64 (-7), .int .i64 1, .int .i64 0] 50)) (.slice (some ⟨w.heap.size, 0, none⟩) 2 2) [(5, -7), (1, 0)] := RdS.lit w _ _ [(5, -7), (1, 0)] rfl (by decide)
theorem lit2 (w : World) (b : Nat) (hb : b = w.heap.size) : RdS (w.alloc (.cells #[.int .i64 3, .int .i64 (-3), .int .i64 1, .int .i64 0] 50)) (.slice (some ⟨b, 0, none⟩) 2 2) [(3, -3), (1, 0)] := by subst hb; exact RdS.lit w _ _ [(3, -3), (1, 0)] rfl (by decide)
theorem awake_any (w : World) : Calls Try.prog 16 #[] w fun e w' => e = .returned (.bool true) ∧ Bw w w' := by
  go_enter Try.func16, Try.ntmps16
  go_wp2_with (go_at_call 10; refine (level_aw _).mono ?_; rintro e w' ⟨rfl, hb⟩; obtain ⟨hcc, hff⟩ := Bw.cells hb; have hsz := Bw.size hb; try (have hz0 : w.heap.size < w'.heap.size := by (try simp at hsz); omega); try (have hz1 : w.heap.size + 1 < w'.heap.size := by (try simp at hsz); omega); try (have hz2 : w.heap.size + 1 + 1 < w'.heap.size := by (try simp at hsz); omega); try (have hz3 : w.heap.size + 1 + 1 + 1 < w'.heap.size := by (try simp at hsz); omega); try (have hz4 : w.heap.size + 1 + 1 + 1 + 1 < w'.heap.size := by (try simp at hsz); omega); try (have hzr : wr.heap.size < w'.heap.size := by (try simp at hsz); omega); try (have hzr1 : wr.heap.size + 1 < w'.heap.size := by (try simp at hsz); omega))
  refine (quant_aw _ _ (lit1 _)).mono ?_
  rintro e w2 ⟨⟨v', rfl, hr, hfr⟩, hb2⟩
  obtain ⟨a', c', rfl⟩ := hr.form
  have HR := Lib.hid hr; clear hr
  clear hfr
  obtain ⟨hcc2, hff2⟩ := Bw.cells hb2
  go_wp2_with fail
  refine (samples_t [(3, -3), (1, 0)] _ _ _ (HR.out.mono (by repeat (first | exact Bw.refl _ | assumption | refine Bw.alloc ?_ _ | refine Bw.drew ?_ | refine Bw.trans ?_ (by assumption) | refine Bw.setCell ?_ (by simp; try omega) _))) (lit2 _ _ (by simp))).mono ?_
  rintro e w3 ⟨rfl, hb3⟩
  go_wp2_with fail
  go_ret
  exact ⟨rfl, (by repeat (first | exact Bw.refl _ | assumption | refine Bw.alloc ?_ _ | refine Bw.drew ?_ | refine Bw.trans ?_ (by assumption) | refine Bw.setCell ?_ (by simp; try omega) _))⟩
end Go.Proofs.Sky
