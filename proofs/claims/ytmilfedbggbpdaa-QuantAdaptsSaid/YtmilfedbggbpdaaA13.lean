/-
  lemmas for the theorems of this claim. No conditions beyond those written in the statements.
-/
import Derived.Test.YtmilfedbggbpdaaProg
import Derived.Test.YtmilfedbggbpdaaBase
import Derived.Test.YtmilfedbggbpdaaPlainA
set_option linter.unusedVariables false
set_option linter.unusedSimpArgs false
set_option linter.unnecessarySimpa false
namespace Go.Proofs.Sky
open Go Go.RowKit
set_option maxHeartbeats 400000
theorem check_any (b s : Int) (w : World) : Calls Try.prog 14 #[.agg #[.int .i64 b, .int .i64 s]] w fun e w' => e = .returned (.int .i64 (errG b s)) ∧ Bw w w' := by
  by_cases h : 2 ≤ b ∧ b ≤ 8 ∧ 0 ≤ s ∧ s ≤ 30
  · have HE := Lib.hid (errG_ok b s h)
    obtain ⟨h1, h2, h3, h4⟩ := h
    go_enter Try.func14, Try.ntmps14
    go_wp2
    go_ret
    exact ⟨ret_int HE.out.symm, (by repeat (first | exact Bw.refl _ | assumption | refine Bw.alloc ?_ _ | refine Bw.drew ?_ | refine Bw.trans ?_ (by assumption) | refine Bw.setCell ?_ (by simp; try omega) _))⟩
  · have HE := Lib.hid (errG_no b s h)
    have HN := Lib.hid h; clear h
    go_enter Try.func14, Try.ntmps14
    go_wp2
    all_goals go_ret
    all_goals first | exact ⟨ret_int HE.out.symm, (by repeat (first | exact Bw.refl _ | assumption | refine Bw.alloc ?_ _ | refine Bw.drew ?_ | refine Bw.trans ?_ (by assumption) | refine Bw.setCell ?_ (by simp; try omega) _))⟩ | (exfalso; have := HN.out; omega)
theorem rcheck_any (b s : Int) (w : World) : Calls Try.prog 15 #[.agg #[.int .i64 b, .int .i64 s]] w fun e w' => e = .returned (.int .i64 (errG b s)) ∧ Bw w w' := by
  by_cases h : 2 ≤ b ∧ b ≤ 8 ∧ 0 ≤ s ∧ s ≤ 30
  · have HE := Lib.hid (errG_ok b s h)
    obtain ⟨h1, h2, h3, h4⟩ := h
    go_enter Try.func15, Try.ntmps15
    go_wp2
    go_ret
    exact ⟨ret_int HE.out.symm, (by repeat (first | exact Bw.refl _ | assumption | refine Bw.alloc ?_ _ | refine Bw.drew ?_ | refine Bw.trans ?_ (by assumption) | refine Bw.setCell ?_ (by simp; try omega) _))⟩
  · have HE := Lib.hid (errG_no b s h)
    have HN := Lib.hid h; clear h
    go_enter Try.func15, Try.ntmps15
    go_wp2
    all_goals go_ret
    all_goals first | exact ⟨ret_int HE.out.symm, (by repeat (first | exact Bw.refl _ | assumption | refine Bw.alloc ?_ _ | refine Bw.drew ?_ | refine Bw.trans ?_ (by assumption) | refine Bw.setCell ?_ (by simp; try omega) _))⟩ | (exfalso; have := HN.out; omega)
theorem gq_eq (b : Int) (h : 2 ≤ b) : (2:Int) ^ (b.toNat - 1) - 1 = gq b := rfl
theorem greatest_any (b s : Int) (h : 2 ≤ b) (h' : b ≤ 8) (w : World) : Calls Try.prog 38 #[.agg #[.int .i64 b, .int .i64 s]] w fun e w' => e = .returned (.int .i64 (gq b)) ∧ Bw w w' := by
  have ⟨p1, p2⟩ := pow30 (b.toNat - 1) (by omega)
  go_enter Try.func38, Try.ntmps38
  go_wp2
  go_ret
  exact ⟨ret_int rfl, (by repeat (first | exact Bw.refl _ | assumption | refine Bw.alloc ?_ _ | refine Bw.drew ?_ | refine Bw.trans ?_ (by assumption) | refine Bw.setCell ?_ (by simp; try omega) _))⟩
theorem rgreatest_any (b s : Int) (h : 2 ≤ b) (h' : b ≤ 8) (w : World) : Calls Try.prog 40 #[.agg #[.int .i64 b, .int .i64 s]] w fun e w' => e = .returned (.int .i64 (gq b)) ∧ Bw w w' := by
  have ⟨p1, p2⟩ := pow30 (b.toNat - 1) (by omega)
  go_enter Try.func40, Try.ntmps40
  go_wp2
  go_ret
  exact ⟨ret_int rfl, (by repeat (first | exact Bw.refl _ | assumption | refine Bw.alloc ?_ _ | refine Bw.drew ?_ | refine Bw.trans ?_ (by assumption) | refine Bw.setCell ?_ (by simp; try omega) _))⟩
theorem rounded_any (x s : Int) (h : 0 ≤ s) (h' : s ≤ 30) (h1 : -70368744177664 ≤ x) (h2 : x ≤ 70368744177664) (w : World) : Calls Try.prog 44 #[.int .i64 x, .int .i64 s] w fun e w' => e = .returned (.int .i64 (rnd x s.toNat)) ∧ Bw w w' := by
  have ⟨p1, p2⟩ := pow30 s.toNat (by omega)
  have ⟨r1, r2⟩ := rnd_bd x s.toNat h1 h2
  by_cases hx : x < 0
  · have HE := Lib.hid (show rnd x s.toNat = -((2 ^ s.toNat / 2 - x) / 2 ^ s.toNat) by unfold rnd; rw [if_pos hx])
    rw [HE.out] at r1 r2
    go_enter Try.func44, Try.ntmps44
    go_wp2
    go_ret
    exact ⟨ret_int HE.out.symm, (by repeat (first | exact Bw.refl _ | assumption | refine Bw.alloc ?_ _ | refine Bw.drew ?_ | refine Bw.trans ?_ (by assumption) | refine Bw.setCell ?_ (by simp; try omega) _))⟩
  · have HE := Lib.hid (show rnd x s.toNat = ((x + 2 ^ s.toNat / 2) / 2 ^ s.toNat) by unfold rnd; rw [if_neg hx])
    rw [HE.out] at r1 r2
    go_enter Try.func44, Try.ntmps44
    go_wp2
    go_ret
    exact ⟨ret_int HE.out.symm, (by repeat (first | exact Bw.refl _ | assumption | refine Bw.alloc ?_ _ | refine Bw.drew ?_ | refine Bw.trans ?_ (by assumption) | refine Bw.setCell ?_ (by simp; try omega) _))⟩
theorem rrounded_pos (x s : Int) (h : 0 ≤ s) (h' : s ≤ 30) (h1 : 0 ≤ x) (h2 : x ≤ 70368744177664) (w : World) : Calls Try.prog 43 #[.int .i64 x, .int .i64 s] w fun e w' => e = .returned (.int .i64 (rnd x s.toNat)) ∧ Bw w w' := by
  have ⟨p1, p2⟩ := pow30 s.toNat (by omega)
  have ⟨p3, p4⟩ := pow30 (s.toNat - 1) (by omega)
  by_cases hs : s = 0
  · subst hs
    have HE := Lib.hid (rnd_zero x)
    go_enter Try.func43, Try.ntmps43
    go_wp2_with fail
    go_ret
    exact ⟨ret_int HE.out.symm, (by repeat (first | exact Bw.refl _ | assumption | refine Bw.alloc ?_ _ | refine Bw.drew ?_ | refine Bw.trans ?_ (by assumption) | refine Bw.setCell ?_ (by simp; try omega) _))⟩
  · have HE := Lib.hid (rnd_ref x s.toNat h1 (by omega))
    go_enter Try.func43, Try.ntmps43
    go_wp2_with fail
    go_ret
    exact ⟨ret_int HE.out, (by repeat (first | exact Bw.refl _ | assumption | refine Bw.alloc ?_ _ | refine Bw.drew ?_ | refine Bw.trans ?_ (by assumption) | refine Bw.setCell ?_ (by simp; try omega) _))⟩
theorem rrounded_any (x s : Int) (h : 0 ≤ s) (h' : s ≤ 30) (h1 : -70368744177664 ≤ x) (h2 : x ≤ 70368744177664) (w : World) : Calls Try.prog 43 #[.int .i64 x, .int .i64 s] w fun e w' => e = .returned (.int .i64 (rnd x s.toNat)) ∧ Bw w w' := by
  by_cases hx : x < 0
  · have HE := Lib.hid (show -rnd (-x) s.toNat = rnd x s.toNat by rw [rnd_neg]; omega)
    have ⟨r1, r2⟩ := rnd_bd (-x) s.toNat (by omega) (by omega)
    go_enter Try.func43, Try.ntmps43
    go_wp2_with (go_at_call 43; refine (rrounded_pos _ _ (by omega) (by omega) (by omega) (by omega) _).mono ?_; rintro e w' ⟨rfl, hb⟩; obtain ⟨hcc, hff⟩ := Bw.cells hb; have hsz := Bw.size hb; try (have hz0 : w.heap.size < w'.heap.size := by (try simp at hsz); omega); try (have hz1 : w.heap.size + 1 < w'.heap.size := by (try simp at hsz); omega); try (have hz2 : w.heap.size + 1 + 1 < w'.heap.size := by (try simp at hsz); omega); try (have hz3 : w.heap.size + 1 + 1 + 1 < w'.heap.size := by (try simp at hsz); omega); try (have hz4 : w.heap.size + 1 + 1 + 1 + 1 < w'.heap.size := by (try simp at hsz); omega); try (have hzr : wr.heap.size < w'.heap.size := by (try simp at hsz); omega); try (have hzr1 : wr.heap.size + 1 < w'.heap.size := by (try simp at hsz); omega))
    go_ret
    exact ⟨ret_int HE.out, (by repeat (first | exact Bw.refl _ | assumption | refine Bw.alloc ?_ _ | refine Bw.drew ?_ | refine Bw.trans ?_ (by assumption) | refine Bw.setCell ?_ (by simp; try omega) _))⟩
  · exact rrounded_pos x s h h' (by omega) h2 w
theorem part_any (x : Int) (w : World) : Calls Try.prog 32 #[.int .i64 x] w fun e w' => e = .returned (.bool (decide (-70368744177664 ≤ x ∧ x ≤ 70368744177664))) ∧ Bw w w' := by
  go_enter Try.func32, Try.ntmps32
  go_wp2
  all_goals go_ret
  all_goals exact ⟨ret_bool (by simp; try omega), (by repeat (first | exact Bw.refl _ | assumption | refine Bw.alloc ?_ _ | refine Bw.drew ?_ | refine Bw.trans ?_ (by assumption) | refine Bw.setCell ?_ (by simp; try omega) _))⟩
end Go.Proofs.Sky
