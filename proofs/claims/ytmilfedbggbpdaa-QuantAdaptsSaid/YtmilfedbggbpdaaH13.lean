/-
  lemmas for the theorems of this claim. No conditions beyond those written in the statements.
-/
import Derived.Test.YtmilfedbggbpdaaF13
import Derived.Test.YtmilfedbggbpdaaE13
set_option linter.unusedVariables false
set_option linter.unusedSimpArgs false
set_option linter.unnecessarySimpa false
namespace Go.Proofs.Sky
open Go Go.RowKit
set_option maxHeartbeats 1000000
theorem errS_zero {m : Int} {ps : List (Int × Int)} (h : errS m ps = 0) : ps.length ≤ 1048576 ∧ ∀ p ∈ ps, inP m p = true := by
  unfold errS at h
  by_cases h1 : 1048576 < ps.length
  · rw [if_pos h1] at h; cases h
  · rw [if_neg h1] at h
    cases h2 : ps.any (fun p => ! inP m p) with
    | true => rw [h2] at h; cases h
    | false =>
      refine ⟨by omega, fun p hp => ?_⟩
      have := List.any_eq_false.1 h2 p hp
      simpa using this
def errQ (b s : Int) (ps : List (Int × Int)) : Int := if okG b s then errS 70368744177664 ps else 2
def qL (b s : Int) (ps : List (Int × Int)) : List (Int × Int) := if errQ b s ps = 0 then lvS b s ps else []
def qN (b s : Int) (ps : List (Int × Int)) : Int := if errQ b s ps = 0 then lostN b s ps else 0
def QuantS (base : Nat) (b s : Int) (ps : List (Int × Int)) (e : Ending) (w' : World) : Prop := ∃ v, e = .returned (.tuple #[.agg #[v, .int .i64 (qN b s ps)], .int .i64 (errQ b s ps)]) ∧ RdS w' v (qL b s ps) ∧ Fresh base v
theorem errQ_bad {b s : Int} (ps : List (Int × Int)) (h : ¬ (2 ≤ b ∧ b ≤ 8 ∧ 0 ≤ s ∧ s ≤ 30)) : errQ b s ps = 2 := by unfold errQ; rw [okG_not b s h]; rfl
theorem errQ_good {b s : Int} (ps : List (Int × Int)) (h : 2 ≤ b ∧ b ≤ 8 ∧ 0 ≤ s ∧ s ≤ 30) : errQ b s ps = errS 70368744177664 ps := by unfold errQ; rw [(okG_iff b s).2 h]; rfl
theorem q_err {b s : Int} {ps : List (Int × Int)} (h : errQ b s ps ≠ 0) : qL b s ps = [] ∧ qN b s ps = 0 := by unfold qL qN; rw [if_neg h, if_neg h]; exact ⟨rfl, rfl⟩
theorem q_ok {b s : Int} {ps : List (Int × Int)} (h : errQ b s ps = 0) : qL b s ps = lvS b s ps ∧ qN b s ps = lostN b s ps := by unfold qL qN; rw [if_pos h, if_pos h]; exact ⟨rfl, rfl⟩
theorem Quantise_any (b s : Int) (ps : List (Int × Int)) (v : Value) (w : World) (hv : RdS w v ps) :
    Calls Try.prog 17 #[v, .agg #[.int .i64 b, .int .i64 s]] w fun e w' => QuantS w.heap.size b s ps e w' ∧ Bw w w' := by
  have HC := Lib.hid (fun w => check_any b s w)
  have HV := Lib.hid hv; clear hv
  by_cases hG : 2 ≤ b ∧ b ≤ 8 ∧ 0 ≤ s ∧ s ≤ 30
  · rw [errG_ok b s hG] at HC
    have HD := Lib.hid (fun w hv => check_s 70368744177664 (by omega) (by omega) ps v w hv)
    have hQ := errQ_good ps hG
    by_cases he : errS 70368744177664 ps = 0
    · have h0 := hQ.trans he
      obtain ⟨q1, q2⟩ := q_ok h0
      have HE := Lib.hid (show errQ b s ps = 0 ∧ qL b s ps = lvS b s ps ∧ qN b s ps = lostN b s ps from ⟨h0, q1, q2⟩)
      rw [he] at HD
      obtain ⟨z1, z2⟩ := errS_zero he
      have HZ := Lib.hid z2
      obtain ⟨g1, g2, g3, g4⟩ := hG
      clear he h0 q1 q2 hQ z2
      go_enter Try.func17, Try.ntmps17
      go_wp2_with (first | (go_at_call 14; refine (HC.out _).mono ?_; rintro e w' ⟨rfl, hb⟩; obtain ⟨hcc, hff⟩ := Bw.cells hb; have hsz := Bw.size hb; try (have hz0 : w.heap.size < w'.heap.size := by (try simp at hsz); omega); try (have hz1 : w.heap.size + 1 < w'.heap.size := by (try simp at hsz); omega); try (have hz2 : w.heap.size + 1 + 1 < w'.heap.size := by (try simp at hsz); omega); try (have hz3 : w.heap.size + 1 + 1 + 1 < w'.heap.size := by (try simp at hsz); omega); try (have hz4 : w.heap.size + 1 + 1 + 1 + 1 < w'.heap.size := by (try simp at hsz); omega); try (have hzr : wr.heap.size < w'.heap.size := by (try simp at hsz); omega); try (have hzr1 : wr.heap.size + 1 < w'.heap.size := by (try simp at hsz); omega)) | (go_at_call 34; refine (HD.out _ (HV.out.mono (by repeat (first | exact Bw.refl _ | assumption | refine Bw.alloc ?_ _ | refine Bw.drew ?_ | refine Bw.trans ?_ (by assumption) | refine Bw.setCell ?_ (by simp; try omega) _)))).mono ?_; rintro e w' ⟨rfl, hb⟩; obtain ⟨hcc, hff⟩ := Bw.cells hb; have hsz := Bw.size hb; try (have hz0 : w.heap.size < w'.heap.size := by (try simp at hsz); omega); try (have hz1 : w.heap.size + 1 < w'.heap.size := by (try simp at hsz); omega); try (have hz2 : w.heap.size + 1 + 1 < w'.heap.size := by (try simp at hsz); omega); try (have hz3 : w.heap.size + 1 + 1 + 1 < w'.heap.size := by (try simp at hsz); omega); try (have hz4 : w.heap.size + 1 + 1 + 1 + 1 < w'.heap.size := by (try simp at hsz); omega); try (have hzr : wr.heap.size < w'.heap.size := by (try simp at hsz); omega); try (have hzr1 : wr.heap.size + 1 < w'.heap.size := by (try simp at hsz); omega)) | (go_at_call 35; refine (quantised_any b s g1 g2 g3 g4 ps _ _ (HV.out.mono (by repeat (first | exact Bw.refl _ | assumption | refine Bw.alloc ?_ _ | refine Bw.drew ?_ | refine Bw.trans ?_ (by assumption) | refine Bw.setCell ?_ (by simp; try omega) _))) z1 HZ.out).mono ?_; rintro e w' ⟨⟨v', rfl, hr, hfr⟩, hb⟩; obtain ⟨a', c', rfl⟩ := hr.form; have HR := Lib.hid hr; clear hr; have HF := Lib.hid hfr; clear hfr; obtain ⟨hcc, hff⟩ := Bw.cells hb; have hsz := Bw.size hb; try (have hz0 : w.heap.size < w'.heap.size := by (try simp at hsz); omega); try (have hz1 : w.heap.size + 1 < w'.heap.size := by (try simp at hsz); omega); try (have hz2 : w.heap.size + 1 + 1 < w'.heap.size := by (try simp at hsz); omega); try (have hz3 : w.heap.size + 1 + 1 + 1 < w'.heap.size := by (try simp at hsz); omega); try (have hz4 : w.heap.size + 1 + 1 + 1 + 1 < w'.heap.size := by (try simp at hsz); omega); try (have hzr : wr.heap.size < w'.heap.size := by (try simp at hsz); omega); try (have hzr1 : wr.heap.size + 1 < w'.heap.size := by (try simp at hsz); omega)))
      refine bodyPost_ret (v := .tuple #[.agg #[.slice a' (lvS b s ps).length c', .int .i64 (lostN b s ps)], .int .i64 0]) (by simp [results, Try.results17, go_sem, *]) rfl ⟨⟨_, by rw [HE.out.1, HE.out.2.2], by rw [HE.out.2.1]; exact (HR.out.set HF.out (by assumption) _ _).set HF.out (by assumption) _ _, HF.out.mono (by omega)⟩, (by repeat (first | exact Bw.refl _ | assumption | refine Bw.alloc ?_ _ | refine Bw.drew ?_ | refine Bw.trans ?_ (by assumption) | refine Bw.setCell ?_ (by simp; try omega) _))⟩
    · have h0 : errQ b s ps ≠ 0 := by rw [hQ]; exact he
      obtain ⟨q1, q2⟩ := q_err h0
      have HE := Lib.hid (show errQ b s ps = errS 70368744177664 ps ∧ qL b s ps = [] ∧ qN b s ps = 0 from ⟨hQ, q1, q2⟩)
      have hne : (errS 70368744177664 ps != 0) = true := by simpa using he
      clear he h0 q1 q2 hQ hG
      go_enter Try.func17, Try.ntmps17
      go_wp2_with (first | (go_at_call 14; refine (HC.out _).mono ?_; rintro e w' ⟨rfl, hb⟩; obtain ⟨hcc, hff⟩ := Bw.cells hb; have hsz := Bw.size hb; try (have hz0 : w.heap.size < w'.heap.size := by (try simp at hsz); omega); try (have hz1 : w.heap.size + 1 < w'.heap.size := by (try simp at hsz); omega); try (have hz2 : w.heap.size + 1 + 1 < w'.heap.size := by (try simp at hsz); omega); try (have hz3 : w.heap.size + 1 + 1 + 1 < w'.heap.size := by (try simp at hsz); omega); try (have hz4 : w.heap.size + 1 + 1 + 1 + 1 < w'.heap.size := by (try simp at hsz); omega); try (have hzr : wr.heap.size < w'.heap.size := by (try simp at hsz); omega); try (have hzr1 : wr.heap.size + 1 < w'.heap.size := by (try simp at hsz); omega)) | (go_at_call 34; refine (HD.out _ (HV.out.mono (by repeat (first | exact Bw.refl _ | assumption | refine Bw.alloc ?_ _ | refine Bw.drew ?_ | refine Bw.trans ?_ (by assumption) | refine Bw.setCell ?_ (by simp; try omega) _)))).mono ?_; rintro e w' ⟨rfl, hb⟩; obtain ⟨hcc, hff⟩ := Bw.cells hb; have hsz := Bw.size hb; try (have hz0 : w.heap.size < w'.heap.size := by (try simp at hsz); omega); try (have hz1 : w.heap.size + 1 < w'.heap.size := by (try simp at hsz); omega); try (have hz2 : w.heap.size + 1 + 1 < w'.heap.size := by (try simp at hsz); omega); try (have hz3 : w.heap.size + 1 + 1 + 1 < w'.heap.size := by (try simp at hsz); omega); try (have hz4 : w.heap.size + 1 + 1 + 1 + 1 < w'.heap.size := by (try simp at hsz); omega); try (have hzr : wr.heap.size < w'.heap.size := by (try simp at hsz); omega); try (have hzr1 : wr.heap.size + 1 < w'.heap.size := by (try simp at hsz); omega)))
      refine bodyPost_ret (v := .tuple #[.agg #[.slice none 0 0, .int .i64 0], .int .i64 (errS 70368744177664 ps)]) (by simp [results, Try.results17, go_sem, *]) rfl ⟨⟨_, by rw [HE.out.1, HE.out.2.2], by rw [HE.out.2.1]; exact RdS.nil _, Fresh.nil _ _ _⟩, (by repeat (first | exact Bw.refl _ | assumption | refine Bw.alloc ?_ _ | refine Bw.drew ?_ | refine Bw.trans ?_ (by assumption) | refine Bw.setCell ?_ (by simp; try omega) _))⟩
  · rw [errG_no b s hG] at HC
    have hQ := errQ_bad ps hG
    obtain ⟨q1, q2⟩ := q_err (ps := ps) (by rw [hQ]; decide)
    have HE := Lib.hid (show errQ b s ps = 2 ∧ qL b s ps = [] ∧ qN b s ps = 0 from ⟨hQ, q1, q2⟩)
    clear q1 q2 hQ hG
    go_enter Try.func17, Try.ntmps17
    go_wp2_with (go_at_call 14; refine (HC.out _).mono ?_; rintro e w' ⟨rfl, hb⟩; obtain ⟨hcc, hff⟩ := Bw.cells hb; have hsz := Bw.size hb; try (have hz0 : w.heap.size < w'.heap.size := by (try simp at hsz); omega); try (have hz1 : w.heap.size + 1 < w'.heap.size := by (try simp at hsz); omega); try (have hz2 : w.heap.size + 1 + 1 < w'.heap.size := by (try simp at hsz); omega); try (have hz3 : w.heap.size + 1 + 1 + 1 < w'.heap.size := by (try simp at hsz); omega); try (have hz4 : w.heap.size + 1 + 1 + 1 + 1 < w'.heap.size := by (try simp at hsz); omega); try (have hzr : wr.heap.size < w'.heap.size := by (try simp at hsz); omega); try (have hzr1 : wr.heap.size + 1 < w'.heap.size := by (try simp at hsz); omega))
    refine bodyPost_ret (v := .tuple #[.agg #[.slice none 0 0, .int .i64 0], .int .i64 2]) (by simp [results, Try.results17, go_sem, *]) rfl ⟨⟨_, by rw [HE.out.1, HE.out.2.2], by rw [HE.out.2.1]; exact RdS.nil _, Fresh.nil _ _ _⟩, (by repeat (first | exact Bw.refl _ | assumption | refine Bw.alloc ?_ _ | refine Bw.drew ?_ | refine Bw.trans ?_ (by assumption) | refine Bw.setCell ?_ (by simp; try omega) _))⟩
end Go.Proofs.Sky
