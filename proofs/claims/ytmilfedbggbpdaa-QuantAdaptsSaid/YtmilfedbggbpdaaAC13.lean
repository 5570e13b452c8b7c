/-
  lemmas for the theorems of this claim. No conditions beyond those written in the statements.
-/
import Derived.Test.YtmilfedbggbpdaaAB13
import Derived.Test.YtmilfedbggbpdaaV13
set_option linter.unusedVariables false
set_option linter.unusedSimpArgs false
set_option linter.unnecessarySimpa false
namespace Go.Proofs.Sky
open Go Go.RowKit
set_option maxHeartbeats 2000000
theorem alloc2 {w w' : World} {a b : Int} {t : TypeId} (h : Bw (w.alloc (Obj.cells #[.int .i64 a, .int .i64 b] t)) w') :
    w'.cell? ⟨w.heap.size, 0, none⟩ = some (.int .i64 a) ∧ w'.cell? ⟨w.heap.size, 1, none⟩ = some (.int .i64 b) ∧ w.heap.size < w'.heap.size := by
  have h1 := h.cells.1 w.heap.size 0 (by simp)
  have h2 := h.cells.1 w.heap.size 1 (by simp)
  have h3 := h.size
  exact ⟨h1.trans (by simp [go_sem]), h2.trans (by simp [go_sem]), by simp at h3; omega⟩
theorem law_gains (ps : List (Int × Int)) (v : Value) (b s bits : Int) (w : World) (hv : RdS w v ps) :
    Calls Try.prog 5 #[v, .agg #[.int .i64 b, .int .i64 s], .int .i64 bits] w fun e w' => e = .returned (.bool true) ∧ Bw w w' := by
  have HV := Lib.hid hv
  obtain ⟨a0, c0, rfl⟩ := hv.form
  clear hv
  by_cases hl : 300 < ps.length
  · go_enter Try.func5, Try.ntmps5
    go_wp2_with (go_at_call 16; refine (awake_any _).mono ?_; rintro e w' ⟨rfl, hb⟩; obtain ⟨hcc, hff⟩ := Bw.cells hb; have hsz := Bw.size hb; try (have hz0 : w.heap.size < w'.heap.size := by (try simp at hsz); omega); try (have hz1 : w.heap.size + 1 < w'.heap.size := by (try simp at hsz); omega); try (have hz2 : w.heap.size + 1 + 1 < w'.heap.size := by (try simp at hsz); omega); try (have hz3 : w.heap.size + 1 + 1 + 1 < w'.heap.size := by (try simp at hsz); omega); try (have hz4 : w.heap.size + 1 + 1 + 1 + 1 < w'.heap.size := by (try simp at hsz); omega); try (have hzr : wr.heap.size < w'.heap.size := by (try simp at hsz); omega); try (have hzr1 : wr.heap.size + 1 < w'.heap.size := by (try simp at hsz); omega))
    go_ret
    exact ⟨rfl, (by repeat (first | exact Bw.refl _ | assumption | refine Bw.alloc ?_ _ | refine Bw.drew ?_ | refine Bw.trans ?_ (by assumption) | refine Bw.setCell ?_ (by simp; try omega) _))⟩
  · have hle : ps.length ≤ 300 := by omega
    clear hl
    have HL := fun w h => Least_any bits ps (.slice a0 ps.length c0) w h
    have HR := fun w h => RLeast_any bits ps (.slice a0 ps.length c0) w h
    have HA := fun w h => Adapt_any b s ps (.slice a0 ps.length c0) w h
    have HB := fun w h => RAdapt_any b s ps (.slice a0 ps.length c0) w h
    unfold LeastP at HL HR
    unfold AdaptP at HA HB
    generalize leastV bits ps = lv at HL HR
    generalize adaptV b s ps = av at HA HB
    generalize errQ b s ps = er at HA HB
    obtain ⟨l0, l1, l2⟩ := lv
    obtain ⟨a0', a1'⟩ := av
    have HK := Lib.hid (And.intro HL (And.intro HR (And.intro HA HB)))
    clear HL HR HA HB
    go_enter Try.func5, Try.ntmps5
    go_wp2_with fail
    refine (HK.out.1 _ (HV.out.mono (by repeat (first | exact Bw.refl _ | assumption | refine Bw.alloc ?_ _ | refine Bw.drew ?_ | refine Bw.trans ?_ (by assumption) | refine Bw.setCell ?_ (by simp; try omega) _)))).mono ?_
    rintro e w1 ⟨rfl, b1⟩
    obtain ⟨g0, g1, g2⟩ := alloc2 b1
    have B1 : Bw w w1 := (by repeat (first | exact Bw.refl _ | assumption | refine Bw.alloc ?_ _ | refine Bw.drew ?_ | refine Bw.trans ?_ (by assumption) | refine Bw.setCell ?_ (by simp; try omega) _))
    clear b1
    go_wp2_with fail
    refine (HK.out.2.1 _ (HV.out.mono (B1.trans (Bw.alloc (Bw.refl _) _)))).mono ?_
    rintro e w2 ⟨rfl, b2⟩
    obtain ⟨p0, p1, p2⟩ := alloc2 b2
    have B12 := (Bw.alloc (Bw.refl _) _).trans b2
    have B2 := B1.trans B12
    have g2' : w.heap.size < w2.heap.size := by omega
    rw [← B12.cells.1 _ _ g2] at g0 g1
    clear b2 B12
    go_wp2_with fail
    refine (HK.out.2.2.1 _ (HV.out.mono (B2.trans (Bw.alloc (Bw.refl _) _)))).mono ?_
    rintro e w3 ⟨rfl, b3⟩
    obtain ⟨r0, r1, r2⟩ := alloc2 b3
    have B23 := (Bw.alloc (Bw.refl _) _).trans b3
    have B3 := B2.trans B23
    rw [← B23.cells.1 _ _ g2'] at g0 g1
    rw [← B23.cells.1 _ _ p2] at p0 p1
    have g2'' : w.heap.size < w3.heap.size := by omega
    have p2' : w1.heap.size < w3.heap.size := by omega
    clear b3 B23
    go_wp2_with fail
    refine (HK.out.2.2.2 _ (HV.out.mono (B3.trans (Bw.alloc (Bw.refl _) _)))).mono ?_
    rintro e w4 ⟨rfl, b4⟩
    obtain ⟨t0, t1, t2⟩ := alloc2 b4
    have B34 := (Bw.alloc (Bw.refl _) _).trans b4
    have B4 := B3.trans B34
    rw [← B34.cells.1 _ _ g2''] at g0 g1
    rw [← B34.cells.1 _ _ p2'] at p0 p1
    rw [← B34.cells.1 _ _ r2] at r0 r1
    have p2'' : w1.heap.size < w4.heap.size := by omega
    have r2' : w2.heap.size < w4.heap.size := by omega
    clear b4 B34 g2 g2' g2'' p2 p2' r2 g0 g1
    go_wp2_with (go_at_call 16; refine (awake_any _).mono ?_; rintro e w' ⟨rfl, hb⟩; obtain ⟨hcc, hff⟩ := Bw.cells hb; have hsz := Bw.size hb; try (have hz0 : w.heap.size < w'.heap.size := by (try simp at hsz); omega); try (have hz1 : w.heap.size + 1 < w'.heap.size := by (try simp at hsz); omega); try (have hz2 : w.heap.size + 1 + 1 < w'.heap.size := by (try simp at hsz); omega); try (have hz3 : w.heap.size + 1 + 1 + 1 < w'.heap.size := by (try simp at hsz); omega); try (have hz4 : w.heap.size + 1 + 1 + 1 + 1 < w'.heap.size := by (try simp at hsz); omega); try (have hzr : wr.heap.size < w'.heap.size := by (try simp at hsz); omega); try (have hzr1 : wr.heap.size + 1 < w'.heap.size := by (try simp at hsz); omega))
    go_ret
    exact ⟨rfl, (by repeat (first | exact Bw.refl _ | assumption | refine Bw.alloc ?_ _ | refine Bw.drew ?_ | refine Bw.trans ?_ (by assumption) | refine Bw.setCell ?_ (by simp; try omega) _))⟩
end Go.Proofs.Sky
