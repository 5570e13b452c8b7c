/-
  lemmas for the theorems of this claim. No conditions beyond those written in the statements.
-/
import Derived.Test.YtmilfedbggbpdaaD13
set_option linter.unusedVariables false
set_option linter.unusedSimpArgs false
set_option linter.unnecessarySimpa false
namespace Go.Proofs.Sky
open Go Go.RowKit
set_option maxHeartbeats 1000000
def M46 : Int := 70368744177664
def levOk (b s x : Int) : Bool := okG b s && inI 70368744177664 x
def levY (b s x : Int) : Int := if levOk b s x then clampI (rnd x s.toNat) (gq b) else 0
def levL (b s x : Int) : Bool := if levOk b s x then clampI (rnd x s.toNat) (gq b) != rnd x s.toNat else false
def levE (b s x : Int) : Int := if levOk b s x then 0 else 2
theorem lev_ok {b s x : Int} (h : 2 ≤ b ∧ b ≤ 8 ∧ 0 ≤ s ∧ s ≤ 30) (h' : -70368744177664 ≤ x ∧ x ≤ 70368744177664) : levY b s x = clampI (rnd x s.toNat) (gq b) ∧ levL b s x = (clampI (rnd x s.toNat) (gq b) != rnd x s.toNat) ∧ levE b s x = 0 := by
  have : levOk b s x = true := by unfold levOk; rw [(okG_iff b s).2 h, inI_t h'.1 h'.2]; rfl
  simp [levY, levL, levE, this]
theorem lev_no {b s x : Int} (h : ¬ ((2 ≤ b ∧ b ≤ 8 ∧ 0 ≤ s ∧ s ≤ 30) ∧ -70368744177664 ≤ x ∧ x ≤ 70368744177664)) : levY b s x = 0 ∧ levL b s x = false ∧ levE b s x = 2 := by
  have : levOk b s x = false := by
    unfold levOk
    by_cases h1 : 2 ≤ b ∧ b ≤ 8 ∧ 0 ≤ s ∧ s ≤ 30
    · rw [inI_f (by omega)]; simp
    · rw [okG_not _ _ h1]; rfl
  simp [levY, levL, levE, this]
theorem Level_any (b s x : Int) (w : World) :
    Calls Try.prog 10 #[.agg #[.int .i64 b, .int .i64 s], .int .i64 x] w fun e w' => e = .returned (.tuple #[.int .i64 (levY b s x), .bool (levL b s x), .int .i64 (levE b s x)]) ∧ Bw w w' := by
  by_cases hx : -70368744177664 ≤ x ∧ x ≤ 70368744177664
  · by_cases hG : 2 ≤ b ∧ b ≤ 8 ∧ 0 ≤ s ∧ s ≤ 30
    · obtain ⟨e1, e2, e3⟩ := lev_ok hG hx
      rw [e1, e2, e3]; clear e1 e2 e3
      have HC := Lib.hid (fun w => check_any b s w)
      rw [errG_ok b s hG] at HC
      obtain ⟨g1, g2, g3, g4⟩ := hG
      obtain ⟨x1, x2⟩ := hx
      go_enter Try.func10, Try.ntmps10
      go_wp2_with (first | (go_at_call 14; refine (HC.out _).mono ?_; rintro e w' ⟨rfl, hb⟩; obtain ⟨hcc, hff⟩ := Bw.cells hb; have hsz := Bw.size hb; try (have hz0 : w.heap.size < w'.heap.size := by (try simp at hsz); omega); try (have hz1 : w.heap.size + 1 < w'.heap.size := by (try simp at hsz); omega); try (have hz2 : w.heap.size + 1 + 1 < w'.heap.size := by (try simp at hsz); omega); try (have hz3 : w.heap.size + 1 + 1 + 1 < w'.heap.size := by (try simp at hsz); omega); try (have hz4 : w.heap.size + 1 + 1 + 1 + 1 < w'.heap.size := by (try simp at hsz); omega); try (have hzr : wr.heap.size < w'.heap.size := by (try simp at hsz); omega); try (have hzr1 : wr.heap.size + 1 < w'.heap.size := by (try simp at hsz); omega)) | (go_at_call 31; refine (level_any _ _ _ (by omega) (by omega) (by omega) (by omega) (by omega) (by omega) _).mono ?_; rintro e w' ⟨rfl, hb⟩; obtain ⟨hcc, hff⟩ := Bw.cells hb; have hsz := Bw.size hb; try (have hz0 : w.heap.size < w'.heap.size := by (try simp at hsz); omega); try (have hz1 : w.heap.size + 1 < w'.heap.size := by (try simp at hsz); omega); try (have hz2 : w.heap.size + 1 + 1 < w'.heap.size := by (try simp at hsz); omega); try (have hz3 : w.heap.size + 1 + 1 + 1 < w'.heap.size := by (try simp at hsz); omega); try (have hz4 : w.heap.size + 1 + 1 + 1 + 1 < w'.heap.size := by (try simp at hsz); omega); try (have hzr : wr.heap.size < w'.heap.size := by (try simp at hsz); omega); try (have hzr1 : wr.heap.size + 1 < w'.heap.size := by (try simp at hsz); omega)))
      go_ret3
      exact ⟨rfl, (by repeat (first | exact Bw.refl _ | assumption | refine Bw.alloc ?_ _ | refine Bw.drew ?_ | refine Bw.trans ?_ (by assumption) | refine Bw.setCell ?_ (by simp; try omega) _))⟩
    · obtain ⟨e1, e2, e3⟩ := lev_no (b := b) (s := s) (x := x) (by omega)
      rw [e1, e2, e3]; clear e1 e2 e3
      have HC := Lib.hid (fun w => check_any b s w)
      rw [errG_no b s hG] at HC
      clear hG
      obtain ⟨x1, x2⟩ := hx
      go_enter Try.func10, Try.ntmps10
      go_wp2_with (go_at_call 14; refine (HC.out _).mono ?_; rintro e w' ⟨rfl, hb⟩; obtain ⟨hcc, hff⟩ := Bw.cells hb; have hsz := Bw.size hb; try (have hz0 : w.heap.size < w'.heap.size := by (try simp at hsz); omega); try (have hz1 : w.heap.size + 1 < w'.heap.size := by (try simp at hsz); omega); try (have hz2 : w.heap.size + 1 + 1 < w'.heap.size := by (try simp at hsz); omega); try (have hz3 : w.heap.size + 1 + 1 + 1 < w'.heap.size := by (try simp at hsz); omega); try (have hz4 : w.heap.size + 1 + 1 + 1 + 1 < w'.heap.size := by (try simp at hsz); omega); try (have hzr : wr.heap.size < w'.heap.size := by (try simp at hsz); omega); try (have hzr1 : wr.heap.size + 1 < w'.heap.size := by (try simp at hsz); omega))
      go_ret3
      exact ⟨rfl, (by repeat (first | exact Bw.refl _ | assumption | refine Bw.alloc ?_ _ | refine Bw.drew ?_ | refine Bw.trans ?_ (by assumption) | refine Bw.setCell ?_ (by simp; try omega) _))⟩
  · obtain ⟨e1, e2, e3⟩ := lev_no (b := b) (s := s) (x := x) (by omega)
    rw [e1, e2, e3]; clear e1 e2 e3
    have HX := Lib.hid hx; clear hx
    have HC := Lib.hid (fun w => check_any b s w)
    cases hG : okG b s with
    | true =>
      rw [show errG b s = 0 by unfold errG; rw [hG]; rfl] at HC
      clear hG
      go_enter Try.func10, Try.ntmps10
      go_wp2_with (go_at_call 14; refine (HC.out _).mono ?_; rintro e w' ⟨rfl, hb⟩; obtain ⟨hcc, hff⟩ := Bw.cells hb; have hsz := Bw.size hb; try (have hz0 : w.heap.size < w'.heap.size := by (try simp at hsz); omega); try (have hz1 : w.heap.size + 1 < w'.heap.size := by (try simp at hsz); omega); try (have hz2 : w.heap.size + 1 + 1 < w'.heap.size := by (try simp at hsz); omega); try (have hz3 : w.heap.size + 1 + 1 + 1 < w'.heap.size := by (try simp at hsz); omega); try (have hz4 : w.heap.size + 1 + 1 + 1 + 1 < w'.heap.size := by (try simp at hsz); omega); try (have hzr : wr.heap.size < w'.heap.size := by (try simp at hsz); omega); try (have hzr1 : wr.heap.size + 1 < w'.heap.size := by (try simp at hsz); omega))
      all_goals first | (exfalso; have := HX.out; omega) | (go_ret3; exact ⟨rfl, (by repeat (first | exact Bw.refl _ | assumption | refine Bw.alloc ?_ _ | refine Bw.drew ?_ | refine Bw.trans ?_ (by assumption) | refine Bw.setCell ?_ (by simp; try omega) _))⟩)
    | false =>
      rw [show errG b s = 2 by unfold errG; rw [hG]; rfl] at HC
      clear hG
      go_enter Try.func10, Try.ntmps10
      go_wp2_with (go_at_call 14; refine (HC.out _).mono ?_; rintro e w' ⟨rfl, hb⟩; obtain ⟨hcc, hff⟩ := Bw.cells hb; have hsz := Bw.size hb; try (have hz0 : w.heap.size < w'.heap.size := by (try simp at hsz); omega); try (have hz1 : w.heap.size + 1 < w'.heap.size := by (try simp at hsz); omega); try (have hz2 : w.heap.size + 1 + 1 < w'.heap.size := by (try simp at hsz); omega); try (have hz3 : w.heap.size + 1 + 1 + 1 < w'.heap.size := by (try simp at hsz); omega); try (have hz4 : w.heap.size + 1 + 1 + 1 + 1 < w'.heap.size := by (try simp at hsz); omega); try (have hzr : wr.heap.size < w'.heap.size := by (try simp at hsz); omega); try (have hzr1 : wr.heap.size + 1 < w'.heap.size := by (try simp at hsz); omega))
      all_goals (go_ret3; exact ⟨rfl, (by repeat (first | exact Bw.refl _ | assumption | refine Bw.alloc ?_ _ | refine Bw.drew ?_ | refine Bw.trans ?_ (by assumption) | refine Bw.setCell ?_ (by simp; try omega) _))⟩)
theorem RLevel_any (b s x : Int) (w : World) :
    Calls Try.prog 11 #[.agg #[.int .i64 b, .int .i64 s], .int .i64 x] w fun e w' => e = .returned (.tuple #[.int .i64 (levY b s x), .bool (levL b s x), .int .i64 (levE b s x)]) ∧ Bw w w' := by
  by_cases hx : -70368744177664 ≤ x ∧ x ≤ 70368744177664
  · by_cases hG : 2 ≤ b ∧ b ≤ 8 ∧ 0 ≤ s ∧ s ≤ 30
    · obtain ⟨e1, e2, e3⟩ := lev_ok hG hx
      rw [e1, e2, e3]; clear e1 e2 e3
      have HC := Lib.hid (fun w => rcheck_any b s w)
      rw [errG_ok b s hG] at HC
      have HP := Lib.hid (fun w => part_any x w)
      rw [decide_eq_true hx] at HP
      obtain ⟨g1, g2, g3, g4⟩ := hG
      obtain ⟨x1, x2⟩ := hx
      go_enter Try.func11, Try.ntmps11
      go_wp2_with (first | (go_at_call 15; refine (HC.out _).mono ?_; rintro e w' ⟨rfl, hb⟩; obtain ⟨hcc, hff⟩ := Bw.cells hb; have hsz := Bw.size hb; try (have hz0 : w.heap.size < w'.heap.size := by (try simp at hsz); omega); try (have hz1 : w.heap.size + 1 < w'.heap.size := by (try simp at hsz); omega); try (have hz2 : w.heap.size + 1 + 1 < w'.heap.size := by (try simp at hsz); omega); try (have hz3 : w.heap.size + 1 + 1 + 1 < w'.heap.size := by (try simp at hsz); omega); try (have hz4 : w.heap.size + 1 + 1 + 1 + 1 < w'.heap.size := by (try simp at hsz); omega); try (have hzr : wr.heap.size < w'.heap.size := by (try simp at hsz); omega); try (have hzr1 : wr.heap.size + 1 < w'.heap.size := by (try simp at hsz); omega)) | (go_at_call 32; refine (HP.out _).mono ?_; rintro e w' ⟨rfl, hb⟩; obtain ⟨hcc, hff⟩ := Bw.cells hb; have hsz := Bw.size hb; try (have hz0 : w.heap.size < w'.heap.size := by (try simp at hsz); omega); try (have hz1 : w.heap.size + 1 < w'.heap.size := by (try simp at hsz); omega); try (have hz2 : w.heap.size + 1 + 1 < w'.heap.size := by (try simp at hsz); omega); try (have hz3 : w.heap.size + 1 + 1 + 1 < w'.heap.size := by (try simp at hsz); omega); try (have hz4 : w.heap.size + 1 + 1 + 1 + 1 < w'.heap.size := by (try simp at hsz); omega); try (have hzr : wr.heap.size < w'.heap.size := by (try simp at hsz); omega); try (have hzr1 : wr.heap.size + 1 < w'.heap.size := by (try simp at hsz); omega)) | (go_at_call 33; refine (rlevel_any _ _ _ (by omega) (by omega) (by omega) (by omega) (by omega) (by omega) _).mono ?_; rintro e w' ⟨rfl, hb⟩; obtain ⟨hcc, hff⟩ := Bw.cells hb; have hsz := Bw.size hb; try (have hz0 : w.heap.size < w'.heap.size := by (try simp at hsz); omega); try (have hz1 : w.heap.size + 1 < w'.heap.size := by (try simp at hsz); omega); try (have hz2 : w.heap.size + 1 + 1 < w'.heap.size := by (try simp at hsz); omega); try (have hz3 : w.heap.size + 1 + 1 + 1 < w'.heap.size := by (try simp at hsz); omega); try (have hz4 : w.heap.size + 1 + 1 + 1 + 1 < w'.heap.size := by (try simp at hsz); omega); try (have hzr : wr.heap.size < w'.heap.size := by (try simp at hsz); omega); try (have hzr1 : wr.heap.size + 1 < w'.heap.size := by (try simp at hsz); omega)))
      go_ret3
      exact ⟨rfl, (by repeat (first | exact Bw.refl _ | assumption | refine Bw.alloc ?_ _ | refine Bw.drew ?_ | refine Bw.trans ?_ (by assumption) | refine Bw.setCell ?_ (by simp; try omega) _))⟩
    · obtain ⟨e1, e2, e3⟩ := lev_no (b := b) (s := s) (x := x) (by omega)
      rw [e1, e2, e3]; clear e1 e2 e3
      have HC := Lib.hid (fun w => rcheck_any b s w)
      rw [errG_no b s hG] at HC
      clear hG hx
      go_enter Try.func11, Try.ntmps11
      go_wp2_with (go_at_call 15; refine (HC.out _).mono ?_; rintro e w' ⟨rfl, hb⟩; obtain ⟨hcc, hff⟩ := Bw.cells hb; have hsz := Bw.size hb; try (have hz0 : w.heap.size < w'.heap.size := by (try simp at hsz); omega); try (have hz1 : w.heap.size + 1 < w'.heap.size := by (try simp at hsz); omega); try (have hz2 : w.heap.size + 1 + 1 < w'.heap.size := by (try simp at hsz); omega); try (have hz3 : w.heap.size + 1 + 1 + 1 < w'.heap.size := by (try simp at hsz); omega); try (have hz4 : w.heap.size + 1 + 1 + 1 + 1 < w'.heap.size := by (try simp at hsz); omega); try (have hzr : wr.heap.size < w'.heap.size := by (try simp at hsz); omega); try (have hzr1 : wr.heap.size + 1 < w'.heap.size := by (try simp at hsz); omega))
      go_ret3
      exact ⟨rfl, (by repeat (first | exact Bw.refl _ | assumption | refine Bw.alloc ?_ _ | refine Bw.drew ?_ | refine Bw.trans ?_ (by assumption) | refine Bw.setCell ?_ (by simp; try omega) _))⟩
  · obtain ⟨e1, e2, e3⟩ := lev_no (b := b) (s := s) (x := x) (by omega)
    rw [e1, e2, e3]; clear e1 e2 e3
    have HP := Lib.hid (fun w => part_any x w)
    rw [decide_eq_false hx] at HP
    clear hx
    have HC := Lib.hid (fun w => rcheck_any b s w)
    cases hG : okG b s with
    | true =>
      rw [show errG b s = 0 by unfold errG; rw [hG]; rfl] at HC
      clear hG
      go_enter Try.func11, Try.ntmps11
      go_wp2_with (first | (go_at_call 15; refine (HC.out _).mono ?_; rintro e w' ⟨rfl, hb⟩; obtain ⟨hcc, hff⟩ := Bw.cells hb; have hsz := Bw.size hb; try (have hz0 : w.heap.size < w'.heap.size := by (try simp at hsz); omega); try (have hz1 : w.heap.size + 1 < w'.heap.size := by (try simp at hsz); omega); try (have hz2 : w.heap.size + 1 + 1 < w'.heap.size := by (try simp at hsz); omega); try (have hz3 : w.heap.size + 1 + 1 + 1 < w'.heap.size := by (try simp at hsz); omega); try (have hz4 : w.heap.size + 1 + 1 + 1 + 1 < w'.heap.size := by (try simp at hsz); omega); try (have hzr : wr.heap.size < w'.heap.size := by (try simp at hsz); omega); try (have hzr1 : wr.heap.size + 1 < w'.heap.size := by (try simp at hsz); omega)) | (go_at_call 32; refine (HP.out _).mono ?_; rintro e w' ⟨rfl, hb⟩; obtain ⟨hcc, hff⟩ := Bw.cells hb; have hsz := Bw.size hb; try (have hz0 : w.heap.size < w'.heap.size := by (try simp at hsz); omega); try (have hz1 : w.heap.size + 1 < w'.heap.size := by (try simp at hsz); omega); try (have hz2 : w.heap.size + 1 + 1 < w'.heap.size := by (try simp at hsz); omega); try (have hz3 : w.heap.size + 1 + 1 + 1 < w'.heap.size := by (try simp at hsz); omega); try (have hz4 : w.heap.size + 1 + 1 + 1 + 1 < w'.heap.size := by (try simp at hsz); omega); try (have hzr : wr.heap.size < w'.heap.size := by (try simp at hsz); omega); try (have hzr1 : wr.heap.size + 1 < w'.heap.size := by (try simp at hsz); omega)))
      go_ret3
      exact ⟨rfl, (by repeat (first | exact Bw.refl _ | assumption | refine Bw.alloc ?_ _ | refine Bw.drew ?_ | refine Bw.trans ?_ (by assumption) | refine Bw.setCell ?_ (by simp; try omega) _))⟩
    | false =>
      rw [show errG b s = 2 by unfold errG; rw [hG]; rfl] at HC
      clear hG
      go_enter Try.func11, Try.ntmps11
      go_wp2_with (go_at_call 15; refine (HC.out _).mono ?_; rintro e w' ⟨rfl, hb⟩; obtain ⟨hcc, hff⟩ := Bw.cells hb; have hsz := Bw.size hb; try (have hz0 : w.heap.size < w'.heap.size := by (try simp at hsz); omega); try (have hz1 : w.heap.size + 1 < w'.heap.size := by (try simp at hsz); omega); try (have hz2 : w.heap.size + 1 + 1 < w'.heap.size := by (try simp at hsz); omega); try (have hz3 : w.heap.size + 1 + 1 + 1 < w'.heap.size := by (try simp at hsz); omega); try (have hz4 : w.heap.size + 1 + 1 + 1 + 1 < w'.heap.size := by (try simp at hsz); omega); try (have hzr : wr.heap.size < w'.heap.size := by (try simp at hsz); omega); try (have hzr1 : wr.heap.size + 1 < w'.heap.size := by (try simp at hsz); omega))
      go_ret3
      exact ⟨rfl, (by repeat (first | exact Bw.refl _ | assumption | refine Bw.alloc ?_ _ | refine Bw.drew ?_ | refine Bw.trans ?_ (by assumption) | refine Bw.setCell ?_ (by simp; try omega) _))⟩
def coarse (b s : Int) : Int := if okG b s then 2 ^ s.toNat / 2 else 0
theorem Coarse_any (b s : Int) (w : World) : Calls Try.prog 12 #[.agg #[.int .i64 b, .int .i64 s]] w fun e w' => e = .returned (.tuple #[.int .i64 (coarse b s), .int .i64 (errG b s)]) ∧ Bw w w' := by
  have HC := Lib.hid (fun w => check_any b s w)
  by_cases hG : 2 ≤ b ∧ b ≤ 8 ∧ 0 ≤ s ∧ s ≤ 30
  · rw [errG_ok b s hG] at HC ⊢
    rw [show coarse b s = 2 ^ s.toNat / 2 by unfold coarse; rw [(okG_iff b s).2 hG]; rfl]
    have ⟨p1, p2⟩ := pow30 s.toNat (by omega)
    obtain ⟨g1, g2, g3, g4⟩ := hG
    go_enter Try.func12, Try.ntmps12
    go_wp2_with (go_at_call 14; refine (HC.out _).mono ?_; rintro e w' ⟨rfl, hb⟩; obtain ⟨hcc, hff⟩ := Bw.cells hb; have hsz := Bw.size hb; try (have hz0 : w.heap.size < w'.heap.size := by (try simp at hsz); omega); try (have hz1 : w.heap.size + 1 < w'.heap.size := by (try simp at hsz); omega); try (have hz2 : w.heap.size + 1 + 1 < w'.heap.size := by (try simp at hsz); omega); try (have hz3 : w.heap.size + 1 + 1 + 1 < w'.heap.size := by (try simp at hsz); omega); try (have hz4 : w.heap.size + 1 + 1 + 1 + 1 < w'.heap.size := by (try simp at hsz); omega); try (have hzr : wr.heap.size < w'.heap.size := by (try simp at hsz); omega); try (have hzr1 : wr.heap.size + 1 < w'.heap.size := by (try simp at hsz); omega))
    go_ret2
    exact ⟨rfl, (by repeat (first | exact Bw.refl _ | assumption | refine Bw.alloc ?_ _ | refine Bw.drew ?_ | refine Bw.trans ?_ (by assumption) | refine Bw.setCell ?_ (by simp; try omega) _))⟩
  · rw [errG_no b s hG] at HC ⊢
    rw [show coarse b s = 0 by unfold coarse; rw [okG_not b s hG]; rfl]
    clear hG
    go_enter Try.func12, Try.ntmps12
    go_wp2_with (go_at_call 14; refine (HC.out _).mono ?_; rintro e w' ⟨rfl, hb⟩; obtain ⟨hcc, hff⟩ := Bw.cells hb; have hsz := Bw.size hb; try (have hz0 : w.heap.size < w'.heap.size := by (try simp at hsz); omega); try (have hz1 : w.heap.size + 1 < w'.heap.size := by (try simp at hsz); omega); try (have hz2 : w.heap.size + 1 + 1 < w'.heap.size := by (try simp at hsz); omega); try (have hz3 : w.heap.size + 1 + 1 + 1 < w'.heap.size := by (try simp at hsz); omega); try (have hz4 : w.heap.size + 1 + 1 + 1 + 1 < w'.heap.size := by (try simp at hsz); omega); try (have hzr : wr.heap.size < w'.heap.size := by (try simp at hsz); omega); try (have hzr1 : wr.heap.size + 1 < w'.heap.size := by (try simp at hsz); omega))
    go_ret2
    exact ⟨rfl, (by repeat (first | exact Bw.refl _ | assumption | refine Bw.alloc ?_ _ | refine Bw.drew ?_ | refine Bw.trans ?_ (by assumption) | refine Bw.setCell ?_ (by simp; try omega) _))⟩
theorem RCoarse_any (b s : Int) (w : World) : Calls Try.prog 13 #[.agg #[.int .i64 b, .int .i64 s]] w fun e w' => e = .returned (.tuple #[.int .i64 (coarse b s), .int .i64 (errG b s)]) ∧ Bw w w' := by
  have HC := Lib.hid (fun w => rcheck_any b s w)
  by_cases hG : 2 ≤ b ∧ b ≤ 8 ∧ 0 ≤ s ∧ s ≤ 30
  · rw [errG_ok b s hG] at HC ⊢
    rw [show coarse b s = 2 ^ s.toNat / 2 by unfold coarse; rw [(okG_iff b s).2 hG]; rfl]
    have ⟨p1, p2⟩ := pow30 s.toNat (by omega)
    obtain ⟨g1, g2, g3, g4⟩ := hG
    go_enter Try.func13, Try.ntmps13
    go_wp2_with (go_at_call 15; refine (HC.out _).mono ?_; rintro e w' ⟨rfl, hb⟩; obtain ⟨hcc, hff⟩ := Bw.cells hb; have hsz := Bw.size hb; try (have hz0 : w.heap.size < w'.heap.size := by (try simp at hsz); omega); try (have hz1 : w.heap.size + 1 < w'.heap.size := by (try simp at hsz); omega); try (have hz2 : w.heap.size + 1 + 1 < w'.heap.size := by (try simp at hsz); omega); try (have hz3 : w.heap.size + 1 + 1 + 1 < w'.heap.size := by (try simp at hsz); omega); try (have hz4 : w.heap.size + 1 + 1 + 1 + 1 < w'.heap.size := by (try simp at hsz); omega); try (have hzr : wr.heap.size < w'.heap.size := by (try simp at hsz); omega); try (have hzr1 : wr.heap.size + 1 < w'.heap.size := by (try simp at hsz); omega))
    go_ret2
    exact ⟨rfl, (by repeat (first | exact Bw.refl _ | assumption | refine Bw.alloc ?_ _ | refine Bw.drew ?_ | refine Bw.trans ?_ (by assumption) | refine Bw.setCell ?_ (by simp; try omega) _))⟩
  · rw [errG_no b s hG] at HC ⊢
    rw [show coarse b s = 0 by unfold coarse; rw [okG_not b s hG]; rfl]
    clear hG
    go_enter Try.func13, Try.ntmps13
    go_wp2_with (go_at_call 15; refine (HC.out _).mono ?_; rintro e w' ⟨rfl, hb⟩; obtain ⟨hcc, hff⟩ := Bw.cells hb; have hsz := Bw.size hb; try (have hz0 : w.heap.size < w'.heap.size := by (try simp at hsz); omega); try (have hz1 : w.heap.size + 1 < w'.heap.size := by (try simp at hsz); omega); try (have hz2 : w.heap.size + 1 + 1 < w'.heap.size := by (try simp at hsz); omega); try (have hz3 : w.heap.size + 1 + 1 + 1 < w'.heap.size := by (try simp at hsz); omega); try (have hz4 : w.heap.size + 1 + 1 + 1 + 1 < w'.heap.size := by (try simp at hsz); omega); try (have hzr : wr.heap.size < w'.heap.size := by (try simp at hsz); omega); try (have hzr1 : wr.heap.size + 1 < w'.heap.size := by (try simp at hsz); omega))
    go_ret2
    exact ⟨rfl, (by repeat (first | exact Bw.refl _ | assumption | refine Bw.alloc ?_ _ | refine Bw.drew ?_ | refine Bw.trans ?_ (by assumption) | refine Bw.setCell ?_ (by simp; try omega) _))⟩
end Go.Proofs.Sky
