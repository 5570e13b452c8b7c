/-
  lemmas for the theorems of this claim. No conditions beyond those written in the statements.
-/
import Derived.Test.YtmilfedbggbpdaaC13
set_option linter.unusedVariables false
set_option linter.unusedSimpArgs false
set_option linter.unnecessarySimpa false
namespace Go.Proofs.Sky
open Go Go.RowKit
set_option maxHeartbeats 1000000
theorem level_any (b s x : Int) (hb1 : 2 ≤ b) (hb2 : b ≤ 8) (h : 0 ≤ s) (h' : s ≤ 30) (h1 : -70368744177664 ≤ x) (h2 : x ≤ 70368744177664) (w : World) :
    Calls Try.prog 31 #[.agg #[.int .i64 b, .int .i64 s], .int .i64 x] w fun e w' => e = .returned (.tuple #[.int .i64 (clampI (rnd x s.toNat) (gq b)), .bool (clampI (rnd x s.toNat) (gq b) != rnd x s.toNat)]) ∧ Bw w w' := by
  have ⟨g1, g2⟩ := gq_bd b hb1 hb2
  have ⟨r1, r2⟩ := rnd_bd x s.toNat h1 h2
  have HE := Lib.hid (clampI_ite (rnd x s.toNat) (gq b) (by omega))
  have c0 := fun p : Ext _ => Ext.cell (w := w.alloc (Obj.cells #[Value.int IntKind.i64 b, Value.int IntKind.i64 s] 23)) (b := w.heap.size) (o := 0) (v := .int .i64 b) (by simp) (by simp [go_sem]) p
  have c1 := fun p : Ext _ => Ext.cell (w := w.alloc (Obj.cells #[Value.int IntKind.i64 b, Value.int IntKind.i64 s] 23)) (b := w.heap.size) (o := 1) (v := .int .i64 s) (by simp) (by simp [go_sem]) p
  go_enter Try.func31, Try.ntmps31
  go_wp2
  (refine wp_region_quiet_ext (by kernel_rfl) (by kernel_rfl) ?_; (repeat (go_big_quiet_step ((first | (go_at_call 44; refine Calls.ext_of (rounded_any _ _ (by omega) (by omega) (by omega) (by omega) _)) | (go_at_call 38; refine Calls.ext_of (greatest_any _ _ (by omega) (by omega) _)))))); refine wpQuiet_nil ?_; rintro wq ⟨⟨_, hbq⟩, rfl⟩; obtain ⟨hccq, hffq⟩ := Bw.cells hbq; have hszq := Bw.size hbq)
  clear c0 c1 hccq hffq
  by_cases hh : rnd x s.toNat < -gq b
  · rw [if_pos hh] at HE
    go_wp2
    all_goals first | (exfalso; omega) | (go_ret2; refine ⟨by rw [HE.out]; first | rfl | simp, (by repeat (first | exact Bw.refl _ | assumption | refine Bw.alloc ?_ _ | refine Bw.drew ?_ | refine Bw.trans ?_ (by assumption) | refine Bw.setCell ?_ (by simp; try omega) _))⟩)
  · by_cases h5 : gq b < rnd x s.toNat
    · rw [if_neg (by omega), if_pos (by omega)] at HE
      go_wp2
      all_goals first | (exfalso; omega) | (go_ret2; refine ⟨by rw [HE.out]; first | rfl | simp, (by repeat (first | exact Bw.refl _ | assumption | refine Bw.alloc ?_ _ | refine Bw.drew ?_ | refine Bw.trans ?_ (by assumption) | refine Bw.setCell ?_ (by simp; try omega) _))⟩)
    · rw [if_neg (by omega), if_neg (by omega)] at HE
      go_wp2
      all_goals first | (exfalso; omega) | (go_ret2; refine ⟨by rw [HE.out]; first | rfl | simp, (by repeat (first | exact Bw.refl _ | assumption | refine Bw.alloc ?_ _ | refine Bw.drew ?_ | refine Bw.trans ?_ (by assumption) | refine Bw.setCell ?_ (by simp; try omega) _))⟩)
theorem rlevel_any (b s x : Int) (hb1 : 2 ≤ b) (hb2 : b ≤ 8) (h : 0 ≤ s) (h' : s ≤ 30) (h1 : -70368744177664 ≤ x) (h2 : x ≤ 70368744177664) (w : World) :
    Calls Try.prog 33 #[.agg #[.int .i64 b, .int .i64 s], .int .i64 x] w fun e w' => e = .returned (.tuple #[.int .i64 (clampI (rnd x s.toNat) (gq b)), .bool (clampI (rnd x s.toNat) (gq b) != rnd x s.toNat)]) ∧ Bw w w' := by
  have ⟨g1, g2⟩ := gq_bd b hb1 hb2
  have ⟨r1, r2⟩ := rnd_bd x s.toNat h1 h2
  have HE := Lib.hid (clampI_ite (rnd x s.toNat) (gq b) (by omega))
  have c0 := fun p : Ext _ => Ext.cell (w := w.alloc (Obj.cells #[Value.int IntKind.i64 b, Value.int IntKind.i64 s] 23)) (b := w.heap.size) (o := 0) (v := .int .i64 b) (by simp) (by simp [go_sem]) p
  have c1 := fun p : Ext _ => Ext.cell (w := w.alloc (Obj.cells #[Value.int IntKind.i64 b, Value.int IntKind.i64 s] 23)) (b := w.heap.size) (o := 1) (v := .int .i64 s) (by simp) (by simp [go_sem]) p
  go_enter Try.func33, Try.ntmps33
  go_wp2
  (refine wp_region_quiet_ext (by kernel_rfl) (by kernel_rfl) ?_; (repeat (go_big_quiet_step ((first | (go_at_call 43; refine Calls.ext_of (rrounded_any _ _ (by omega) (by omega) (by omega) (by omega) _)) | (go_at_call 40; refine Calls.ext_of (rgreatest_any _ _ (by omega) (by omega) _)))))); refine wpQuiet_nil ?_; rintro wq ⟨⟨_, hbq⟩, rfl⟩; obtain ⟨hccq, hffq⟩ := Bw.cells hbq; have hszq := Bw.size hbq)
  clear c0 c1 hccq hffq
  by_cases hh : rnd x s.toNat < -gq b
  · rw [if_pos hh] at HE
    have HB := Lib.hid (show ((-gq b) != rnd x s.toNat) = true by simp; omega)
    go_wp2
    all_goals first | (exfalso; omega) | (go_ret2; refine ⟨by rw [HE.out, HB.out]; rfl, (by repeat (first | exact Bw.refl _ | assumption | refine Bw.alloc ?_ _ | refine Bw.drew ?_ | refine Bw.trans ?_ (by assumption) | refine Bw.setCell ?_ (by simp; try omega) _))⟩)
  · by_cases h5 : gq b < rnd x s.toNat
    · rw [if_neg (by omega), if_pos (by omega)] at HE
      have HB := Lib.hid (show ((gq b) != rnd x s.toNat) = true by simp; omega)
      go_wp2
      all_goals first | (exfalso; omega) | (go_ret2; refine ⟨by rw [HE.out, HB.out]; rfl, (by repeat (first | exact Bw.refl _ | assumption | refine Bw.alloc ?_ _ | refine Bw.drew ?_ | refine Bw.trans ?_ (by assumption) | refine Bw.setCell ?_ (by simp; try omega) _))⟩)
    · rw [if_neg (by omega), if_neg (by omega)] at HE
      have HB := Lib.hid (show (rnd x s.toNat != rnd x s.toNat) = false by simp)
      go_wp2
      all_goals first | (exfalso; omega) | (go_ret2; refine ⟨by rw [HE.out, HB.out]; rfl, (by repeat (first | exact Bw.refl _ | assumption | refine Bw.alloc ?_ _ | refine Bw.drew ?_ | refine Bw.trans ?_ (by assumption) | refine Bw.setCell ?_ (by simp; try omega) _))⟩)
end Go.Proofs.Sky
