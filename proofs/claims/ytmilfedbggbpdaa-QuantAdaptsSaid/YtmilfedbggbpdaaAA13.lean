/-
  lemmas for the theorems of this claim. No conditions beyond those written in the statements.
-/
import Derived.Test.YtmilfedbggbpdaaZ13
import Derived.Deep.Cut
set_option linter.unusedVariables false
set_option linter.unusedSimpArgs false
set_option linter.unnecessarySimpa false
namespace Go.Proofs.Sky
open Go Go.RowKit
set_option maxHeartbeats 1000000
def adS (b s : Int) (ps : List (Int × Int)) : Int := if (ps.length : Int) < 16 * lostN b s ps then min (s + 1) 30 else if 4 * pk s.toNat ps ≤ gq b then max (s - 1) 0 else s
def adaptV (b s : Int) (ps : List (Int × Int)) : Int × Int := if errQ b s ps = 0 then (b, adS b s ps) else (0, 0)
def AdaptP (b s : Int) (ps : List (Int × Int)) (e : Ending) : Prop := e = .returned (.tuple #[.agg #[.int .i64 (adaptV b s ps).1, .int .i64 (adaptV b s ps).2], .int .i64 (errQ b s ps)])
theorem adapt_err {b s : Int} {ps : List (Int × Int)} (h : errQ b s ps ≠ 0) : adaptV b s ps = (0, 0) := by unfold adaptV; rw [if_neg h]
theorem adapt_ok {b s : Int} {ps : List (Int × Int)} (h : errQ b s ps = 0) : adaptV b s ps = (b, adS b s ps) := by unfold adaptV; rw [if_pos h]
theorem lostN_bd' (b s : Int) (ps : List (Int × Int)) : 0 ≤ lostN b s ps ∧ lostN b s ps ≤ ps.length := by
  unfold lostN
  have h1 := List.length_filter_le (lostP b s) ps
  omega
structure AInv (w : World) (b s : Int) (wr : World) : Prop where
  bw : Bw w wr
  sz : w.heap.size + 1 < wr.heap.size
  c0 : wr.cell? ⟨w.heap.size, 0, none⟩ = some (.int .i64 b)
  c1 : wr.cell? ⟨w.heap.size, 1, none⟩ = some (.int .i64 s)
  f1 : wr.frozen? ⟨w.heap.size, 1, none⟩ = false
  r0 : wr.cell? ⟨w.heap.size + 1, 0, none⟩ = some (.int .i64 0)
  r1 : wr.cell? ⟨w.heap.size + 1, 1, none⟩ = some (.int .i64 0)
  g0 : wr.frozen? ⟨w.heap.size + 1, 0, none⟩ = false
  g1 : wr.frozen? ⟨w.heap.size + 1, 1, none⟩ = false
theorem AInv.mono {w : World} {b s : Int} {wr w2 : World} (h : AInv w b s wr) (hb : Bw wr w2) : AInv w b s w2 := by
  have sz := h.sz
  have sz' := hb.size
  exact ⟨h.bw.trans hb, by omega, by rw [hb.cells.1 _ _ (by omega)]; exact h.c0, by rw [hb.cells.1 _ _ (by omega)]; exact h.c1, by rw [hb.cells.2 _ _ (by omega)]; exact h.f1,
    by rw [hb.cells.1 _ _ (by omega)]; exact h.r0, by rw [hb.cells.1 _ _ (by omega)]; exact h.r1, by rw [hb.cells.2 _ _ (by omega)]; exact h.g0, by rw [hb.cells.2 _ _ (by omega)]; exact h.g1⟩
theorem AInv.step {w : World} {b s : Int} {wr : World} (h : AInv w b s wr) (s' : Int) : AInv w b s' (wr.setCell ⟨w.heap.size, 1, none⟩ (.int .i64 s')) := by
  have sz := h.sz
  have bw := h.bw
  exact ⟨Bw.setCell bw (by simp) _, by simpa using sz, by rw [cell_set_off _ _ _ _ _ (by omega)]; exact h.c0, by rw [cell_set_same _ _ _ _ h.c1], by rw [frozen_set]; exact h.f1,
    by rw [cell_set_ne _ _ _ _ _ _ (by omega)]; exact h.r0, by rw [cell_set_ne _ _ _ _ _ _ (by omega)]; exact h.r1, by rw [frozen_set]; exact h.g0, by rw [frozen_set]; exact h.g1⟩
theorem AInv.all {w : World} {b s : Int} {wr : World} (h : AInv w b s wr) : (w.heap.size + 1 < wr.heap.size ∧ w.heap.size < wr.heap.size) ∧ wr.cell? ⟨w.heap.size, 0, none⟩ = some (.int .i64 b) ∧ wr.cell? ⟨w.heap.size, 1, none⟩ = some (.int .i64 s) ∧ wr.frozen? ⟨w.heap.size, 1, none⟩ = false ∧
    wr.cell? ⟨w.heap.size + 1, 0, none⟩ = some (.int .i64 0) ∧ wr.cell? ⟨w.heap.size + 1, 1, none⟩ = some (.int .i64 0) ∧ wr.frozen? ⟨w.heap.size + 1, 0, none⟩ = false ∧ wr.frozen? ⟨w.heap.size + 1, 1, none⟩ = false :=
  ⟨⟨h.sz, by have := h.sz; omega⟩, h.c0, h.c1, h.f1, h.r0, h.r1, h.g0, h.g1⟩
theorem Adapt_any (b s : Int) (ps : List (Int × Int)) (v : Value) (w : World) (hv : RdS w v ps) :
    Calls Try.prog 27 #[v, .agg #[.int .i64 b, .int .i64 s]] w fun e w' => AdaptP b s ps e ∧ Bw w w' := by
  have HC := Lib.hid (fun w => check_any b s w)
  have HV := Lib.hid hv
  obtain ⟨a0, cc0, rfl⟩ := hv.form
  clear hv
  by_cases hG : 2 ≤ b ∧ b ≤ 8 ∧ 0 ≤ s ∧ s ≤ 30
  · rw [errG_ok b s hG] at HC
    have HD := Lib.hid (fun w hv => check_s 70368744177664 (by omega) (by omega) ps (.slice a0 ps.length cc0) w hv)
    have hQ := errQ_good ps hG
    by_cases he : errS 70368744177664 ps = 0
    · have h0 := hQ.trans he
      have HQ := Lib.hid (And.intro h0 (adapt_ok h0)); clear h0
      rw [he] at HD
      obtain ⟨z1, z2⟩ := errS_zero he
      have hp := pk_bd s.toNat ps z2
      have HZ := Lib.hid z2
      obtain ⟨g1, g2, g3, g4⟩ := hG
      have ⟨q1, q2⟩ := gq_bd b g1 g2
      have ⟨l1, l2⟩ := lostN_bd' b s ps
      have hfld := field34
      clear he hQ z2
      go_enter Try.func27, Try.ntmps27
      go_wp2_with (first | (go_at_call 14; refine (HC.out _).mono ?_; rintro e w' ⟨rfl, hb⟩; obtain ⟨hcc, hff⟩ := Bw.cells hb; have hsz := Bw.size hb; try (have hz0 : w.heap.size < w'.heap.size := by (try simp at hsz); omega); try (have hz1 : w.heap.size + 1 < w'.heap.size := by (try simp at hsz); omega); try (have hz2 : w.heap.size + 1 + 1 < w'.heap.size := by (try simp at hsz); omega); try (have hz3 : w.heap.size + 1 + 1 + 1 < w'.heap.size := by (try simp at hsz); omega); try (have hz4 : w.heap.size + 1 + 1 + 1 + 1 < w'.heap.size := by (try simp at hsz); omega); try (have hzr : wr.heap.size < w'.heap.size := by (try simp at hsz); omega); try (have hzr1 : wr.heap.size + 1 < w'.heap.size := by (try simp at hsz); omega)) | (go_at_call 34; refine (HD.out _ (HV.out.mono (by repeat (first | exact Bw.refl _ | assumption | refine Bw.alloc ?_ _ | refine Bw.drew ?_ | refine Bw.trans ?_ (by assumption) | refine Bw.setCell ?_ (by simp; try omega) _)))).mono ?_; rintro e w' ⟨rfl, hb⟩; obtain ⟨hcc, hff⟩ := Bw.cells hb; have hsz := Bw.size hb; try (have hz0 : w.heap.size < w'.heap.size := by (try simp at hsz); omega); try (have hz1 : w.heap.size + 1 < w'.heap.size := by (try simp at hsz); omega); try (have hz2 : w.heap.size + 1 + 1 < w'.heap.size := by (try simp at hsz); omega); try (have hz3 : w.heap.size + 1 + 1 + 1 < w'.heap.size := by (try simp at hsz); omega); try (have hz4 : w.heap.size + 1 + 1 + 1 + 1 < w'.heap.size := by (try simp at hsz); omega); try (have hzr : wr.heap.size < w'.heap.size := by (try simp at hsz); omega); try (have hzr1 : wr.heap.size + 1 < w'.heap.size := by (try simp at hsz); omega)))
      have hbb : Bw w w' := (by repeat (first | exact Bw.refl _ | assumption | refine Bw.alloc ?_ _ | refine Bw.drew ?_ | refine Bw.trans ?_ (by assumption) | refine Bw.setCell ?_ (by simp; try omega) _))
      have kg0 : w'.cell? ⟨w.heap.size, 0, none⟩ = some (.int .i64 b) := by simp [*, go_sem]
      have kg1 : w'.cell? ⟨w.heap.size, 1, none⟩ = some (.int .i64 s) := by simp [*, go_sem]
      have kf1 : w'.frozen? ⟨w.heap.size, 1, none⟩ = false := by simp [*, go_sem]
      have kr0 : w'.cell? ⟨w.heap.size + 1, 0, none⟩ = some (.int .i64 0) := by simp [*, go_sem]
      have kr1 : w'.cell? ⟨w.heap.size + 1, 1, none⟩ = some (.int .i64 0) := by simp [*, go_sem]
      have kq0 : w'.frozen? ⟨w.heap.size + 1, 0, none⟩ = false := by simp [*, go_sem]
      have kq1 : w'.frozen? ⟨w.heap.size + 1, 1, none⟩ = false := by simp [*, go_sem]
      clear hcc hff
      refine (quantised_any b s g1 g2 g3 g4 ps _ _ (HV.out.mono hbb) z1 HZ.out).mono ?_
      rintro e w1 ⟨⟨v', rfl, hr, _⟩, hb1⟩
      obtain ⟨a', c', rfl⟩ := hr.form
      clear hr
      have Qw1 : AInv w b s w1 := ⟨Bw.trans hbb hb1, by have := hb1.size; omega, by rw [hb1.cells.1 _ _ hz0]; exact kg0, by rw [hb1.cells.1 _ _ hz0]; exact kg1, by rw [hb1.cells.2 _ _ hz0]; exact kf1, by rw [hb1.cells.1 _ _ hz1]; exact kr0, by rw [hb1.cells.1 _ _ hz1]; exact kr1, by rw [hb1.cells.2 _ _ hz1]; exact kq0, by rw [hb1.cells.2 _ _ hz1]; exact kq1⟩
      clear kg0 kg1 kf1 kr0 kr1 kq0 kq1
      obtain ⟨⟨sz, sz2⟩, c0, c1, f1, r0, r1, h0, h1⟩ := Qw1.all
      by_cases hlo : (ps.length : Int) < 16 * lostN b s ps
      · have HA := Lib.hid (show adS b s ps = min (s + 1) 30 by unfold adS; rw [if_pos hlo])
        by_cases h30 : s < 30
        · have HA2 := Lib.hid (show adS b s ps = s + 2 - 1 by rw [HA.out]; omega)
          go_upto_region 10 with (fail)
          have Qwb := Qw1.step (s + 2)
          generalize w1.setCell ⟨w.heap.size, 1, none⟩ (.int .i64 (s + 2)) = wb at Qwb ⊢
          clear c0 c1 f1 r0 r1 h0 h1 sz sz2
          obtain ⟨⟨sz, sz2⟩, c0, c1, f1, r0, r1, h0, h1⟩ := Qwb.all
          go_upto_region 11 with (fail)
          have Qwc := Qwb.step (s + 2 - 1)
          generalize wb.setCell ⟨w.heap.size, 1, none⟩ (.int .i64 (s + 2 - 1)) = wc at Qwc ⊢
          clear c0 c1 f1 r0 r1 h0 h1 sz sz2
          obtain ⟨⟨sz, sz2⟩, c0, c1, f1, r0, r1, h0, h1⟩ := Qwc.all
          go_upto_region 12 with (fail)
          have Qwd := Qwc.step (s + 2 - 1)
          generalize wc.setCell ⟨w.heap.size, 1, none⟩ (.int .i64 (s + 2 - 1)) = wd at Qwd ⊢
          clear c0 c1 f1 r0 r1 h0 h1 sz sz2
          obtain ⟨⟨sz, sz2⟩, c0, c1, f1, r0, r1, h0, h1⟩ := Qwd.all
          have bw := Qwd.bw
          go_wp2
          refine bodyPost_ret (v := .tuple #[.agg #[.int .i64 b, .int .i64 (s + 2 - 1)], .int .i64 0]) (by simp [results, Try.results27, go_sem, r0, r1, c0, c1]) rfl ⟨by unfold AdaptP; rw [HQ.out.1, HQ.out.2, HA2.out], (by repeat (first | exact Bw.refl _ | assumption | refine Bw.alloc ?_ _ | refine Bw.drew ?_ | refine Bw.trans ?_ (by assumption) | refine Bw.setCell ?_ (by simp; try omega) _))⟩
        · have HA2 := Lib.hid (show adS b s ps = 30 by rw [HA.out]; omega)
          go_upto_region 10 with (fail)
          have Qwb := Qw1.step (s + 2)
          generalize w1.setCell ⟨w.heap.size, 1, none⟩ (.int .i64 (s + 2)) = wb at Qwb ⊢
          clear c0 c1 f1 r0 r1 h0 h1 sz sz2
          obtain ⟨⟨sz, sz2⟩, c0, c1, f1, r0, r1, h0, h1⟩ := Qwb.all
          go_upto_region 11 with (fail)
          have Qwc := Qwb.step (s + 2 - 1)
          generalize wb.setCell ⟨w.heap.size, 1, none⟩ (.int .i64 (s + 2 - 1)) = wc at Qwc ⊢
          clear c0 c1 f1 r0 r1 h0 h1 sz sz2
          obtain ⟨⟨sz, sz2⟩, c0, c1, f1, r0, r1, h0, h1⟩ := Qwc.all
          go_upto_region 12 with (fail)
          have Qwd := Qwc.step (30)
          generalize wc.setCell ⟨w.heap.size, 1, none⟩ (.int .i64 (30)) = wd at Qwd ⊢
          clear c0 c1 f1 r0 r1 h0 h1 sz sz2
          obtain ⟨⟨sz, sz2⟩, c0, c1, f1, r0, r1, h0, h1⟩ := Qwd.all
          have bw := Qwd.bw
          go_wp2
          refine bodyPost_ret (v := .tuple #[.agg #[.int .i64 b, .int .i64 (30)], .int .i64 0]) (by simp [results, Try.results27, go_sem, r0, r1, c0, c1]) rfl ⟨by unfold AdaptP; rw [HQ.out.1, HQ.out.2, HA2.out], (by repeat (first | exact Bw.refl _ | assumption | refine Bw.alloc ?_ _ | refine Bw.drew ?_ | refine Bw.trans ?_ (by assumption) | refine Bw.setCell ?_ (by simp; try omega) _))⟩
      · have HPK := Lib.hid (fun W hW => peak_any s g3 g4 ps (.slice a0 ps.length cc0) W hW HZ.out)
        have e0 := fun p : Ext w1 => Ext.cell sz2 c0 p
        have e1 := fun p : Ext w1 => Ext.cell sz2 c1 p
        by_cases hpk : 4 * pk s.toNat ps ≤ gq b
        · have HA := Lib.hid (show adS b s ps = max (s - 1) 0 by unfold adS; rw [if_neg hlo, if_pos hpk])
          go_wp2
          (refine wp_region_quiet_ext (by kernel_rfl) (by kernel_rfl) ?_; (repeat (go_big_quiet_step ((first | (go_at_call 42; refine Calls.ext_of (HPK.out _ (HV.out.mono (Bw.trans Qw1.bw (Ext.b _))))) | (go_at_call 38; refine Calls.ext_of (greatest_any _ _ g1 g2 _)))))); refine wpQuiet_nil ?_; rintro wa ⟨⟨_, hbq⟩, rfl⟩; obtain ⟨hccq, hffq⟩ := Bw.cells hbq; have hszq := Bw.size hbq)
          have Qwa := Qw1.mono hbq
          clear c0 c1 f1 r0 r1 h0 h1 sz sz2 e0 e1 hccq hffq
          obtain ⟨⟨sz, sz2⟩, c0, c1, f1, r0, r1, h0, h1⟩ := Qwa.all
          by_cases hs0 : 0 < s
          · have HA2 := Lib.hid (show adS b s ps = s - 1 by rw [HA.out]; omega)
            go_upto_region 11 with (fail)
            have Qwc := Qwa.step (s - 1)
            generalize wa.setCell ⟨w.heap.size, 1, none⟩ (.int .i64 (s - 1)) = wc at Qwc ⊢
            clear c0 c1 f1 r0 r1 h0 h1 sz sz2
            obtain ⟨⟨sz, sz2⟩, c0, c1, f1, r0, r1, h0, h1⟩ := Qwc.all
            go_upto_region 12 with (fail)
            have Qwd := Qwc.step (s - 1)
            generalize wc.setCell ⟨w.heap.size, 1, none⟩ (.int .i64 (s - 1)) = wd at Qwd ⊢
            clear c0 c1 f1 r0 r1 h0 h1 sz sz2
            obtain ⟨⟨sz, sz2⟩, c0, c1, f1, r0, r1, h0, h1⟩ := Qwd.all
            have bw := Qwd.bw
            go_wp2
            refine bodyPost_ret (v := .tuple #[.agg #[.int .i64 b, .int .i64 (s - 1)], .int .i64 0]) (by simp [results, Try.results27, go_sem, r0, r1, c0, c1]) rfl ⟨by unfold AdaptP; rw [HQ.out.1, HQ.out.2, HA2.out], (by repeat (first | exact Bw.refl _ | assumption | refine Bw.alloc ?_ _ | refine Bw.drew ?_ | refine Bw.trans ?_ (by assumption) | refine Bw.setCell ?_ (by simp; try omega) _))⟩
          · have HA2 := Lib.hid (show adS b s ps = 0 by rw [HA.out]; omega)
            go_upto_region 11 with (fail)
            have Qwc := Qwa.step (s - 1)
            generalize wa.setCell ⟨w.heap.size, 1, none⟩ (.int .i64 (s - 1)) = wc at Qwc ⊢
            clear c0 c1 f1 r0 r1 h0 h1 sz sz2
            obtain ⟨⟨sz, sz2⟩, c0, c1, f1, r0, r1, h0, h1⟩ := Qwc.all
            go_upto_region 12 with (fail)
            have Qwd := Qwc.step (0)
            generalize wc.setCell ⟨w.heap.size, 1, none⟩ (.int .i64 (0)) = wd at Qwd ⊢
            clear c0 c1 f1 r0 r1 h0 h1 sz sz2
            obtain ⟨⟨sz, sz2⟩, c0, c1, f1, r0, r1, h0, h1⟩ := Qwd.all
            have bw := Qwd.bw
            go_wp2
            refine bodyPost_ret (v := .tuple #[.agg #[.int .i64 b, .int .i64 (0)], .int .i64 0]) (by simp [results, Try.results27, go_sem, r0, r1, c0, c1]) rfl ⟨by unfold AdaptP; rw [HQ.out.1, HQ.out.2, HA2.out], (by repeat (first | exact Bw.refl _ | assumption | refine Bw.alloc ?_ _ | refine Bw.drew ?_ | refine Bw.trans ?_ (by assumption) | refine Bw.setCell ?_ (by simp; try omega) _))⟩
        · have HA2 := Lib.hid (show adS b s ps = s by unfold adS; rw [if_neg hlo, if_neg hpk])
          go_wp2
          (refine wp_region_quiet_ext (by kernel_rfl) (by kernel_rfl) ?_; (repeat (go_big_quiet_step ((first | (go_at_call 42; refine Calls.ext_of (HPK.out _ (HV.out.mono (Bw.trans Qw1.bw (Ext.b _))))) | (go_at_call 38; refine Calls.ext_of (greatest_any _ _ g1 g2 _)))))); refine wpQuiet_nil ?_; rintro wa ⟨⟨_, hbq⟩, rfl⟩; obtain ⟨hccq, hffq⟩ := Bw.cells hbq; have hszq := Bw.size hbq)
          have Qwa := Qw1.mono hbq
          clear c0 c1 f1 r0 r1 h0 h1 sz sz2 e0 e1 hccq hffq
          obtain ⟨⟨sz, sz2⟩, c0, c1, f1, r0, r1, h0, h1⟩ := Qwa.all
          go_upto_region 12 with (fail)
          have Qwd := Qwa.step (s)
          generalize wa.setCell ⟨w.heap.size, 1, none⟩ (.int .i64 (s)) = wd at Qwd ⊢
          clear c0 c1 f1 r0 r1 h0 h1 sz sz2
          obtain ⟨⟨sz, sz2⟩, c0, c1, f1, r0, r1, h0, h1⟩ := Qwd.all
          have bw := Qwd.bw
          go_wp2
          refine bodyPost_ret (v := .tuple #[.agg #[.int .i64 b, .int .i64 (s)], .int .i64 0]) (by simp [results, Try.results27, go_sem, r0, r1, c0, c1]) rfl ⟨by unfold AdaptP; rw [HQ.out.1, HQ.out.2, HA2.out], (by repeat (first | exact Bw.refl _ | assumption | refine Bw.alloc ?_ _ | refine Bw.drew ?_ | refine Bw.trans ?_ (by assumption) | refine Bw.setCell ?_ (by simp; try omega) _))⟩
    · have h0 : errQ b s ps ≠ 0 := by rw [hQ]; exact he
      have HR := Lib.hid (adapt_err h0)
      have HE := Lib.hid hQ
      have hne : (errS 70368744177664 ps != 0) = true := by simpa using he
      clear he h0 hQ hG
      go_enter Try.func27, Try.ntmps27
      go_wp2_with (first | (go_at_call 14; refine (HC.out _).mono ?_; rintro e w' ⟨rfl, hb⟩; obtain ⟨hcc, hff⟩ := Bw.cells hb; have hsz := Bw.size hb; try (have hz0 : w.heap.size < w'.heap.size := by (try simp at hsz); omega); try (have hz1 : w.heap.size + 1 < w'.heap.size := by (try simp at hsz); omega); try (have hz2 : w.heap.size + 1 + 1 < w'.heap.size := by (try simp at hsz); omega); try (have hz3 : w.heap.size + 1 + 1 + 1 < w'.heap.size := by (try simp at hsz); omega); try (have hz4 : w.heap.size + 1 + 1 + 1 + 1 < w'.heap.size := by (try simp at hsz); omega); try (have hzr : wr.heap.size < w'.heap.size := by (try simp at hsz); omega); try (have hzr1 : wr.heap.size + 1 < w'.heap.size := by (try simp at hsz); omega)) | (go_at_call 34; refine (HD.out _ (HV.out.mono (by repeat (first | exact Bw.refl _ | assumption | refine Bw.alloc ?_ _ | refine Bw.drew ?_ | refine Bw.trans ?_ (by assumption) | refine Bw.setCell ?_ (by simp; try omega) _)))).mono ?_; rintro e w' ⟨rfl, hb⟩; obtain ⟨hcc, hff⟩ := Bw.cells hb; have hsz := Bw.size hb; try (have hz0 : w.heap.size < w'.heap.size := by (try simp at hsz); omega); try (have hz1 : w.heap.size + 1 < w'.heap.size := by (try simp at hsz); omega); try (have hz2 : w.heap.size + 1 + 1 < w'.heap.size := by (try simp at hsz); omega); try (have hz3 : w.heap.size + 1 + 1 + 1 < w'.heap.size := by (try simp at hsz); omega); try (have hz4 : w.heap.size + 1 + 1 + 1 + 1 < w'.heap.size := by (try simp at hsz); omega); try (have hzr : wr.heap.size < w'.heap.size := by (try simp at hsz); omega); try (have hzr1 : wr.heap.size + 1 < w'.heap.size := by (try simp at hsz); omega)))
      have k0 : w'.cell? ⟨w.heap.size + 1, 0, none⟩ = some (.int .i64 0) := by simp [*, go_sem]
      have k1 : w'.cell? ⟨w.heap.size + 1, 1, none⟩ = some (.int .i64 0) := by simp [*, go_sem]
      refine bodyPost_ret (v := .tuple #[.agg #[.int .i64 0, .int .i64 0], .int .i64 (errS 70368744177664 ps)]) (by simp [results, Try.results27, go_sem, k0, k1]) rfl ⟨by unfold AdaptP; rw [HR.out, HE.out], (by repeat (first | exact Bw.refl _ | assumption | refine Bw.alloc ?_ _ | refine Bw.drew ?_ | refine Bw.trans ?_ (by assumption) | refine Bw.setCell ?_ (by simp; try omega) _))⟩
  · rw [errG_no b s hG] at HC
    have hQ := errQ_bad ps hG
    have HR := Lib.hid (adapt_err (b := b) (s := s) (ps := ps) (by rw [hQ]; decide))
    have HE := Lib.hid hQ
    clear hQ hG
    go_enter Try.func27, Try.ntmps27
    go_wp2_with (go_at_call 14; refine (HC.out _).mono ?_; rintro e w' ⟨rfl, hb⟩; obtain ⟨hcc, hff⟩ := Bw.cells hb; have hsz := Bw.size hb; try (have hz0 : w.heap.size < w'.heap.size := by (try simp at hsz); omega); try (have hz1 : w.heap.size + 1 < w'.heap.size := by (try simp at hsz); omega); try (have hz2 : w.heap.size + 1 + 1 < w'.heap.size := by (try simp at hsz); omega); try (have hz3 : w.heap.size + 1 + 1 + 1 < w'.heap.size := by (try simp at hsz); omega); try (have hz4 : w.heap.size + 1 + 1 + 1 + 1 < w'.heap.size := by (try simp at hsz); omega); try (have hzr : wr.heap.size < w'.heap.size := by (try simp at hsz); omega); try (have hzr1 : wr.heap.size + 1 < w'.heap.size := by (try simp at hsz); omega))
    have k0 : w'.cell? ⟨w.heap.size + 1, 0, none⟩ = some (.int .i64 0) := by simp [*, go_sem]
    have k1 : w'.cell? ⟨w.heap.size + 1, 1, none⟩ = some (.int .i64 0) := by simp [*, go_sem]
    refine bodyPost_ret (v := .tuple #[.agg #[.int .i64 0, .int .i64 0], .int .i64 2]) (by simp [results, Try.results27, go_sem, k0, k1]) rfl ⟨by unfold AdaptP; rw [HR.out, HE.out], (by repeat (first | exact Bw.refl _ | assumption | refine Bw.alloc ?_ _ | refine Bw.drew ?_ | refine Bw.trans ?_ (by assumption) | refine Bw.setCell ?_ (by simp; try omega) _))⟩
end Go.Proofs.Sky
