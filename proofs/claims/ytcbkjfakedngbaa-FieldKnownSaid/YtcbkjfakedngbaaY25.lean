/-
  lemmas for the theorems of this claim. No conditions beyond those written in the statements.
-/
import Derived.Test.YtcbkjfakedngbaaU25d
set_option linter.unusedVariables false
set_option linter.unusedSimpArgs false
set_option linter.unnecessarySimpa false
namespace Go.Proofs.Sky
open Go Go.RowKit Go.Shelf
set_option maxHeartbeats 4000000
theorem law_packs (fs : List Fd) (vf : Value) (vs : List Int) (vv : Value) (bt : Int) (zs : List Int) (vz : Value) (w : World) (hf : RdF w vf fs) (hv : RdI w vv vs) (hz : RdI w vz zs) :
    Calls Try.prog 6 #[vf, vv, .int .i64 bt, vz] w fun e w' => e = .returned (.bool true) ∧ Bw w w' := by
  have HF := Lib.hid hf
  have HV := Lib.hid hv
  have HZ := Lib.hid hz
  obtain ⟨a1, c1, rfl⟩ := hf.form
  obtain ⟨a2, c2, rfl⟩ := hv.form
  obtain ⟨a3, c3, rfl⟩ := hz.form
  clear hf hv hz
  by_cases hl : 20 < fs.length ∨ 30 < vs.length ∨ 500 < zs.length
  · have HL := Lib.hid hl; clear hl
    go_enter Try.func6, Try.ntmps6
    go_wp2_with (go_at_call 9; refine (awake_any _).mono ?_; rintro e w' ⟨rfl, hb⟩; obtain ⟨hcc, hff⟩ := Bw.cells hb; have hsz := Bw.size hb; try (have hz0 : w.heap.size < w'.heap.size := by (try simp at hsz); omega); try (have hz1 : w.heap.size + 1 < w'.heap.size := by (try simp at hsz); omega); try (have hz2 : w.heap.size + 1 + 1 < w'.heap.size := by (try simp at hsz); omega); try (have hz3 : w.heap.size + 1 + 1 + 1 < w'.heap.size := by (try simp at hsz); omega); try (have hz4 : w.heap.size + 1 + 1 + 1 + 1 < w'.heap.size := by (try simp at hsz); omega); try (have hzr : wr.heap.size < w'.heap.size := by (try simp at hsz); omega); try (have hzr1 : wr.heap.size + 1 < w'.heap.size := by (try simp at hsz); omega))
    all_goals first | (go_ret; exact ⟨rfl, (by repeat (first | exact Bw.refl _ | assumption | refine Bw.alloc ?_ _ | refine Bw.drew ?_ | refine Bw.trans ?_ (by assumption) | refine Bw.setCell ?_ (by simp; try omega) _))⟩) | (exfalso; have := HL.out; omega)
  · have q1 : ¬ (20 : Int) < fs.length := by omega
    have q2 : ¬ (30 : Int) < vs.length := by omega
    have q3 : ¬ (500 : Int) < zs.length := by omega
    clear hl
    have HP1 := Lib.hid (fun W h1 h2 => Pack_any fs vs (.slice a1 fs.length c1) (.slice a2 vs.length c2) bt W h1 h2)
    have HP2 := Lib.hid (fun W h1 h2 => RPack_any fs vs (.slice a1 fs.length c1) (.slice a2 vs.length c2) bt W h1 h2)
    have HU1 := Lib.hid (fun W h1 h2 => Unpack_any fs zs (.slice a1 fs.length c1) (.slice a3 zs.length c3) W h1 h2)
    have HU2 := Lib.hid (fun W h1 h2 => RUnpack_any fs zs (.slice a1 fs.length c1) (.slice a3 zs.length c3) W h1 h2)
    generalize packR bt fs vs = R1 at *
    generalize unpackR fs zs = R2 at *
    obtain ⟨l1, x1, y1⟩ := R1
    obtain ⟨l2, x2, y2⟩ := R2
    dsimp only at HP1 HP2 HU1 HU2
    go_enter Try.func6, Try.ntmps6
    go_wp2_with (first | (go_at_call 25; refine (HP1.out _ (HF.out.mono (by repeat (first | exact Bw.refl _ | assumption | refine Bw.alloc ?_ _ | refine Bw.drew ?_ | refine Bw.trans ?_ (by assumption) | refine Bw.setCell ?_ (by simp; try omega) _))) (HV.out.mono (by repeat (first | exact Bw.refl _ | assumption | refine Bw.alloc ?_ _ | refine Bw.drew ?_ | refine Bw.trans ?_ (by assumption) | refine Bw.setCell ?_ (by simp; try omega) _)))).mono ?_; rintro e w1 ⟨⟨v1, rfl, hr1, _⟩, hb1⟩; obtain ⟨b1, d1, rfl⟩ := hr1.form; have H1 := Lib.hid hr1; clear hr1) | (go_at_call 26; refine (HP2.out _ (HF.out.mono (by repeat (first | exact Bw.refl _ | assumption | refine Bw.alloc ?_ _ | refine Bw.drew ?_ | refine Bw.trans ?_ (by assumption) | refine Bw.setCell ?_ (by simp; try omega) _))) (HV.out.mono (by repeat (first | exact Bw.refl _ | assumption | refine Bw.alloc ?_ _ | refine Bw.drew ?_ | refine Bw.trans ?_ (by assumption) | refine Bw.setCell ?_ (by simp; try omega) _)))).mono ?_; rintro e w2 ⟨⟨v2, rfl, hr2, _⟩, hb2⟩; obtain ⟨b2, d2, rfl⟩ := hr2.form; have H2 := Lib.hid hr2; clear hr2) | (go_at_call 27; refine (HU1.out _ (HF.out.mono (by repeat (first | exact Bw.refl _ | assumption | refine Bw.alloc ?_ _ | refine Bw.drew ?_ | refine Bw.trans ?_ (by assumption) | refine Bw.setCell ?_ (by simp; try omega) _))) (HZ.out.mono (by repeat (first | exact Bw.refl _ | assumption | refine Bw.alloc ?_ _ | refine Bw.drew ?_ | refine Bw.trans ?_ (by assumption) | refine Bw.setCell ?_ (by simp; try omega) _)))).mono ?_; rintro e w3 ⟨⟨v3, rfl, hr3, _⟩, hb3⟩; obtain ⟨b3, d3, rfl⟩ := hr3.form; have H3 := Lib.hid hr3; clear hr3) | (go_at_call 28; refine (HU2.out _ (HF.out.mono (by repeat (first | exact Bw.refl _ | assumption | refine Bw.alloc ?_ _ | refine Bw.drew ?_ | refine Bw.trans ?_ (by assumption) | refine Bw.setCell ?_ (by simp; try omega) _))) (HZ.out.mono (by repeat (first | exact Bw.refl _ | assumption | refine Bw.alloc ?_ _ | refine Bw.drew ?_ | refine Bw.trans ?_ (by assumption) | refine Bw.setCell ?_ (by simp; try omega) _)))).mono ?_; rintro e w4 ⟨⟨v4, rfl, hr4, _⟩, hb4⟩; obtain ⟨b4, d4, rfl⟩ := hr4.form; have H4 := Lib.hid hr4; clear hr4))
    have g0 : Bw (w1.alloc (Obj.cells #[.int .i64 x1, .int .i64 y1] 43)) (w4.alloc (Obj.cells #[.int .i64 x2, .int .i64 y2] 43)) := (by repeat (first | exact Bw.refl _ | assumption | refine Bw.alloc ?_ _ | refine Bw.drew ?_ | refine Bw.trans ?_ (by assumption) | refine Bw.setCell ?_ (by simp; try omega) _))
    have p0 : (w4.alloc (Obj.cells #[.int .i64 x2, .int .i64 y2] 43)).cell? ⟨w1.heap.size, 0, none⟩ = some (.int .i64 x1) := g0.cell' (by simp [go_sem])
    have s0 : (w4.alloc (Obj.cells #[.int .i64 x2, .int .i64 y2] 43)).cell? ⟨w1.heap.size, 1, none⟩ = some (.int .i64 y1) := g0.cell' (by simp [go_sem])
    have g1 : Bw (w2.alloc (Obj.cells #[.int .i64 x1, .int .i64 y1] 43)) (w4.alloc (Obj.cells #[.int .i64 x2, .int .i64 y2] 43)) := (by repeat (first | exact Bw.refl _ | assumption | refine Bw.alloc ?_ _ | refine Bw.drew ?_ | refine Bw.trans ?_ (by assumption) | refine Bw.setCell ?_ (by simp; try omega) _))
    have p1 : (w4.alloc (Obj.cells #[.int .i64 x2, .int .i64 y2] 43)).cell? ⟨w2.heap.size, 0, none⟩ = some (.int .i64 x1) := g1.cell' (by simp [go_sem])
    have s1 : (w4.alloc (Obj.cells #[.int .i64 x2, .int .i64 y2] 43)).cell? ⟨w2.heap.size, 1, none⟩ = some (.int .i64 y1) := g1.cell' (by simp [go_sem])
    have g2 : Bw (w3.alloc (Obj.cells #[.int .i64 x2, .int .i64 y2] 43)) (w4.alloc (Obj.cells #[.int .i64 x2, .int .i64 y2] 43)) := (by repeat (first | exact Bw.refl _ | assumption | refine Bw.alloc ?_ _ | refine Bw.drew ?_ | refine Bw.trans ?_ (by assumption) | refine Bw.setCell ?_ (by simp; try omega) _))
    have p2 : (w4.alloc (Obj.cells #[.int .i64 x2, .int .i64 y2] 43)).cell? ⟨w3.heap.size, 0, none⟩ = some (.int .i64 x2) := g2.cell' (by simp [go_sem])
    have s2 : (w4.alloc (Obj.cells #[.int .i64 x2, .int .i64 y2] 43)).cell? ⟨w3.heap.size, 1, none⟩ = some (.int .i64 y2) := g2.cell' (by simp [go_sem])
    have g3 : Bw (w4.alloc (Obj.cells #[.int .i64 x2, .int .i64 y2] 43)) (w4.alloc (Obj.cells #[.int .i64 x2, .int .i64 y2] 43)) := (by repeat (first | exact Bw.refl _ | assumption | refine Bw.alloc ?_ _ | refine Bw.drew ?_ | refine Bw.trans ?_ (by assumption) | refine Bw.setCell ?_ (by simp; try omega) _))
    have p3 : (w4.alloc (Obj.cells #[.int .i64 x2, .int .i64 y2] 43)).cell? ⟨w4.heap.size, 0, none⟩ = some (.int .i64 x2) := g3.cell' (by simp [go_sem])
    have s3 : (w4.alloc (Obj.cells #[.int .i64 x2, .int .i64 y2] 43)).cell? ⟨w4.heap.size, 1, none⟩ = some (.int .i64 y2) := g3.cell' (by simp [go_sem])
    have hbw : Bw w (w4.alloc (Obj.cells #[.int .i64 x2, .int .i64 y2] 43)) := (by repeat (first | exact Bw.refl _ | assumption | refine Bw.alloc ?_ _ | refine Bw.drew ?_ | refine Bw.trans ?_ (by assumption) | refine Bw.setCell ?_ (by simp; try omega) _))
    have K1 := Lib.hid (H1.out.mono (show Bw w1 (w4.alloc (Obj.cells #[.int .i64 x2, .int .i64 y2] 43)) from (by repeat (first | exact Bw.refl _ | assumption | refine Bw.alloc ?_ _ | refine Bw.drew ?_ | refine Bw.trans ?_ (by assumption) | refine Bw.setCell ?_ (by simp; try omega) _))))
    have K2 := Lib.hid (H2.out.mono (show Bw w2 (w4.alloc (Obj.cells #[.int .i64 x2, .int .i64 y2] 43)) from (by repeat (first | exact Bw.refl _ | assumption | refine Bw.alloc ?_ _ | refine Bw.drew ?_ | refine Bw.trans ?_ (by assumption) | refine Bw.setCell ?_ (by simp; try omega) _))))
    have K3 := Lib.hid (H3.out.mono (show Bw w3 (w4.alloc (Obj.cells #[.int .i64 x2, .int .i64 y2] 43)) from (by repeat (first | exact Bw.refl _ | assumption | refine Bw.alloc ?_ _ | refine Bw.drew ?_ | refine Bw.trans ?_ (by assumption) | refine Bw.setCell ?_ (by simp; try omega) _))))
    have K4 := Lib.hid (H4.out.mono (show Bw w4 (w4.alloc (Obj.cells #[.int .i64 x2, .int .i64 y2] 43)) from (by repeat (first | exact Bw.refl _ | assumption | refine Bw.alloc ?_ _ | refine Bw.drew ?_ | refine Bw.trans ?_ (by assumption) | refine Bw.setCell ?_ (by simp; try omega) _))))
    generalize (w4.alloc (Obj.cells #[.int .i64 x2, .int .i64 y2] 43)) = W5 at hbw p0 p1 p2 p3 s0 s1 s2 s3 K1 K2 K3 K4 ⊢
    have HB := Lib.hid hbw
    clear g0 g1 g2 g3 hb1 hb2 hb3 hb4 H1 H2 H3 H4 hbw
    refine (alike_same l1 _ _ _ K1.out K2.out).mono ?_
    rintro e w5 ⟨rfl, hb5⟩
    replace p0 := hb5.cell' p0
    replace s0 := hb5.cell' s0
    replace p1 := hb5.cell' p1
    replace s1 := hb5.cell' s1
    replace p2 := hb5.cell' p2
    replace s2 := hb5.cell' s2
    replace p3 := hb5.cell' p3
    replace s3 := hb5.cell' s3
    have K3' := Lib.hid (K3.out.mono hb5)
    have K4' := Lib.hid (K4.out.mono hb5)
    go_wp2_with (first | (go_at_call 18; refine (alike_same l2 _ _ _ K3'.out K4'.out).mono ?_; rintro e w6 ⟨rfl, hb6⟩; replace p0 := hb6.cell' p0; replace s0 := hb6.cell' s0; replace p1 := hb6.cell' p1; replace s1 := hb6.cell' s1; replace p2 := hb6.cell' p2; replace s2 := hb6.cell' s2; replace p3 := hb6.cell' p3; replace s3 := hb6.cell' s3) | (go_at_call 9; refine (awake_any _).mono ?_; rintro e w7 ⟨rfl, hb7⟩))
    go_ret
    exact ⟨rfl, Bw.trans HB.out (by repeat (first | exact Bw.refl _ | assumption | refine Bw.alloc ?_ _ | refine Bw.drew ?_ | refine Bw.trans ?_ (by assumption) | refine Bw.setCell ?_ (by simp; try omega) _))⟩
end Go.Proofs.Sky
