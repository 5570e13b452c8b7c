/-
  lemmas for the theorems of this claim. No conditions beyond those written in the statements.
-/
import Derived.Test.YtmilfedbggbpdaaX13
set_option linter.unusedVariables false
set_option linter.unusedSimpArgs false
set_option linter.unnecessarySimpa false
namespace Go.Proofs.Sky
open Go Go.RowKit
set_option maxHeartbeats 1000000
def fstS (b : Int) (ps : List (Int × Int)) : Option Nat := (List.range 31).find? fun s => decide (pk s ps ≤ gq b)
def leastV (b : Int) (ps : List (Int × Int)) : Int × Int × Int := if errQ b 0 ps = 0 then (match fstS b ps with | some s => (b, (s : Int), 0) | none => (0, 0, 5)) else (0, 0, errQ b 0 ps)
theorem find_hit {f : Nat → Bool} {n k : Nat} (hk : k < n) (h : ∀ j, j < k → f j = false) (hf : f k = true) : (List.range n).find? f = some k := by
  rw [List.find?_eq_some_iff_append]
  refine ⟨hf, List.range k, (List.range' (k + 1) (n - k - 1)), ?_, ?_⟩
  · rw [List.range_eq_range', List.range_eq_range', ← List.range'_succ (s := k) (n := n - k - 1) (step := 1), show n - k - 1 + 1 = n - k by omega]
    have := List.range'_append (s := 0) (m := k) (n := n - k) (step := 1)
    rw [show 0 + 1 * k = k by omega, show k + (n - k) = n by omega] at this
    exact this.symm
  · intro a ha
    simp only [List.mem_range] at ha
    rw [h a ha]; rfl
theorem find_miss {f : Nat → Bool} {n : Nat} (h : ∀ j, j < n → f j = false) : (List.range n).find? f = none := by
  rw [List.find?_eq_none]
  intro a ha
  simp only [List.mem_range] at ha
  rw [h a ha]; simp
theorem least_err {b : Int} {ps : List (Int × Int)} (h : errQ b 0 ps ≠ 0) : leastV b ps = (0, 0, errQ b 0 ps) := by unfold leastV; rw [if_neg h]
theorem least_hit {b : Int} {ps : List (Int × Int)} (h : errQ b 0 ps = 0) (k : Nat) (hk : k < 31) (hj : ∀ j, j < k → ¬ pk j ps ≤ gq b) (hf : pk k ps ≤ gq b) : leastV b ps = (b, (k : Int), 0) := by
  unfold leastV fstS
  rw [if_pos h, find_hit hk (fun j hjk => decide_eq_false (hj j hjk)) (decide_eq_true hf)]
theorem least_miss {b : Int} {ps : List (Int × Int)} (h : errQ b 0 ps = 0) (hj : ∀ j, j < 31 → ¬ pk j ps ≤ gq b) : leastV b ps = (0, 0, 5) := by
  unfold leastV fstS
  rw [if_pos h, find_miss (fun j hjk => decide_eq_false (hj j hjk))]
def LeastP (b : Int) (ps : List (Int × Int)) (e : Ending) : Prop := e = .returned (.tuple #[.agg #[.int .i64 (leastV b ps).1, .int .i64 (leastV b ps).2.1], .int .i64 (leastV b ps).2.2])
structure LInv (w : World) (b : Int) (k : Nat) (wr : World) : Prop where
  bw : Bw w wr
  sz : w.heap.size + 1 < wr.heap.size
  c0 : wr.cell? ⟨w.heap.size + 1, 0, none⟩ = some (.int .i64 b)
  c1 : wr.cell? ⟨w.heap.size + 1, 1, none⟩ = some (.int .i64 k)
  f1 : wr.frozen? ⟨w.heap.size + 1, 1, none⟩ = false
  r0 : wr.cell? ⟨w.heap.size, 0, none⟩ = some (.int .i64 0)
  r1 : wr.cell? ⟨w.heap.size, 1, none⟩ = some (.int .i64 0)
  g0 : wr.frozen? ⟨w.heap.size, 0, none⟩ = false
  g1 : wr.frozen? ⟨w.heap.size, 1, none⟩ = false
theorem LInv.mono {w : World} {b : Int} {k : Nat} {wr w2 : World} (h : LInv w b k wr) (hb : Bw wr w2) : LInv w b k w2 := by
  have sz := h.sz
  have sz' := hb.size
  exact ⟨h.bw.trans hb, by omega, by rw [hb.cells.1 _ _ (by omega)]; exact h.c0, by rw [hb.cells.1 _ _ (by omega)]; exact h.c1, by rw [hb.cells.2 _ _ (by omega)]; exact h.f1,
    by rw [hb.cells.1 _ _ (by omega)]; exact h.r0, by rw [hb.cells.1 _ _ (by omega)]; exact h.r1, by rw [hb.cells.2 _ _ (by omega)]; exact h.g0, by rw [hb.cells.2 _ _ (by omega)]; exact h.g1⟩
theorem LInv.step {w : World} {b : Int} {k : Nat} {wr : World} (h : LInv w b k wr) : LInv w b (k + 1) (wr.setCell ⟨w.heap.size + 1, 1, none⟩ (.int .i64 ((k : Int) + 1))) := by
  have sz := h.sz
  have bw := h.bw
  exact ⟨Bw.setCell bw (by simp) _, by simpa using sz, by rw [cell_set_off _ _ _ _ _ (by omega)]; exact h.c0, by rw [cell_set_same _ _ _ _ h.c1]; simp, by rw [frozen_set]; exact h.f1,
    by rw [cell_set_ne _ _ _ _ _ _ (by omega)]; exact h.r0, by rw [cell_set_ne _ _ _ _ _ _ (by omega)]; exact h.r1, by rw [frozen_set]; exact h.g0, by rw [frozen_set]; exact h.g1⟩
theorem Least_any (b : Int) (ps : List (Int × Int)) (v : Value) (w : World) (hv : RdS w v ps) :
    Calls Try.prog 25 #[v, .int .i64 b] w fun e w' => LeastP b ps e ∧ Bw w w' := by
  have HC := Lib.hid (fun w => check_any b 0 w)
  have HV := Lib.hid hv
  obtain ⟨a0, cc0, rfl⟩ := hv.form
  clear hv
  by_cases hG : 2 ≤ b ∧ b ≤ 8 ∧ (0 : Int) ≤ 0 ∧ (0 : Int) ≤ 30
  · rw [errG_ok b 0 hG] at HC
    have HD := Lib.hid (fun w hv => check_s 70368744177664 (by omega) (by omega) ps (.slice a0 ps.length cc0) w hv)
    have hQ := errQ_good ps hG
    by_cases he : errS 70368744177664 ps = 0
    · have HQ := Lib.hid (hQ.trans he)
      rw [he] at HD
      obtain ⟨z1, z2⟩ := errS_zero he
      have HZ := Lib.hid z2
      obtain ⟨g1, g2, g3, g4⟩ := hG
      have ⟨q1, q2⟩ := gq_bd b g1 g2
      clear he hQ z2
      go_enter Try.func25, Try.ntmps25
      go_wp2_with (first | (go_at_call 14; refine (HC.out _).mono ?_; rintro e w' ⟨rfl, hb⟩; obtain ⟨hcc, hff⟩ := Bw.cells hb; have hsz := Bw.size hb; try (have hz0 : w.heap.size < w'.heap.size := by (try simp at hsz); omega); try (have hz1 : w.heap.size + 1 < w'.heap.size := by (try simp at hsz); omega); try (have hz2 : w.heap.size + 1 + 1 < w'.heap.size := by (try simp at hsz); omega); try (have hz3 : w.heap.size + 1 + 1 + 1 < w'.heap.size := by (try simp at hsz); omega); try (have hz4 : w.heap.size + 1 + 1 + 1 + 1 < w'.heap.size := by (try simp at hsz); omega); try (have hzr : wr.heap.size < w'.heap.size := by (try simp at hsz); omega); try (have hzr1 : wr.heap.size + 1 < w'.heap.size := by (try simp at hsz); omega)) | (go_at_call 34; refine (HD.out _ (HV.out.mono (by repeat (first | exact Bw.refl _ | assumption | refine Bw.alloc ?_ _ | refine Bw.drew ?_ | refine Bw.trans ?_ (by assumption) | refine Bw.setCell ?_ (by simp; try omega) _)))).mono ?_; rintro e w' ⟨rfl, hb⟩; obtain ⟨hcc, hff⟩ := Bw.cells hb; have hsz := Bw.size hb; try (have hz0 : w.heap.size < w'.heap.size := by (try simp at hsz); omega); try (have hz1 : w.heap.size + 1 < w'.heap.size := by (try simp at hsz); omega); try (have hz2 : w.heap.size + 1 + 1 < w'.heap.size := by (try simp at hsz); omega); try (have hz3 : w.heap.size + 1 + 1 + 1 < w'.heap.size := by (try simp at hsz); omega); try (have hz4 : w.heap.size + 1 + 1 + 1 + 1 < w'.heap.size := by (try simp at hsz); omega); try (have hzr : wr.heap.size < w'.heap.size := by (try simp at hsz); omega); try (have hzr1 : wr.heap.size + 1 < w'.heap.size := by (try simp at hsz); omega)))
      have hI : LInv w b 0 w' := ⟨(by repeat (first | exact Bw.refl _ | assumption | refine Bw.alloc ?_ _ | refine Bw.drew ?_ | refine Bw.trans ?_ (by assumption) | refine Bw.setCell ?_ (by simp; try omega) _)), hz1, by simp [*, go_sem], by simp [*, go_sem], by simp [*, go_sem], by simp [*, go_sem], by simp [*, go_sem], by simp [*, go_sem], by simp [*, go_sem]⟩
      have HI := Lib.hid hI; clear hI hcc hff
      go_loopg [24] 31 (fun gg _ wr => ∃ k : Nat, k ≤ 31 ∧ 31 - k ≤ gg ∧ LInv w b k wr ∧ Hid (∀ j, j < k → ¬ pk j ps ≤ gq b))
      case atStart => exact ⟨0, by omega, by omega, HI.out, fun j hj => by omega⟩
      case round =>
        obtain ⟨k, hk, hg, Q, A⟩ := hrel
        have ⟨sz, c0, c1, f1, r0, r1, h0, h1⟩ := (⟨Q.sz, Q.c0, Q.c1, Q.f1, Q.r0, Q.r1, Q.g0, Q.g1⟩ : _ ∧ _ ∧ _ ∧ _ ∧ _ ∧ _ ∧ _ ∧ _)
        by_cases hlt : k < 31
        · have hle : (k : Int) ≤ 30 := by omega
          have hp := pk_bd k ps HZ.out
          have HV' := Lib.hid (fun p : Ext wr => HV.out.mono (Bw.trans Q.bw p.b))
          have e0 := fun p : Ext wr => Ext.cell sz c0 p
          have e1 := fun p : Ext wr => Ext.cell sz c1 p
          have HPK : Hid (∀ W, RdS W (.slice a0 ps.length cc0) ps → Calls Try.prog 42 #[.slice a0 ps.length cc0, .int .i64 (k : Int)] W fun e w' => e = .returned (.int .i64 (pk k ps)) ∧ Bw W w') :=
            Lib.hid (fun W hW => by have := peak_any k (by omega) hle ps (.slice a0 ps.length cc0) W hW HZ.out; simpa using this)
          by_cases hpk : pk k ps ≤ gq b
          · have HR := Lib.hid (least_hit HQ.out k hlt A.out hpk)
            go_wp2
            (refine wp_region_quiet_ext (by kernel_rfl) (by kernel_rfl) ?_; (repeat (go_big_quiet_step ((first | (go_at_call 42; refine Calls.ext_of (HPK.out _ (HV'.out _))) | (go_at_call 38; refine Calls.ext_of (greatest_any _ _ g1 g2 _)))))); refine wpQuiet_nil ?_; rintro wa ⟨⟨_, hbq⟩, rfl⟩; obtain ⟨hccq, hffq⟩ := Bw.cells hbq; have hszq := Bw.size hbq)
            have Qa := Q.mono hbq
            clear e0 e1 c0 c1 f1 r0 r1 h0 h1 hccq hffq
            have ⟨sz', c0, c1, f1, r0, r1, h0, h1⟩ := (⟨Qa.sz, Qa.c0, Qa.c1, Qa.f1, Qa.r0, Qa.r1, Qa.g0, Qa.g1⟩ : _ ∧ _ ∧ _ ∧ _ ∧ _ ∧ _ ∧ _ ∧ _)
            have bw := Qa.bw
            go_wp2
            refine bodyPost_ret (v := .tuple #[.agg #[.int .i64 b, .int .i64 k], .int .i64 0]) (by simp [results, Try.results25, go_sem, *]) rfl ⟨by unfold LeastP; rw [HR.out], (by repeat (first | exact Bw.refl _ | assumption | refine Bw.alloc ?_ _ | refine Bw.drew ?_ | refine Bw.trans ?_ (by assumption) | refine Bw.setCell ?_ (by simp; try omega) _))⟩
          · have HNK := Lib.hid hpk
            go_wp2
            (refine wp_region_quiet_ext (by kernel_rfl) (by kernel_rfl) ?_; (repeat (go_big_quiet_step ((first | (go_at_call 42; refine Calls.ext_of (HPK.out _ (HV'.out _))) | (go_at_call 38; refine Calls.ext_of (greatest_any _ _ g1 g2 _)))))); refine wpQuiet_nil ?_; rintro wa ⟨⟨_, hbq⟩, rfl⟩; obtain ⟨hccq, hffq⟩ := Bw.cells hbq; have hszq := Bw.size hbq)
            have Qa := Q.mono hbq
            clear e0 e1 c0 c1 f1 r0 r1 h0 h1 hccq hffq
            have ⟨sz', c0, c1, f1, r0, r1, h0, h1⟩ := (⟨Qa.sz, Qa.c0, Qa.c1, Qa.f1, Qa.r0, Qa.r1, Qa.g0, Qa.g1⟩ : _ ∧ _ ∧ _ ∧ _ ∧ _ ∧ _ ∧ _ ∧ _)
            go_wp2
            go_roundg (31 - (k + 1))
            case measure => omega
            case rel =>
              refine ⟨k + 1, by omega, by omega, Qa.step, fun j hj => ?_⟩
              by_cases e : j = k
              · subst e; exact HNK.out
              · exact A.out j (by omega)
        · have hk31 : k = 31 := by omega
          subst hk31
          have HR := Lib.hid (least_miss HQ.out A.out)
          have bw := Q.bw
          go_wp2
          refine bodyPost_ret (v := .tuple #[.agg #[.int .i64 0, .int .i64 0], .int .i64 5]) (by simp [results, Try.results25, go_sem, *]) rfl ⟨by unfold LeastP; rw [HR.out], (by repeat (first | exact Bw.refl _ | assumption | refine Bw.alloc ?_ _ | refine Bw.drew ?_ | refine Bw.trans ?_ (by assumption) | refine Bw.setCell ?_ (by simp; try omega) _))⟩
    · have h0 : errQ b 0 ps ≠ 0 := by rw [hQ]; exact he
      have HR := Lib.hid (least_err h0)
      have HE := Lib.hid hQ
      have hne : (errS 70368744177664 ps != 0) = true := by simpa using he
      clear he h0 hQ hG
      go_enter Try.func25, Try.ntmps25
      go_wp2_with (first | (go_at_call 14; refine (HC.out _).mono ?_; rintro e w' ⟨rfl, hb⟩; obtain ⟨hcc, hff⟩ := Bw.cells hb; have hsz := Bw.size hb; try (have hz0 : w.heap.size < w'.heap.size := by (try simp at hsz); omega); try (have hz1 : w.heap.size + 1 < w'.heap.size := by (try simp at hsz); omega); try (have hz2 : w.heap.size + 1 + 1 < w'.heap.size := by (try simp at hsz); omega); try (have hz3 : w.heap.size + 1 + 1 + 1 < w'.heap.size := by (try simp at hsz); omega); try (have hz4 : w.heap.size + 1 + 1 + 1 + 1 < w'.heap.size := by (try simp at hsz); omega); try (have hzr : wr.heap.size < w'.heap.size := by (try simp at hsz); omega); try (have hzr1 : wr.heap.size + 1 < w'.heap.size := by (try simp at hsz); omega)) | (go_at_call 34; refine (HD.out _ (HV.out.mono (by repeat (first | exact Bw.refl _ | assumption | refine Bw.alloc ?_ _ | refine Bw.drew ?_ | refine Bw.trans ?_ (by assumption) | refine Bw.setCell ?_ (by simp; try omega) _)))).mono ?_; rintro e w' ⟨rfl, hb⟩; obtain ⟨hcc, hff⟩ := Bw.cells hb; have hsz := Bw.size hb; try (have hz0 : w.heap.size < w'.heap.size := by (try simp at hsz); omega); try (have hz1 : w.heap.size + 1 < w'.heap.size := by (try simp at hsz); omega); try (have hz2 : w.heap.size + 1 + 1 < w'.heap.size := by (try simp at hsz); omega); try (have hz3 : w.heap.size + 1 + 1 + 1 < w'.heap.size := by (try simp at hsz); omega); try (have hz4 : w.heap.size + 1 + 1 + 1 + 1 < w'.heap.size := by (try simp at hsz); omega); try (have hzr : wr.heap.size < w'.heap.size := by (try simp at hsz); omega); try (have hzr1 : wr.heap.size + 1 < w'.heap.size := by (try simp at hsz); omega)))
      have k0 : w'.cell? ⟨w.heap.size, 0, none⟩ = some (.int .i64 0) := by simp [*, go_sem]
      have k1 : w'.cell? ⟨w.heap.size, 1, none⟩ = some (.int .i64 0) := by simp [*, go_sem]
      refine bodyPost_ret (v := .tuple #[.agg #[.int .i64 0, .int .i64 0], .int .i64 (errS 70368744177664 ps)]) (by simp [results, Try.results25, go_sem, k0, k1]) rfl ⟨by unfold LeastP; rw [HR.out, HE.out], (by repeat (first | exact Bw.refl _ | assumption | refine Bw.alloc ?_ _ | refine Bw.drew ?_ | refine Bw.trans ?_ (by assumption) | refine Bw.setCell ?_ (by simp; try omega) _))⟩
  · rw [errG_no b 0 hG] at HC
    have hQ := errQ_bad ps hG
    have HR := Lib.hid (least_err (b := b) (ps := ps) (by rw [hQ]; decide))
    have HE := Lib.hid hQ
    clear hQ hG
    go_enter Try.func25, Try.ntmps25
    go_wp2_with (go_at_call 14; refine (HC.out _).mono ?_; rintro e w' ⟨rfl, hb⟩; obtain ⟨hcc, hff⟩ := Bw.cells hb; have hsz := Bw.size hb; try (have hz0 : w.heap.size < w'.heap.size := by (try simp at hsz); omega); try (have hz1 : w.heap.size + 1 < w'.heap.size := by (try simp at hsz); omega); try (have hz2 : w.heap.size + 1 + 1 < w'.heap.size := by (try simp at hsz); omega); try (have hz3 : w.heap.size + 1 + 1 + 1 < w'.heap.size := by (try simp at hsz); omega); try (have hz4 : w.heap.size + 1 + 1 + 1 + 1 < w'.heap.size := by (try simp at hsz); omega); try (have hzr : wr.heap.size < w'.heap.size := by (try simp at hsz); omega); try (have hzr1 : wr.heap.size + 1 < w'.heap.size := by (try simp at hsz); omega))
    have k0 : w'.cell? ⟨w.heap.size, 0, none⟩ = some (.int .i64 0) := by simp [*, go_sem]
    have k1 : w'.cell? ⟨w.heap.size, 1, none⟩ = some (.int .i64 0) := by simp [*, go_sem]
    refine bodyPost_ret (v := .tuple #[.agg #[.int .i64 0, .int .i64 0], .int .i64 2]) (by simp [results, Try.results25, go_sem, k0, k1]) rfl ⟨by unfold LeastP; rw [HR.out, HE.out], (by repeat (first | exact Bw.refl _ | assumption | refine Bw.alloc ?_ _ | refine Bw.drew ?_ | refine Bw.trans ?_ (by assumption) | refine Bw.setCell ?_ (by simp; try omega) _))⟩
end Go.Proofs.Sky
