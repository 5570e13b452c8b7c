/-
  lemmas for the theorems of this claim. No conditions beyond those written in the statements.
-/
import Derived.Test.YtmilfedbggbpdaaG13
import Derived.Test.YtmilfedbggbpdaaH13
set_option linter.unusedVariables false
set_option linter.unusedSimpArgs false
set_option linter.unnecessarySimpa false
namespace Go.Proofs.Sky
open Go Go.RowKit
set_option maxHeartbeats 1000000
theorem part_in (x : Int) (w : World) : Calls Try.prog 32 #[.int .i64 x] w fun e w' => e = .returned (.bool (inI 70368744177664 x)) ∧ Bw w w' := part_any x w
theorem errS_long {m : Int} {ps : List (Int × Int)} (h : 1048576 < ps.length) : errS m ps = 4 := by unfold errS; rw [if_pos h]
theorem errS_hit {m : Int} {ps : List (Int × Int)} (h : ¬ 1048576 < ps.length) (k : Nat) (hk : k < ps.length) (hp : inP m (ps.getD k (0, 0)) = false) : errS m ps = 2 := by
  unfold errS; rw [if_neg h, any_of_lt ps _ (0, 0) k hk (by rw [hp]; rfl)]; rfl
theorem errS_miss {m : Int} {ps : List (Int × Int)} (h : ¬ 1048576 < ps.length) (hp : ∀ k, k < ps.length → inP m (ps.getD k (0, 0)) = true) : errS m ps = 0 := by
  unfold errS; rw [if_neg h, any_none ps _ (0, 0) (fun i hi => by rw [hp i hi]; rfl)]; rfl
theorem rcheck_s (ps : List (Int × Int)) (v : Value) (w : World) (hv : RdS w v ps) :
   Calls Try.prog 36 #[v] w fun e w' => e = .returned (.int .i64 (errS 70368744177664 ps)) ∧ Bw w w' := by
  obtain ⟨_, a, cap, rfl, h4⟩ := hv
  by_cases hl : 1048576 < ps.length
  · have HE := Lib.hid (errS_long (m := 70368744177664) hl)
    go_enter Try.func36, Try.ntmps36
    go_wp2
    go_ret
    exact ⟨ret_int HE.out.symm, (by repeat (first | exact Bw.refl _ | assumption | refine Bw.alloc ?_ _ | refine Bw.drew ?_ | refine Bw.trans ?_ (by assumption) | refine Bw.setCell ?_ (by simp; try omega) _))⟩
  · obtain ⟨n, hn⟩ : ∃ n, n = ps.length := ⟨_, rfl⟩
    rw [← hn]
    have hle : n ≤ 1048576 := by omega
    have HN := Lib.hid hn; clear hn
    have HL := Lib.hid hl; clear hl
    have H4 := Lib.hid h4; clear h4
    go_enter Try.func36, Try.ntmps36
    go_wp2
    go_loopg [3] n (fun gg s3 wr => ∃ k : Nat, k ≤ n ∧ n - k ≤ gg ∧ s3 = .int .i64 k ∧ Hid (Bw w wr) ∧ Hid (∀ j, j < k → inP 70368744177664 (ps.getD j (0, 0)) = true))
    case atStart => exact ⟨0, Nat.zero_le _, by omega, rfl, Bw.refl _, fun j hj => absurd hj (Nat.not_lt_zero _)⟩
    case round =>
      obtain ⟨k, hk, hg, rfl, hbw, A⟩ := hrel
      by_cases hlt : k < n
      · have hltz : (k : Int) < (n : Int) := by omega
        have hq := HN.out
        obtain ⟨b1, o1, rfl, hb1, hc⟩ := H4.out.resolve_left (by intro h; rw [h] at hq; simp at hq; omega)
        obtain ⟨c1, c2⟩ := hc k (by omega)
        rw [← hbw.out.cells.1 _ _ (by assumption)] at c1 c2
        have hz := hbw.out.size
        have hzb : b1 < wr.heap.size := by omega
        generalize hx : ps.getD k (0, 0) = x at c1 c2
        obtain ⟨x1, x2⟩ := x
        have HX := Lib.hid hx; clear hx hq hc H4
        have HP := Lib.hid (fun x w => part_in x w)
        cases h1 : inI 70368744177664 x1 with
        | false =>
          have HC := Lib.hid (fun w => part_in x1 w)
          rw [h1] at HC
          have H1 := Lib.hid h1; clear h1
          go_wp2_with (go_at_call 32; refine (HC.out _).mono ?_; rintro e w' ⟨rfl, hb⟩; obtain ⟨hcc, hff⟩ := Bw.cells hb; have hsz := Bw.size hb; try (have hz0 : w.heap.size < w'.heap.size := by (try simp at hsz); omega); try (have hz1 : w.heap.size + 1 < w'.heap.size := by (try simp at hsz); omega); try (have hz2 : w.heap.size + 1 + 1 < w'.heap.size := by (try simp at hsz); omega); try (have hz3 : w.heap.size + 1 + 1 + 1 < w'.heap.size := by (try simp at hsz); omega); try (have hz4 : w.heap.size + 1 + 1 + 1 + 1 < w'.heap.size := by (try simp at hsz); omega); try (have hzr : wr.heap.size < w'.heap.size := by (try simp at hsz); omega); try (have hzr1 : wr.heap.size + 1 < w'.heap.size := by (try simp at hsz); omega))
          go_ret
          exact ⟨ret_int (errS_hit HL.out k (by have := HN.out; omega) (by rw [HX.out]; simp [inP, H1.out])).symm, Bw.trans hbw.out (by repeat (first | exact Bw.refl _ | assumption | refine Bw.alloc ?_ _ | refine Bw.drew ?_ | refine Bw.trans ?_ (by assumption) | refine Bw.setCell ?_ (by simp; try omega) _))⟩
        | true =>
          have HC := Lib.hid (fun w => part_in x1 w)
          rw [h1] at HC
          have H1 := Lib.hid h1; clear h1
          have HD := Lib.hid (fun w => part_in x2 w)
          cases h2 : inI 70368744177664 x2 with
          | false =>
            rw [h2] at HD
            have H2 := Lib.hid h2; clear h2
            go_wp2_with fail
            refine (HC.out _).mono ?_
            rintro e w' ⟨rfl, hb⟩
            obtain ⟨hcc, hff⟩ := Bw.cells hb
            go_wp2_with fail
            refine (HD.out _).mono ?_
            rintro e w2 ⟨rfl, hb2⟩
            go_wp2_with fail
            go_ret
            exact ⟨ret_int (errS_hit HL.out k (by have := HN.out; omega) (by rw [HX.out]; simp [inP, H1.out, H2.out])).symm, Bw.trans hbw.out (by repeat (first | exact Bw.refl _ | assumption | refine Bw.alloc ?_ _ | refine Bw.drew ?_ | refine Bw.trans ?_ (by assumption) | refine Bw.setCell ?_ (by simp; try omega) _))⟩
          | true =>
            rw [h2] at HD
            have H2 := Lib.hid h2; clear h2
            go_wp2_with fail
            refine (HC.out _).mono ?_
            rintro e w' ⟨rfl, hb⟩
            obtain ⟨hcc, hff⟩ := Bw.cells hb
            go_wp2_with fail
            refine (HD.out _).mono ?_
            rintro e w2 ⟨rfl, hb2⟩
            go_wp2_with fail
            go_roundg (n - (k + 1))
            case measure => omega
            case rel =>
              refine ⟨k + 1, by omega, by omega, by go_num, Bw.trans hbw.out (by repeat (first | exact Bw.refl _ | assumption | refine Bw.alloc ?_ _ | refine Bw.drew ?_ | refine Bw.trans ?_ (by assumption) | refine Bw.setCell ?_ (by simp; try omega) _)), fun j hj => ?_⟩
              by_cases e : j = k
              · subst e
                rw [HX.out]; simp [inP, H1.out, H2.out]
              · exact A.out j (by omega)
      · have hltz : ¬ (k : Int) < (n : Int) := by omega
        have : k = n := by omega
        subst this
        go_wp2
        go_ret
        exact ⟨ret_int (errS_miss HL.out (fun i hi => A.out i (by have := HN.out; omega))).symm, hbw.out⟩
theorem RQuantise_any (b s : Int) (ps : List (Int × Int)) (v : Value) (w : World) (hv : RdS w v ps) :
    Calls Try.prog 18 #[v, .agg #[.int .i64 b, .int .i64 s]] w fun e w' => QuantS w.heap.size b s ps e w' ∧ Bw w w' := by
  have HC := Lib.hid (fun w => rcheck_any b s w)
  have HV := Lib.hid hv; clear hv
  by_cases hG : 2 ≤ b ∧ b ≤ 8 ∧ 0 ≤ s ∧ s ≤ 30
  · rw [errG_ok b s hG] at HC
    have HD := Lib.hid (fun w hv => rcheck_s ps v w hv)
    have hQ := errQ_good ps hG
    by_cases he : errS 70368744177664 ps = 0
    · have h0 := hQ.trans he
      obtain ⟨q1, q2⟩ := q_ok h0
      have HE := Lib.hid (show errQ b s ps = 0 ∧ qL b s ps = lvS b s ps ∧ qN b s ps = lostN b s ps from ⟨h0, q1, q2⟩)
      rw [he] at HD
      obtain ⟨z1, z2⟩ := errS_zero he
      have HZ := Lib.hid z2
      obtain ⟨g1, g2, g3, g4⟩ := hG
      clear he h0 q1 q2 hQ z2
      go_enter Try.func18, Try.ntmps18
      go_wp2_with (first | (go_at_call 15; refine (HC.out _).mono ?_; rintro e w' ⟨rfl, hb⟩; obtain ⟨hcc, hff⟩ := Bw.cells hb; have hsz := Bw.size hb; try (have hz0 : w.heap.size < w'.heap.size := by (try simp at hsz); omega); try (have hz1 : w.heap.size + 1 < w'.heap.size := by (try simp at hsz); omega); try (have hz2 : w.heap.size + 1 + 1 < w'.heap.size := by (try simp at hsz); omega); try (have hz3 : w.heap.size + 1 + 1 + 1 < w'.heap.size := by (try simp at hsz); omega); try (have hz4 : w.heap.size + 1 + 1 + 1 + 1 < w'.heap.size := by (try simp at hsz); omega); try (have hzr : wr.heap.size < w'.heap.size := by (try simp at hsz); omega); try (have hzr1 : wr.heap.size + 1 < w'.heap.size := by (try simp at hsz); omega)) | (go_at_call 36; refine (HD.out _ (HV.out.mono (by repeat (first | exact Bw.refl _ | assumption | refine Bw.alloc ?_ _ | refine Bw.drew ?_ | refine Bw.trans ?_ (by assumption) | refine Bw.setCell ?_ (by simp; try omega) _)))).mono ?_; rintro e w' ⟨rfl, hb⟩; obtain ⟨hcc, hff⟩ := Bw.cells hb; have hsz := Bw.size hb; try (have hz0 : w.heap.size < w'.heap.size := by (try simp at hsz); omega); try (have hz1 : w.heap.size + 1 < w'.heap.size := by (try simp at hsz); omega); try (have hz2 : w.heap.size + 1 + 1 < w'.heap.size := by (try simp at hsz); omega); try (have hz3 : w.heap.size + 1 + 1 + 1 < w'.heap.size := by (try simp at hsz); omega); try (have hz4 : w.heap.size + 1 + 1 + 1 + 1 < w'.heap.size := by (try simp at hsz); omega); try (have hzr : wr.heap.size < w'.heap.size := by (try simp at hsz); omega); try (have hzr1 : wr.heap.size + 1 < w'.heap.size := by (try simp at hsz); omega)) | (go_at_call 37; refine (rquantised_any b s g1 g2 g3 g4 ps _ _ (HV.out.mono (by repeat (first | exact Bw.refl _ | assumption | refine Bw.alloc ?_ _ | refine Bw.drew ?_ | refine Bw.trans ?_ (by assumption) | refine Bw.setCell ?_ (by simp; try omega) _))) z1 HZ.out).mono ?_; rintro e w' ⟨⟨v', rfl, hr, hfr⟩, hb⟩; obtain ⟨a', c', rfl⟩ := hr.form; have HR := Lib.hid hr; clear hr; have HF := Lib.hid hfr; clear hfr; obtain ⟨hcc, hff⟩ := Bw.cells hb; have hsz := Bw.size hb; try (have hz0 : w.heap.size < w'.heap.size := by (try simp at hsz); omega); try (have hz1 : w.heap.size + 1 < w'.heap.size := by (try simp at hsz); omega); try (have hz2 : w.heap.size + 1 + 1 < w'.heap.size := by (try simp at hsz); omega); try (have hz3 : w.heap.size + 1 + 1 + 1 < w'.heap.size := by (try simp at hsz); omega); try (have hz4 : w.heap.size + 1 + 1 + 1 + 1 < w'.heap.size := by (try simp at hsz); omega); try (have hzr : wr.heap.size < w'.heap.size := by (try simp at hsz); omega); try (have hzr1 : wr.heap.size + 1 < w'.heap.size := by (try simp at hsz); omega)))
      refine bodyPost_ret (v := .tuple #[.agg #[.slice a' (lvS b s ps).length c', .int .i64 (lostN b s ps)], .int .i64 0]) (by simp [results, Try.results18, go_sem, *]) rfl ⟨⟨_, by rw [HE.out.1, HE.out.2.2], by rw [HE.out.2.1]; exact (HR.out.set HF.out (by assumption) _ _).set HF.out (by assumption) _ _, HF.out.mono (by omega)⟩, (by repeat (first | exact Bw.refl _ | assumption | refine Bw.alloc ?_ _ | refine Bw.drew ?_ | refine Bw.trans ?_ (by assumption) | refine Bw.setCell ?_ (by simp; try omega) _))⟩
    · have h0 : errQ b s ps ≠ 0 := by rw [hQ]; exact he
      obtain ⟨q1, q2⟩ := q_err h0
      have HE := Lib.hid (show errQ b s ps = errS 70368744177664 ps ∧ qL b s ps = [] ∧ qN b s ps = 0 from ⟨hQ, q1, q2⟩)
      have hne : (errS 70368744177664 ps != 0) = true := by simpa using he
      clear he h0 q1 q2 hQ hG
      go_enter Try.func18, Try.ntmps18
      go_wp2_with (first | (go_at_call 15; refine (HC.out _).mono ?_; rintro e w' ⟨rfl, hb⟩; obtain ⟨hcc, hff⟩ := Bw.cells hb; have hsz := Bw.size hb; try (have hz0 : w.heap.size < w'.heap.size := by (try simp at hsz); omega); try (have hz1 : w.heap.size + 1 < w'.heap.size := by (try simp at hsz); omega); try (have hz2 : w.heap.size + 1 + 1 < w'.heap.size := by (try simp at hsz); omega); try (have hz3 : w.heap.size + 1 + 1 + 1 < w'.heap.size := by (try simp at hsz); omega); try (have hz4 : w.heap.size + 1 + 1 + 1 + 1 < w'.heap.size := by (try simp at hsz); omega); try (have hzr : wr.heap.size < w'.heap.size := by (try simp at hsz); omega); try (have hzr1 : wr.heap.size + 1 < w'.heap.size := by (try simp at hsz); omega)) | (go_at_call 36; refine (HD.out _ (HV.out.mono (by repeat (first | exact Bw.refl _ | assumption | refine Bw.alloc ?_ _ | refine Bw.drew ?_ | refine Bw.trans ?_ (by assumption) | refine Bw.setCell ?_ (by simp; try omega) _)))).mono ?_; rintro e w' ⟨rfl, hb⟩; obtain ⟨hcc, hff⟩ := Bw.cells hb; have hsz := Bw.size hb; try (have hz0 : w.heap.size < w'.heap.size := by (try simp at hsz); omega); try (have hz1 : w.heap.size + 1 < w'.heap.size := by (try simp at hsz); omega); try (have hz2 : w.heap.size + 1 + 1 < w'.heap.size := by (try simp at hsz); omega); try (have hz3 : w.heap.size + 1 + 1 + 1 < w'.heap.size := by (try simp at hsz); omega); try (have hz4 : w.heap.size + 1 + 1 + 1 + 1 < w'.heap.size := by (try simp at hsz); omega); try (have hzr : wr.heap.size < w'.heap.size := by (try simp at hsz); omega); try (have hzr1 : wr.heap.size + 1 < w'.heap.size := by (try simp at hsz); omega)))
      refine bodyPost_ret (v := .tuple #[.agg #[.slice none 0 0, .int .i64 0], .int .i64 (errS 70368744177664 ps)]) (by simp [results, Try.results18, go_sem, *]) rfl ⟨⟨_, by rw [HE.out.1, HE.out.2.2], by rw [HE.out.2.1]; exact RdS.nil _, Fresh.nil _ _ _⟩, (by repeat (first | exact Bw.refl _ | assumption | refine Bw.alloc ?_ _ | refine Bw.drew ?_ | refine Bw.trans ?_ (by assumption) | refine Bw.setCell ?_ (by simp; try omega) _))⟩
  · rw [errG_no b s hG] at HC
    have hQ := errQ_bad ps hG
    obtain ⟨q1, q2⟩ := q_err (ps := ps) (by rw [hQ]; decide)
    have HE := Lib.hid (show errQ b s ps = 2 ∧ qL b s ps = [] ∧ qN b s ps = 0 from ⟨hQ, q1, q2⟩)
    clear q1 q2 hQ hG
    go_enter Try.func18, Try.ntmps18
    go_wp2_with (go_at_call 15; refine (HC.out _).mono ?_; rintro e w' ⟨rfl, hb⟩; obtain ⟨hcc, hff⟩ := Bw.cells hb; have hsz := Bw.size hb; try (have hz0 : w.heap.size < w'.heap.size := by (try simp at hsz); omega); try (have hz1 : w.heap.size + 1 < w'.heap.size := by (try simp at hsz); omega); try (have hz2 : w.heap.size + 1 + 1 < w'.heap.size := by (try simp at hsz); omega); try (have hz3 : w.heap.size + 1 + 1 + 1 < w'.heap.size := by (try simp at hsz); omega); try (have hz4 : w.heap.size + 1 + 1 + 1 + 1 < w'.heap.size := by (try simp at hsz); omega); try (have hzr : wr.heap.size < w'.heap.size := by (try simp at hsz); omega); try (have hzr1 : wr.heap.size + 1 < w'.heap.size := by (try simp at hsz); omega))
    refine bodyPost_ret (v := .tuple #[.agg #[.slice none 0 0, .int .i64 0], .int .i64 2]) (by simp [results, Try.results18, go_sem, *]) rfl ⟨⟨_, by rw [HE.out.1, HE.out.2.2], by rw [HE.out.2.1]; exact RdS.nil _, Fresh.nil _ _ _⟩, (by repeat (first | exact Bw.refl _ | assumption | refine Bw.alloc ?_ _ | refine Bw.drew ?_ | refine Bw.trans ?_ (by assumption) | refine Bw.setCell ?_ (by simp; try omega) _))⟩
end Go.Proofs.Sky
