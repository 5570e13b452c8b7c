/-
  lemmas for the theorems of this claim. No conditions beyond those written in the statements.
-/
import Derived.Test.YtmilfedbggbpdaaY13
set_option linter.unusedVariables false
set_option linter.unusedSimpArgs false
set_option linter.unnecessarySimpa false
namespace Go.Proofs.Sky
open Go Go.RowKit
set_option maxHeartbeats 1000000
theorem lost1_iff (b s x : Int) (hq : 0 ≤ gq b) : lost1 b s x = true ↔ gq b < ab (rnd x s.toNat) := by
  unfold lost1 lv
  rw [clampI_ite _ _ hq]
  simp only [bne_iff_ne, ne_eq]
  rcases ab_cases (rnd x s.toNat) with ⟨h1, h2⟩ | ⟨h1, h2⟩
  · rw [h2]; split
    · omega
    · split <;> omega
  · rw [h2]; split
    · omega
    · split <;> omega
theorem pk_le (s : Nat) (ps : List (Int × Int)) (q : Int) (hq : 0 ≤ q) : pk s ps ≤ q ↔ ∀ p ∈ ps, ab (rnd p.1 s) ≤ q ∧ ab (rnd p.2 s) ≤ q := by
  have : ∀ (l : List (Int × Int)) (m : Int), l.foldl (pkf s) m ≤ q ↔ m ≤ q ∧ ∀ p ∈ l, ab (rnd p.1 s) ≤ q ∧ ab (rnd p.2 s) ≤ q := by
    intro l
    induction l with
    | nil => intro m; simp
    | cons p l ih =>
      intro m
      rw [List.foldl_cons, ih]
      simp only [List.mem_cons, forall_eq_or_imp]
      unfold pkf
      constructor
      · intro ⟨h1, h2⟩; exact ⟨by omega, ⟨by omega, by omega⟩, h2⟩
      · intro ⟨h1, ⟨h2, h3⟩, h4⟩; exact ⟨by omega, h4⟩
  unfold pk
  rw [this]
  constructor
  · exact fun h => h.2
  · exact fun h => ⟨hq, h⟩
theorem lostN_zero (b s : Int) (ps : List (Int × Int)) (hq : 0 ≤ gq b) : lostN b s ps = 0 ↔ pk s.toNat ps ≤ gq b := by
  rw [pk_le _ _ _ hq]
  unfold lostN
  rw [show (((ps.filter (lostP b s)).length : Int) = 0) ↔ (ps.filter (lostP b s)) = [] by rw [← List.length_eq_zero_iff]; omega, List.filter_eq_nil_iff]
  constructor
  · intro h p hp
    have h1 := h p hp
    simp only [lostP, Bool.or_eq_true, not_or] at h1
    rw [lost1_iff _ _ _ hq, lost1_iff _ _ _ hq] at h1
    omega
  · intro h p hp
    have h1 := h p hp
    simp only [lostP, Bool.or_eq_true, not_or]
    rw [lost1_iff _ _ _ hq, lost1_iff _ _ _ hq]
    omega
theorem field34 (a : Option Addr) (n c : Nat) (x : Int) (w : World) : (Instr.field 34 (.agg #[.slice a n c, .int .i64 x]) 1).run Try.prog w = .ok (.int .i64 x) w := by kernel_rfl
theorem RLeast_any (b : Int) (ps : List (Int × Int)) (v : Value) (w : World) (hv : RdS w v ps) :
    Calls Try.prog 26 #[v, .int .i64 b] w fun e w' => LeastP b ps e ∧ Bw w w' := by
  have HC := Lib.hid (fun w => rcheck_any b 0 w)
  have HV := Lib.hid hv
  obtain ⟨a0, cc0, rfl⟩ := hv.form
  clear hv
  by_cases hG : 2 ≤ b ∧ b ≤ 8 ∧ (0 : Int) ≤ 0 ∧ (0 : Int) ≤ 30
  · rw [errG_ok b 0 hG] at HC
    have HD := Lib.hid (fun w hv => rcheck_s ps (.slice a0 ps.length cc0) w hv)
    have hQ := errQ_good ps hG
    by_cases he : errS 70368744177664 ps = 0
    · have HQ := Lib.hid (hQ.trans he)
      rw [he] at HD
      obtain ⟨z1, z2⟩ := errS_zero he
      have HZ := Lib.hid z2
      obtain ⟨g1, g2, g3, g4⟩ := hG
      have ⟨q1, q2⟩ := gq_bd b g1 g2
      clear he hQ z2
      have hfld := field34
      go_enter Try.func26, Try.ntmps26
      go_wp2_with (first | (go_at_call 15; refine (HC.out _).mono ?_; rintro e w' ⟨rfl, hb⟩; obtain ⟨hcc, hff⟩ := Bw.cells hb; have hsz := Bw.size hb; try (have hz0 : w.heap.size < w'.heap.size := by (try simp at hsz); omega); try (have hz1 : w.heap.size + 1 < w'.heap.size := by (try simp at hsz); omega); try (have hz2 : w.heap.size + 1 + 1 < w'.heap.size := by (try simp at hsz); omega); try (have hz3 : w.heap.size + 1 + 1 + 1 < w'.heap.size := by (try simp at hsz); omega); try (have hz4 : w.heap.size + 1 + 1 + 1 + 1 < w'.heap.size := by (try simp at hsz); omega); try (have hzr : wr.heap.size < w'.heap.size := by (try simp at hsz); omega); try (have hzr1 : wr.heap.size + 1 < w'.heap.size := by (try simp at hsz); omega)) | (go_at_call 36; refine (HD.out _ (HV.out.mono (by repeat (first | exact Bw.refl _ | assumption | refine Bw.alloc ?_ _ | refine Bw.drew ?_ | refine Bw.trans ?_ (by assumption) | refine Bw.setCell ?_ (by simp; try omega) _)))).mono ?_; rintro e w' ⟨rfl, hb⟩; obtain ⟨hcc, hff⟩ := Bw.cells hb; have hsz := Bw.size hb; try (have hz0 : w.heap.size < w'.heap.size := by (try simp at hsz); omega); try (have hz1 : w.heap.size + 1 < w'.heap.size := by (try simp at hsz); omega); try (have hz2 : w.heap.size + 1 + 1 < w'.heap.size := by (try simp at hsz); omega); try (have hz3 : w.heap.size + 1 + 1 + 1 < w'.heap.size := by (try simp at hsz); omega); try (have hz4 : w.heap.size + 1 + 1 + 1 + 1 < w'.heap.size := by (try simp at hsz); omega); try (have hzr : wr.heap.size < w'.heap.size := by (try simp at hsz); omega); try (have hzr1 : wr.heap.size + 1 < w'.heap.size := by (try simp at hsz); omega)))
      have k0 : w'.cell? ⟨w.heap.size, 0, none⟩ = some (.int .i64 0) := by simp [*, go_sem]
      have k1 : w'.cell? ⟨w.heap.size, 1, none⟩ = some (.int .i64 0) := by simp [*, go_sem]
      have j0 : w'.frozen? ⟨w.heap.size, 0, none⟩ = false := by simp [*, go_sem]
      have j1 : w'.frozen? ⟨w.heap.size, 1, none⟩ = false := by simp [*, go_sem]
      have hbw : Bw w w' := (by repeat (first | exact Bw.refl _ | assumption | refine Bw.alloc ?_ _ | refine Bw.drew ?_ | refine Bw.trans ?_ (by assumption) | refine Bw.setCell ?_ (by simp; try omega) _))
      have HB := Lib.hid hbw; clear hbw hcc hff
      go_loopg [8] 31 (fun gg s8 wr => ∃ k : Nat, k ≤ 31 ∧ 31 - k ≤ gg ∧ s8 = .int .i64 k ∧ Hid (Bw w' wr) ∧ Hid (∀ j, j < k → ¬ pk j ps ≤ gq b))
      case atStart => exact ⟨0, by omega, by omega, rfl, Bw.refl _, fun j hj => by omega⟩
      case round =>
        obtain ⟨k, hk, hg, rfl, hbw, A⟩ := hrel
        have kr0 := (hbw.out.cells.1 _ _ hz0).trans k0
        have kr1 := (hbw.out.cells.1 _ _ hz0).trans k1
        have jr0 := (hbw.out.cells.2 w.heap.size 0 hz0).trans j0
        have jr1 := (hbw.out.cells.2 w.heap.size 1 hz0).trans j1
        have hwr : w.heap.size < wr.heap.size := by have := hbw.out.size; omega
        have hwr' : w.heap.size < wr.heap.size + 1 := by omega
        by_cases hlt : k < 31
        · have hle : (k : Int) ≤ 30 := by omega
          have hiff := lostN_zero b k ps (by omega)
          rw [Int.toNat_natCast] at hiff
          by_cases hpk : pk k ps ≤ gq b
          · have hl0 : (lostN b k ps == 0) = true := by rw [beq_iff_eq]; exact hiff.2 hpk
            have HR := Lib.hid (least_hit HQ.out k hlt A.out hpk)
            clear hiff hpk
            go_wp2_with (go_at_call 37; refine (rquantised_any b k g1 g2 (by omega) hle ps _ _ (HV.out.mono (Bw.trans HB.out (Bw.trans hbw.out (Bw.alloc (Bw.refl _) _)))) z1 HZ.out).mono ?_; rintro e w2 ⟨⟨v', rfl, hr, _⟩, hb2⟩; obtain ⟨a', c', rfl⟩ := hr.form; clear hr; obtain ⟨hcc2, hff2⟩ := Bw.cells hb2)
            have hb2' : Bw wr w2 := Bw.trans (Bw.alloc (Bw.refl _) _) hb2
            have kw0 := (hb2'.cells.1 _ _ hwr).trans kr0
            have kw1 := (hb2'.cells.1 _ _ hwr).trans kr1
            have bw := Bw.trans HB.out (Bw.trans hbw.out hb2')
            refine bodyPost_ret (v := .tuple #[.agg #[.int .i64 b, .int .i64 k], .int .i64 0]) (by simp [results, Try.results26, go_sem, kw0, kw1]) rfl ⟨by unfold LeastP; rw [HR.out], (by repeat (first | exact Bw.refl _ | assumption | refine Bw.alloc ?_ _ | refine Bw.drew ?_ | refine Bw.trans ?_ (by assumption) | refine Bw.setCell ?_ (by simp; try omega) _))⟩
          · have hl0 : (lostN b k ps == 0) = false := by rw [beq_eq_false_iff_ne]; exact fun h => hpk (hiff.1 h)
            have HNK := Lib.hid hpk
            clear hiff hpk
            go_wp2_with (go_at_call 37; refine (rquantised_any b k g1 g2 (by omega) hle ps _ _ (HV.out.mono (Bw.trans HB.out (Bw.trans hbw.out (Bw.alloc (Bw.refl _) _)))) z1 HZ.out).mono ?_; rintro e w2 ⟨⟨v', rfl, hr, _⟩, hb2⟩; obtain ⟨a', c', rfl⟩ := hr.form; clear hr; obtain ⟨hcc2, hff2⟩ := Bw.cells hb2)
            go_roundg (31 - (k + 1))
            case measure => omega
            case rel =>
              refine ⟨k + 1, by omega, by omega, by go_num, Bw.trans hbw.out (Bw.trans (Bw.alloc (Bw.refl _) _) hb2), fun j hj => ?_⟩
              by_cases e : j = k
              · subst e; exact HNK.out
              · exact A.out j (by omega)
        · have hk31 : k = 31 := by omega
          subst hk31
          have HR := Lib.hid (least_miss HQ.out A.out)
          have bw := Bw.trans HB.out hbw.out
          go_wp2
          refine bodyPost_ret (v := .tuple #[.agg #[.int .i64 0, .int .i64 0], .int .i64 5]) (by simp [results, Try.results26, go_sem, kr0, kr1]) rfl ⟨by unfold LeastP; rw [HR.out], (by repeat (first | exact Bw.refl _ | assumption | refine Bw.alloc ?_ _ | refine Bw.drew ?_ | refine Bw.trans ?_ (by assumption) | refine Bw.setCell ?_ (by simp; try omega) _))⟩
    · have h0 : errQ b 0 ps ≠ 0 := by rw [hQ]; exact he
      have HR := Lib.hid (least_err h0)
      have HE := Lib.hid hQ
      have hne : (errS 70368744177664 ps != 0) = true := by simpa using he
      clear he h0 hQ hG
      go_enter Try.func26, Try.ntmps26
      go_wp2_with (first | (go_at_call 15; refine (HC.out _).mono ?_; rintro e w' ⟨rfl, hb⟩; obtain ⟨hcc, hff⟩ := Bw.cells hb; have hsz := Bw.size hb; try (have hz0 : w.heap.size < w'.heap.size := by (try simp at hsz); omega); try (have hz1 : w.heap.size + 1 < w'.heap.size := by (try simp at hsz); omega); try (have hz2 : w.heap.size + 1 + 1 < w'.heap.size := by (try simp at hsz); omega); try (have hz3 : w.heap.size + 1 + 1 + 1 < w'.heap.size := by (try simp at hsz); omega); try (have hz4 : w.heap.size + 1 + 1 + 1 + 1 < w'.heap.size := by (try simp at hsz); omega); try (have hzr : wr.heap.size < w'.heap.size := by (try simp at hsz); omega); try (have hzr1 : wr.heap.size + 1 < w'.heap.size := by (try simp at hsz); omega)) | (go_at_call 36; refine (HD.out _ (HV.out.mono (by repeat (first | exact Bw.refl _ | assumption | refine Bw.alloc ?_ _ | refine Bw.drew ?_ | refine Bw.trans ?_ (by assumption) | refine Bw.setCell ?_ (by simp; try omega) _)))).mono ?_; rintro e w' ⟨rfl, hb⟩; obtain ⟨hcc, hff⟩ := Bw.cells hb; have hsz := Bw.size hb; try (have hz0 : w.heap.size < w'.heap.size := by (try simp at hsz); omega); try (have hz1 : w.heap.size + 1 < w'.heap.size := by (try simp at hsz); omega); try (have hz2 : w.heap.size + 1 + 1 < w'.heap.size := by (try simp at hsz); omega); try (have hz3 : w.heap.size + 1 + 1 + 1 < w'.heap.size := by (try simp at hsz); omega); try (have hz4 : w.heap.size + 1 + 1 + 1 + 1 < w'.heap.size := by (try simp at hsz); omega); try (have hzr : wr.heap.size < w'.heap.size := by (try simp at hsz); omega); try (have hzr1 : wr.heap.size + 1 < w'.heap.size := by (try simp at hsz); omega)))
      have k0 : w'.cell? ⟨w.heap.size, 0, none⟩ = some (.int .i64 0) := by simp [*, go_sem]
      have k1 : w'.cell? ⟨w.heap.size, 1, none⟩ = some (.int .i64 0) := by simp [*, go_sem]
      refine bodyPost_ret (v := .tuple #[.agg #[.int .i64 0, .int .i64 0], .int .i64 (errS 70368744177664 ps)]) (by simp [results, Try.results26, go_sem, k0, k1]) rfl ⟨by unfold LeastP; rw [HR.out, HE.out], (by repeat (first | exact Bw.refl _ | assumption | refine Bw.alloc ?_ _ | refine Bw.drew ?_ | refine Bw.trans ?_ (by assumption) | refine Bw.setCell ?_ (by simp; try omega) _))⟩
  · rw [errG_no b 0 hG] at HC
    have hQ := errQ_bad ps hG
    have HR := Lib.hid (least_err (b := b) (ps := ps) (by rw [hQ]; decide))
    have HE := Lib.hid hQ
    clear hQ hG
    go_enter Try.func26, Try.ntmps26
    go_wp2_with (go_at_call 15; refine (HC.out _).mono ?_; rintro e w' ⟨rfl, hb⟩; obtain ⟨hcc, hff⟩ := Bw.cells hb; have hsz := Bw.size hb; try (have hz0 : w.heap.size < w'.heap.size := by (try simp at hsz); omega); try (have hz1 : w.heap.size + 1 < w'.heap.size := by (try simp at hsz); omega); try (have hz2 : w.heap.size + 1 + 1 < w'.heap.size := by (try simp at hsz); omega); try (have hz3 : w.heap.size + 1 + 1 + 1 < w'.heap.size := by (try simp at hsz); omega); try (have hz4 : w.heap.size + 1 + 1 + 1 + 1 < w'.heap.size := by (try simp at hsz); omega); try (have hzr : wr.heap.size < w'.heap.size := by (try simp at hsz); omega); try (have hzr1 : wr.heap.size + 1 < w'.heap.size := by (try simp at hsz); omega))
    have k0 : w'.cell? ⟨w.heap.size, 0, none⟩ = some (.int .i64 0) := by simp [*, go_sem]
    have k1 : w'.cell? ⟨w.heap.size, 1, none⟩ = some (.int .i64 0) := by simp [*, go_sem]
    refine bodyPost_ret (v := .tuple #[.agg #[.int .i64 0, .int .i64 0], .int .i64 2]) (by simp [results, Try.results26, go_sem, k0, k1]) rfl ⟨by unfold LeastP; rw [HR.out, HE.out], (by repeat (first | exact Bw.refl _ | assumption | refine Bw.alloc ?_ _ | refine Bw.drew ?_ | refine Bw.trans ?_ (by assumption) | refine Bw.setCell ?_ (by simp; try omega) _))⟩
end Go.Proofs.Sky
