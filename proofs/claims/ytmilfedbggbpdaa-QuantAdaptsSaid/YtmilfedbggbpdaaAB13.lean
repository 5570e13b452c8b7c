/-
  lemmas for the theorems of this claim. No conditions beyond those written in the statements.
-/
import Derived.Test.YtmilfedbggbpdaaAA13
import Derived.Deep.Cut
set_option linter.unusedVariables false
set_option linter.unusedSimpArgs false
set_option linter.unnecessarySimpa false
namespace Go.Proofs.Sky
open Go Go.RowKit
set_option maxHeartbeats 1000000
theorem imax (a b : Int) : (if b > a then b else a) = max a b := by omega
theorem max5 (a b c d e : Int) (w : World) : Sem.run Try.prog (Builtin.max_ #[3, 3, 3, 3, 3] 3 #[.int .i64 a, .int .i64 b, .int .i64 c, .int .i64 d, .int .i64 e]) w = .ok (.int .i64 (max (max (max (max a b) c) d) e)) w := by
  rw [← imax, ← imax, ← imax, ← imax]
  kernel_rfl
theorem RAdapt_any (b s : Int) (ps : List (Int × Int)) (v : Value) (w : World) (hv : RdS w v ps) :
    Calls Try.prog 28 #[v, .agg #[.int .i64 b, .int .i64 s]] w fun e w' => AdaptP b s ps e ∧ Bw w w' := by
  have HC := Lib.hid (fun w => rcheck_any b s w)
  have HV := Lib.hid hv
  obtain ⟨a0, cc0, rfl⟩ := hv.form
  clear hv
  by_cases hG : 2 ≤ b ∧ b ≤ 8 ∧ 0 ≤ s ∧ s ≤ 30
  · rw [errG_ok b s hG] at HC
    have HD := Lib.hid (fun w hv => rcheck_s ps (.slice a0 ps.length cc0) w hv)
    have hQ := errQ_good ps hG
    by_cases he : errS 70368744177664 ps = 0
    · have h0 := hQ.trans he
      have HQ := Lib.hid (And.intro h0 (adapt_ok h0)); clear h0
      rw [he] at HD
      obtain ⟨z1, z2⟩ := errS_zero he
      have hp := pk_bd s.toNat ps z2
      have HZ := Lib.hid z2
      obtain ⟨g1, g2, g3, g4⟩ := hG
      have ⟨q1, q2⟩ := gq_bd b g1 g2
      have ⟨l1, l2⟩ := lostN_bd' b s ps
      have hfld := field34
      have hmx := max5
      clear he hQ z2
      go_enter Try.func28, Try.ntmps28
      go_wp2_with (first | (go_at_call 15; refine (HC.out _).mono ?_; rintro e w' ⟨rfl, hb⟩; obtain ⟨hcc, hff⟩ := Bw.cells hb; have hsz := Bw.size hb; try (have hz0 : w.heap.size < w'.heap.size := by (try simp at hsz); omega); try (have hz1 : w.heap.size + 1 < w'.heap.size := by (try simp at hsz); omega); try (have hz2 : w.heap.size + 1 + 1 < w'.heap.size := by (try simp at hsz); omega); try (have hz3 : w.heap.size + 1 + 1 + 1 < w'.heap.size := by (try simp at hsz); omega); try (have hz4 : w.heap.size + 1 + 1 + 1 + 1 < w'.heap.size := by (try simp at hsz); omega); try (have hzr : wr.heap.size < w'.heap.size := by (try simp at hsz); omega); try (have hzr1 : wr.heap.size + 1 < w'.heap.size := by (try simp at hsz); omega)) | (go_at_call 36; refine (HD.out _ (HV.out.mono (by repeat (first | exact Bw.refl _ | assumption | refine Bw.alloc ?_ _ | refine Bw.drew ?_ | refine Bw.trans ?_ (by assumption) | refine Bw.setCell ?_ (by simp; try omega) _)))).mono ?_; rintro e w' ⟨rfl, hb⟩; obtain ⟨hcc, hff⟩ := Bw.cells hb; have hsz := Bw.size hb; try (have hz0 : w.heap.size < w'.heap.size := by (try simp at hsz); omega); try (have hz1 : w.heap.size + 1 < w'.heap.size := by (try simp at hsz); omega); try (have hz2 : w.heap.size + 1 + 1 < w'.heap.size := by (try simp at hsz); omega); try (have hz3 : w.heap.size + 1 + 1 + 1 < w'.heap.size := by (try simp at hsz); omega); try (have hz4 : w.heap.size + 1 + 1 + 1 + 1 < w'.heap.size := by (try simp at hsz); omega); try (have hzr : wr.heap.size < w'.heap.size := by (try simp at hsz); omega); try (have hzr1 : wr.heap.size + 1 < w'.heap.size := by (try simp at hsz); omega)))
      have hbb : Bw w w' := (by repeat (first | exact Bw.refl _ | assumption | refine Bw.alloc ?_ _ | refine Bw.drew ?_ | refine Bw.trans ?_ (by assumption) | refine Bw.setCell ?_ (by simp; try omega) _))
      have kg0 : w'.cell? ⟨w.heap.size, 0, none⟩ = some (.int .i64 b) := by simp [*, go_sem]
      have kg1 : w'.cell? ⟨w.heap.size, 1, none⟩ = some (.int .i64 s) := by simp [*, go_sem]
      have kf1 : w'.frozen? ⟨w.heap.size, 1, none⟩ = false := by simp [*, go_sem]
      have kr0 : w'.cell? ⟨w.heap.size + 1, 0, none⟩ = some (.int .i64 0) := by simp [*, go_sem]
      have kr1 : w'.cell? ⟨w.heap.size + 1, 1, none⟩ = some (.int .i64 0) := by simp [*, go_sem]
      have kq0 : w'.frozen? ⟨w.heap.size + 1, 0, none⟩ = false := by simp [*, go_sem]
      have kq1 : w'.frozen? ⟨w.heap.size + 1, 1, none⟩ = false := by simp [*, go_sem]
      clear hcc hff
      have Qw : AInv w b s w' := ⟨hbb, hz1, kg0, kg1, kf1, kr0, kr1, kq0, kq1⟩
      have HQw := Lib.hid Qw; clear Qw kg0 kg1 kf1 kr0 kr1 kq0 kq1
      obtain ⟨n, hn⟩ : ∃ n, n = ps.length := ⟨_, rfl⟩
      rw [← hn] at z1 HV l2 ⊢
      have HN := Lib.hid hn; clear hn
      go_loopg [8, 9] n (fun gg s8 s9 wr => ∃ k : Nat, k ≤ n ∧ n - k ≤ gg ∧ s9 = .int .i64 k ∧ s8 = .int .i64 (pk s.toNat (ps.take k)) ∧ AInv w b s wr)
      case atStart => exact ⟨0, Nat.zero_le _, by omega, rfl, rfl, HQw.out⟩
      case round =>
        obtain ⟨k, hk, hg, rfl, rfl, Q⟩ := hrel
        obtain ⟨⟨sz, sz2⟩, c0, c1, f1, r0, r1, h0, h1⟩ := Q.all
        by_cases hlt : k < n
        · have hltz : (k : Int) < (n : Int) := by omega
          obtain ⟨_, a2, c2, ha, hr4⟩ := HV.out
          simp only [Value.slice.injEq] at ha
          obtain ⟨rfl, hz9, rfl⟩ := ha
          have hq := HN.out
          obtain ⟨bb, off, rfl, hbb', hc⟩ := hr4.resolve_left (by intro h; rw [h] at hq; simp at hq; omega)
          obtain ⟨d1, d2⟩ := hc k (by omega)
          rw [← Q.bw.cells.1 _ _ hbb'] at d1 d2
          have hbr : bb < wr.heap.size := by have := Q.bw.size; omega
          have hm := in46 (HZ.out _ (getD_mem ps k (0, 0) (by omega)))
          have hbd := pk_bd s.toNat (ps.take k) (mem_take ps k HZ.out)
          have HS := Lib.hid (congrArg (pk s.toNat) (take_snoc' ps k (0, 0) (by omega)))
          generalize hx : ps.getD k (0, 0) = x at d1 d2 hm HS
          clear hx hc hr4 hq hz9
          obtain ⟨x1, x2⟩ := x
          obtain ⟨⟨i1, i2⟩, i3, i4⟩ := hm
          have n1 := rnd_bd x1 s.toNat i1 i2
          have n2 := rnd_bd x2 s.toNat i3 i4
          have e0 := fun p : Ext wr => Ext.cell sz2 c0 p
          have e1 := fun p : Ext wr => Ext.cell sz2 c1 p
          have e2 := fun p : Ext wr => Ext.cell hbr d1 p
          have e3 := fun p : Ext wr => Ext.cell hbr d2 p
          go_wp2
          (refine wp_region_quiet_ext (by kernel_rfl) (by kernel_rfl) ?_; (repeat (go_big_quiet_step ((go_at_call 43; refine Calls.ext_of (rrounded_any _ _ g3 g4 (by omega) (by omega) _))))); refine wpQuiet_nil ?_; rintro wa ⟨⟨_, hbq⟩, rfl⟩; obtain ⟨hccq, hffq⟩ := Bw.cells hbq; have hszq := Bw.size hbq)
          clear e0 e1 e2 e3
          go_wp2
          all_goals go_roundg (n - (k + 1))
          all_goals first | omega | skip
          all_goals (refine ⟨k + 1, by omega, by omega, by go_num, ret_i ?_, Q.mono hbq⟩; rw [HS.out, pk_snoc]; unfold pkf; have h5 := ab_cases (rnd x1 s.toNat); have h6 := ab_cases (rnd x2 s.toNat); show _ = max (max _ (ab (rnd x1 s.toNat))) (ab (rnd x2 s.toNat)); omega)
        · have hltz : ¬ (k : Int) < (n : Int) := by omega
          have : k = n := by omega
          obtain rfl := this
          have HK := Lib.hid (show pk s.toNat ps = pk s.toNat (ps.take k) by rw [HN.out, List.take_length])
          have hbbr := Q.bw
          have hp2 := hp
          rw [HK.out] at hp2
          by_cases hlo : (k : Int) < 16 * lostN b s ps
          · have HA := Lib.hid (show adS b s ps = min (s + 1) 30 by unfold adS; rw [if_pos (by rw [← HN.out]; exact hlo)])
            by_cases h30 : s < 30
            · have HA2 := Lib.hid (show adS b s ps = s + 1 by rw [HA.out]; omega)
              go_upto_region 17 with (go_at_call 37; refine (rquantised_any b s g1 g2 g3 g4 ps _ _ (HV.out.mono hbbr) (by rw [← HN.out]; exact z1) HZ.out).mono ?_; rintro e w1 ⟨⟨v', rfl, hr, _⟩, hb1⟩; obtain ⟨a', c', rfl⟩ := hr.form; clear hr; have Qw1 := Q.mono hb1; clear c0 c1 f1 r0 r1 h0 h1 sz sz2; obtain ⟨⟨sz, sz2⟩, c0, c1, f1, r0, r1, h0, h1⟩ := Qw1.all)
              have Qwd := Qw1.step (s + 1)
              generalize w1.setCell ⟨w.heap.size, 1, none⟩ (.int .i64 (s + 1)) = wd at Qwd ⊢
              clear c0 c1 f1 r0 r1 h0 h1 sz sz2
              obtain ⟨⟨sz, sz2⟩, c0, c1, f1, r0, r1, h0, h1⟩ := Qwd.all
              have bw := Qwd.bw
              go_wp2
              refine bodyPost_ret (v := .tuple #[.agg #[.int .i64 b, .int .i64 (s + 1)], .int .i64 0]) (by simp [results, Try.results28, go_sem, r0, r1, c0, c1]) rfl ⟨by unfold AdaptP; rw [HQ.out.1, HQ.out.2, HA2.out], (by repeat (first | exact Bw.refl _ | assumption | refine Bw.alloc ?_ _ | refine Bw.drew ?_ | refine Bw.trans ?_ (by assumption) | refine Bw.setCell ?_ (by simp; try omega) _))⟩
            · have HA2 := Lib.hid (show adS b s ps = 30 by rw [HA.out]; omega)
              go_upto_region 17 with (go_at_call 37; refine (rquantised_any b s g1 g2 g3 g4 ps _ _ (HV.out.mono hbbr) (by rw [← HN.out]; exact z1) HZ.out).mono ?_; rintro e w1 ⟨⟨v', rfl, hr, _⟩, hb1⟩; obtain ⟨a', c', rfl⟩ := hr.form; clear hr; have Qw1 := Q.mono hb1; clear c0 c1 f1 r0 r1 h0 h1 sz sz2; obtain ⟨⟨sz, sz2⟩, c0, c1, f1, r0, r1, h0, h1⟩ := Qw1.all)
              have Qwd := Qw1.step (30)
              generalize w1.setCell ⟨w.heap.size, 1, none⟩ (.int .i64 (30)) = wd at Qwd ⊢
              clear c0 c1 f1 r0 r1 h0 h1 sz sz2
              obtain ⟨⟨sz, sz2⟩, c0, c1, f1, r0, r1, h0, h1⟩ := Qwd.all
              have bw := Qwd.bw
              go_wp2
              refine bodyPost_ret (v := .tuple #[.agg #[.int .i64 b, .int .i64 (30)], .int .i64 0]) (by simp [results, Try.results28, go_sem, r0, r1, c0, c1]) rfl ⟨by unfold AdaptP; rw [HQ.out.1, HQ.out.2, HA2.out], (by repeat (first | exact Bw.refl _ | assumption | refine Bw.alloc ?_ _ | refine Bw.drew ?_ | refine Bw.trans ?_ (by assumption) | refine Bw.setCell ?_ (by simp; try omega) _))⟩
          · by_cases hpk : 4 * pk s.toNat ps ≤ gq b
            · have HA := Lib.hid (show adS b s ps = max (s - 1) 0 by unfold adS; rw [if_neg (by rw [← HN.out]; exact hlo), if_pos hpk])
              rw [HK.out] at hpk
              by_cases hs0 : 0 < s
              · have HA2 := Lib.hid (show adS b s ps = s - 1 by rw [HA.out]; omega)
                go_upto_region 17 with (first | (go_at_call 37; refine (rquantised_any b s g1 g2 g3 g4 ps _ _ (HV.out.mono hbbr) (by rw [← HN.out]; exact z1) HZ.out).mono ?_; rintro e w1 ⟨⟨v', rfl, hr, _⟩, hb1⟩; obtain ⟨a', c', rfl⟩ := hr.form; clear hr; have Qw1 := Q.mono hb1; clear c0 c1 f1 r0 r1 h0 h1 sz sz2; obtain ⟨⟨sz, sz2⟩, c0, c1, f1, r0, r1, h0, h1⟩ := Qw1.all) | (go_at_call 40; refine (rgreatest_any b s g1 g2 _).mono ?_; rintro e wa ⟨rfl, hbq⟩; have Qwa := Qw1.mono hbq; clear c0 c1 f1 r0 r1 h0 h1 sz sz2; obtain ⟨⟨sz, sz2⟩, c0, c1, f1, r0, r1, h0, h1⟩ := Qwa.all))
                have Qwd := Qwa.step (s - 1)
                generalize wa.setCell ⟨w.heap.size, 1, none⟩ (.int .i64 (s - 1)) = wd at Qwd ⊢
                clear c0 c1 f1 r0 r1 h0 h1 sz sz2
                obtain ⟨⟨sz, sz2⟩, c0, c1, f1, r0, r1, h0, h1⟩ := Qwd.all
                have bw := Qwd.bw
                go_wp2
                refine bodyPost_ret (v := .tuple #[.agg #[.int .i64 b, .int .i64 (s - 1)], .int .i64 0]) (by simp [results, Try.results28, go_sem, r0, r1, c0, c1]) rfl ⟨by unfold AdaptP; rw [HQ.out.1, HQ.out.2, HA2.out], (by repeat (first | exact Bw.refl _ | assumption | refine Bw.alloc ?_ _ | refine Bw.drew ?_ | refine Bw.trans ?_ (by assumption) | refine Bw.setCell ?_ (by simp; try omega) _))⟩
              · have HA2 := Lib.hid (show adS b s ps = 0 by rw [HA.out]; omega)
                go_upto_region 17 with (first | (go_at_call 37; refine (rquantised_any b s g1 g2 g3 g4 ps _ _ (HV.out.mono hbbr) (by rw [← HN.out]; exact z1) HZ.out).mono ?_; rintro e w1 ⟨⟨v', rfl, hr, _⟩, hb1⟩; obtain ⟨a', c', rfl⟩ := hr.form; clear hr; have Qw1 := Q.mono hb1; clear c0 c1 f1 r0 r1 h0 h1 sz sz2; obtain ⟨⟨sz, sz2⟩, c0, c1, f1, r0, r1, h0, h1⟩ := Qw1.all) | (go_at_call 40; refine (rgreatest_any b s g1 g2 _).mono ?_; rintro e wa ⟨rfl, hbq⟩; have Qwa := Qw1.mono hbq; clear c0 c1 f1 r0 r1 h0 h1 sz sz2; obtain ⟨⟨sz, sz2⟩, c0, c1, f1, r0, r1, h0, h1⟩ := Qwa.all))
                have Qwd := Qwa.step (0)
                generalize wa.setCell ⟨w.heap.size, 1, none⟩ (.int .i64 (0)) = wd at Qwd ⊢
                clear c0 c1 f1 r0 r1 h0 h1 sz sz2
                obtain ⟨⟨sz, sz2⟩, c0, c1, f1, r0, r1, h0, h1⟩ := Qwd.all
                have bw := Qwd.bw
                go_wp2
                refine bodyPost_ret (v := .tuple #[.agg #[.int .i64 b, .int .i64 (0)], .int .i64 0]) (by simp [results, Try.results28, go_sem, r0, r1, c0, c1]) rfl ⟨by unfold AdaptP; rw [HQ.out.1, HQ.out.2, HA2.out], (by repeat (first | exact Bw.refl _ | assumption | refine Bw.alloc ?_ _ | refine Bw.drew ?_ | refine Bw.trans ?_ (by assumption) | refine Bw.setCell ?_ (by simp; try omega) _))⟩
            · have HA2 := Lib.hid (show adS b s ps = s by unfold adS; rw [if_neg (by rw [← HN.out]; exact hlo), if_neg hpk])
              rw [HK.out] at hpk
              go_upto_region 17 with (first | (go_at_call 37; refine (rquantised_any b s g1 g2 g3 g4 ps _ _ (HV.out.mono hbbr) (by rw [← HN.out]; exact z1) HZ.out).mono ?_; rintro e w1 ⟨⟨v', rfl, hr, _⟩, hb1⟩; obtain ⟨a', c', rfl⟩ := hr.form; clear hr; have Qw1 := Q.mono hb1; clear c0 c1 f1 r0 r1 h0 h1 sz sz2; obtain ⟨⟨sz, sz2⟩, c0, c1, f1, r0, r1, h0, h1⟩ := Qw1.all) | (go_at_call 40; refine (rgreatest_any b s g1 g2 _).mono ?_; rintro e wa ⟨rfl, hbq⟩; have Qwa := Qw1.mono hbq; clear c0 c1 f1 r0 r1 h0 h1 sz sz2; obtain ⟨⟨sz, sz2⟩, c0, c1, f1, r0, r1, h0, h1⟩ := Qwa.all))
              have Qwd := Qwa
              have bw := Qwd.bw
              go_wp2
              refine bodyPost_ret (v := .tuple #[.agg #[.int .i64 b, .int .i64 (s)], .int .i64 0]) (by simp [results, Try.results28, go_sem, r0, r1, c0, c1]) rfl ⟨by unfold AdaptP; rw [HQ.out.1, HQ.out.2, HA2.out], (by repeat (first | exact Bw.refl _ | assumption | refine Bw.alloc ?_ _ | refine Bw.drew ?_ | refine Bw.trans ?_ (by assumption) | refine Bw.setCell ?_ (by simp; try omega) _))⟩
    · have h0 : errQ b s ps ≠ 0 := by rw [hQ]; exact he
      have HR := Lib.hid (adapt_err h0)
      have HE := Lib.hid hQ
      have hne : (errS 70368744177664 ps != 0) = true := by simpa using he
      clear he h0 hQ hG
      go_enter Try.func28, Try.ntmps28
      go_wp2_with (first | (go_at_call 15; refine (HC.out _).mono ?_; rintro e w' ⟨rfl, hb⟩; obtain ⟨hcc, hff⟩ := Bw.cells hb; have hsz := Bw.size hb; try (have hz0 : w.heap.size < w'.heap.size := by (try simp at hsz); omega); try (have hz1 : w.heap.size + 1 < w'.heap.size := by (try simp at hsz); omega); try (have hz2 : w.heap.size + 1 + 1 < w'.heap.size := by (try simp at hsz); omega); try (have hz3 : w.heap.size + 1 + 1 + 1 < w'.heap.size := by (try simp at hsz); omega); try (have hz4 : w.heap.size + 1 + 1 + 1 + 1 < w'.heap.size := by (try simp at hsz); omega); try (have hzr : wr.heap.size < w'.heap.size := by (try simp at hsz); omega); try (have hzr1 : wr.heap.size + 1 < w'.heap.size := by (try simp at hsz); omega)) | (go_at_call 36; refine (HD.out _ (HV.out.mono (by repeat (first | exact Bw.refl _ | assumption | refine Bw.alloc ?_ _ | refine Bw.drew ?_ | refine Bw.trans ?_ (by assumption) | refine Bw.setCell ?_ (by simp; try omega) _)))).mono ?_; rintro e w' ⟨rfl, hb⟩; obtain ⟨hcc, hff⟩ := Bw.cells hb; have hsz := Bw.size hb; try (have hz0 : w.heap.size < w'.heap.size := by (try simp at hsz); omega); try (have hz1 : w.heap.size + 1 < w'.heap.size := by (try simp at hsz); omega); try (have hz2 : w.heap.size + 1 + 1 < w'.heap.size := by (try simp at hsz); omega); try (have hz3 : w.heap.size + 1 + 1 + 1 < w'.heap.size := by (try simp at hsz); omega); try (have hz4 : w.heap.size + 1 + 1 + 1 + 1 < w'.heap.size := by (try simp at hsz); omega); try (have hzr : wr.heap.size < w'.heap.size := by (try simp at hsz); omega); try (have hzr1 : wr.heap.size + 1 < w'.heap.size := by (try simp at hsz); omega)))
      have k0 : w'.cell? ⟨w.heap.size + 1, 0, none⟩ = some (.int .i64 0) := by simp [*, go_sem]
      have k1 : w'.cell? ⟨w.heap.size + 1, 1, none⟩ = some (.int .i64 0) := by simp [*, go_sem]
      refine bodyPost_ret (v := .tuple #[.agg #[.int .i64 0, .int .i64 0], .int .i64 (errS 70368744177664 ps)]) (by simp [results, Try.results28, go_sem, k0, k1]) rfl ⟨by unfold AdaptP; rw [HR.out, HE.out], (by repeat (first | exact Bw.refl _ | assumption | refine Bw.alloc ?_ _ | refine Bw.drew ?_ | refine Bw.trans ?_ (by assumption) | refine Bw.setCell ?_ (by simp; try omega) _))⟩
  · rw [errG_no b s hG] at HC
    have hQ := errQ_bad ps hG
    have HR := Lib.hid (adapt_err (b := b) (s := s) (ps := ps) (by rw [hQ]; decide))
    have HE := Lib.hid hQ
    clear hQ hG
    go_enter Try.func28, Try.ntmps28
    go_wp2_with (go_at_call 15; refine (HC.out _).mono ?_; rintro e w' ⟨rfl, hb⟩; obtain ⟨hcc, hff⟩ := Bw.cells hb; have hsz := Bw.size hb; try (have hz0 : w.heap.size < w'.heap.size := by (try simp at hsz); omega); try (have hz1 : w.heap.size + 1 < w'.heap.size := by (try simp at hsz); omega); try (have hz2 : w.heap.size + 1 + 1 < w'.heap.size := by (try simp at hsz); omega); try (have hz3 : w.heap.size + 1 + 1 + 1 < w'.heap.size := by (try simp at hsz); omega); try (have hz4 : w.heap.size + 1 + 1 + 1 + 1 < w'.heap.size := by (try simp at hsz); omega); try (have hzr : wr.heap.size < w'.heap.size := by (try simp at hsz); omega); try (have hzr1 : wr.heap.size + 1 < w'.heap.size := by (try simp at hsz); omega))
    have k0 : w'.cell? ⟨w.heap.size + 1, 0, none⟩ = some (.int .i64 0) := by simp [*, go_sem]
    have k1 : w'.cell? ⟨w.heap.size + 1, 1, none⟩ = some (.int .i64 0) := by simp [*, go_sem]
    refine bodyPost_ret (v := .tuple #[.agg #[.int .i64 0, .int .i64 0], .int .i64 2]) (by simp [results, Try.results28, go_sem, k0, k1]) rfl ⟨by unfold AdaptP; rw [HR.out, HE.out], (by repeat (first | exact Bw.refl _ | assumption | refine Bw.alloc ?_ _ | refine Bw.drew ?_ | refine Bw.trans ?_ (by assumption) | refine Bw.setCell ?_ (by simp; try omega) _))⟩
end Go.Proofs.Sky
