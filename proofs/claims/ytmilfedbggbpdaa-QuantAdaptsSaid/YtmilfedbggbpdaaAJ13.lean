/-
  lemmas for the theorems of this claim. No conditions beyond those written in the statements.
-/
import Derived.Test.YtmilfedbggbpdaaAI13
import Derived.Deep.Cut
set_option linter.unusedVariables false
set_option linter.unusedSimpArgs false
set_option linter.unnecessarySimpa false
namespace Go.Proofs.Sky
open Go Go.RowKit
set_option maxHeartbeats 4000000
set_option maxRecDepth 100000
set_option linter.unusedVariables false
def QC (b : Int) (cs : List Int) (e : Ending) (w' : World) : Prop := ∃ v, e = .returned (.tuple #[v, .int .i64 0]) ∧ RdI w' v cs
structure AK (b : Int) (ps : List (Int × Int)) : Prop where
  ka : ∀ s w v, 0 ≤ s ∧ s ≤ 30 → RdS w v ps → Calls Try.prog 27 #[v, .agg #[.int .i64 b, .int .i64 s]] w fun e w' => e = .returned (.tuple #[.agg #[.int .i64 b, .int .i64 (adS b s ps)], .int .i64 0]) ∧ Bw w w'
  kc : ∀ s w v, 0 ≤ s ∧ s ≤ 30 → RdS w v ps → Calls Try.prog 21 #[v, .agg #[.int .i64 b, .int .i64 s]] w fun e w' => QC b (cntTo (gq b) (lvS b s ps)) e w' ∧ Bw w w'
theorem ak {b : Int} (h1 : 2 ≤ b) (h2 : b ≤ 8) (zs : List Int) (hl : zs.length ≤ 40) : AK b (mkS zs) := by
  refine ⟨fun s w v hs hv => ?_, fun s w v hs hv => ?_⟩
  · have e0 := errQ_mk (b := b) (s := s) ⟨h1, h2, hs⟩ zs hl
    have h := Adapt_any b s _ v w hv
    unfold AdaptP at h
    rw [adapt_ok e0, e0] at h
    exact h
  · have e0 := errQ_mk (b := b) (s := s) ⟨h1, h2, hs⟩ zs hl
    refine (Counts_any b s _ v w hv).mono ?_
    rintro e w' ⟨⟨v', rfl, hr, _⟩, hb⟩
    rw [show cntL b s (mkS zs) = cntTo (gq b) (lvS b s (mkS zs)) by unfold cntL; rw [if_pos e0]] at hr
    exact ⟨⟨v', by rw [e0], hr⟩, hb⟩
theorem gq_pow {b : Int} (h1 : 2 ≤ b) (h2 : b ≤ 8) : (2 * gq b + 1).toNat = (2 ^ b.toNat - 1 : Int).toNat ∧ (2:Int) ^ b.toNat - 1 = 2 * gq b + 1 := by
  unfold gq
  have : b.toNat = b.toNat - 1 + 1 := by omega
  rw [this, Int.pow_succ]
  simp only [Nat.add_sub_cancel]
  omega
theorem law_adapts (zs : List Int) (v : Value) (z y : Int) (w : World) (hv : RdI w v zs) : Calls Try.prog 9 #[v, .int .i64 z, .int .i64 y] w fun e w' => e = .returned (.bool true) ∧ Bw w w' := by
  have HV := Lib.hid hv
  obtain ⟨a0, c0, rfl⟩ := hv.form
  clear hv
  by_cases hl : 40 < zs.length
  · go_enter Try.func9, Try.ntmps9
    go_wp2_with (go_at_call 6; refine (known_any _).mono ?_; rintro e w' ⟨rfl, hb⟩; obtain ⟨hcc, hff⟩ := Bw.cells hb; have hsz := Bw.size hb; try (have hz0 : w.heap.size < w'.heap.size := by (try simp at hsz); omega); try (have hz1 : w.heap.size + 1 < w'.heap.size := by (try simp at hsz); omega); try (have hz2 : w.heap.size + 1 + 1 < w'.heap.size := by (try simp at hsz); omega); try (have hz3 : w.heap.size + 1 + 1 + 1 < w'.heap.size := by (try simp at hsz); omega); try (have hz4 : w.heap.size + 1 + 1 + 1 + 1 < w'.heap.size := by (try simp at hsz); omega); try (have hzr : wr.heap.size < w'.heap.size := by (try simp at hsz); omega); try (have hzr1 : wr.heap.size + 1 < w'.heap.size := by (try simp at hsz); omega))
    go_ret
    exact ⟨rfl, (by repeat (first | exact Bw.refl _ | assumption | refine Bw.alloc ?_ _ | refine Bw.drew ?_ | refine Bw.trans ?_ (by assumption) | refine Bw.setCell ?_ (by simp; try omega) _))⟩
  · have hle : zs.length ≤ 40 := by omega
    clear hl
    have K0 := fun w => turn_any z 7 (by omega) (by omega) w
    have K1 := fun w => turn_any y 31 (by omega) (by omega) w
    have ⟨t00, t01⟩ := turn_bd z 7 (by omega)
    have ⟨t10, t11⟩ := turn_bd y 31 (by omega)
    generalize turn z 7 = t0 at *
    generalize turn y 31 = s0 at *
    have H0 := Lib.hid (And.intro K0 K1); clear K0 K1
    go_enter Try.func9, Try.ntmps9
    go_wp2_with fail
    refine (known_any _).mono ?_
    rintro e w1 ⟨rfl, b1⟩
    go_wp2_with fail
    refine (samples_any zs _ _ (HV.out.mono b1) (by omega)).mono ?_
    rintro e w2 ⟨⟨v2, rfl, r, _⟩, b2⟩
    obtain ⟨a2, c2, rfl⟩ := r.form
    have R := Lib.hid r; clear r
    go_wp2_with fail
    refine (H0.out.1 _).mono ?_
    rintro e w3 ⟨rfl, b3⟩
    go_wp2_with fail
    refine (H0.out.2 _).mono ?_
    rintro e w4 ⟨rfl, b4⟩
    replace R := Lib.hid (R.out.mono (b3.trans b4))
    go_upto_region 6 with (fail)
    have Q : KS w4 _ _ := (KS.nil w4).push (2 + t0) s0
    have B4 := Lib.hid (b1.trans (b2.trans (b3.trans b4)))
    have hw4 := B4.out.size
    clear b1 b2 b3 b4 H0 HV
    generalize w4.alloc (Obj.cells #[Value.int IntKind.i64 (2 + t0), Value.int IntKind.i64 s0] 23) = w0 at Q ⊢
    obtain ⟨c1, c2⟩ : 2 ≤ 2 + t0 ∧ 2 + t0 ≤ 8 := by omega
    generalize 2 + t0 = b at Q c1 c2 ⊢
    have HK := Lib.hid (ak c1 c2 zs hle)
    have hml := mkS_len zs
    have HMB := Lib.hid (mkS_bd zs)
    generalize mkS zs = ps at *
    have hpl : ps.length ≤ 20 := by omega
    clear hml
    have HF := Lib.hid (FI.zero (b := b) ps (s := s0) (by omega))
    have HQ := Lib.hid Q; clear Q
    go_wp2_with fail
    go_loopg [10] 31 (fun gg s10 wr => ∃ (k : Nat) (s : Int), k ≤ 31 ∧ 31 - k ≤ gg ∧ s10 = .int .i64 k ∧ Hid (FI b ps k s) ∧ Hid (KS w4 wr [(w4.heap.size, b, s)]))
    case atStart => exact ⟨0, s0, by omega, by omega, rfl, HF.out, HQ.out⟩
    case round =>
      obtain ⟨k, s, hk, hg, rfl, F, Q⟩ := hrel
      have ⟨s1, s2⟩ := F.out.bd
      by_cases hlt : k < 31
      · have ⟨⟨d1, d2⟩, d3, d4⟩ := adS_bd (b := b) ps F.out.bd
        have F2 := Lib.hid (F.out.step ⟨c1, c2⟩)
        have hltz : (k : Int) < 31 := by omega
        obtain ⟨sg, cg0, cg1, fg0, fg1⟩ := Q.out.hd
        have ka := HK.out.ka s wr _ ⟨s1, s2⟩ (R.out.mono Q.out.bw)
        generalize adS b s ps = s' at *
        have KA := Lib.hid ka; clear ka
        go_wp2_with fail
        refine KA.out.mono ?_
        rintro e w5 ⟨rfl, b5⟩
        clear sg cg0 cg1 fg0 fg1 KA
        have Q5 := Lib.hid (Q.out.mono b5)
        obtain ⟨sg, cg0, cg1, fg0, fg1⟩ := Q5.out.hd
        have QN := Lib.hid ((Q5.out.set (by simp) b s').mono (Bw.alloc (Bw.refl _) (Obj.cells #[Value.int IntKind.i64 b, Value.int IntKind.i64 s'] 23)))
        clear b5
        go_wp2_with fail
        all_goals go_roundg (31 - (k + 1))
        all_goals first | omega | skip
        all_goals exact ⟨k + 1, s', by omega, by omega, by go_num, F2.out, QN.out⟩
      · have hltz : ¬ (k : Int) < 31 := by omega
        obtain rfl : k = 31 := by omega
        have hfix := F.out.done
        have ka := HK.out.ka s wr _ ⟨s1, s2⟩ (R.out.mono Q.out.bw)
        rw [hfix] at ka
        have KA := Lib.hid ka; clear ka hfix
        obtain ⟨sg, cg0, cg1, fg0, fg1⟩ := Q.out.hd
        go_wp2_with fail
        refine KA.out.mono ?_
        rintro e w5 ⟨rfl, b5⟩
        clear sg cg0 cg1 fg0 fg1 KA
        have Q5 := Lib.hid (Q.out.mono b5)
        obtain ⟨sg, cg0, cg1, fg0, fg1⟩ := Q5.out.hd
        clear b5
        go_wp2_with fail
        refine (HK.out.kc s _ _ ⟨s1, s2⟩ (R.out.mono (Bw.alloc Q5.out.bw _))).mono ?_
        rintro e w6 ⟨⟨v3, rfl, r3⟩, b6⟩
        obtain ⟨g0, g1, g2⟩ := alloc2 b6
        have Q6 := Lib.hid (Q5.out.mono ((Bw.alloc (Bw.refl _) _).trans b6))
        clear sg cg0 cg1 fg0 fg1 b6
        obtain ⟨sg, cg0, cg1, fg0, fg1⟩ := Q6.out.hd
        have hq := gq_bd b c1 c2
        have hcl := cntTo_len (gq b) (lvS b s ps)
        have hcs := cnt_sum (gq b) (by omega) (lvS b s ps) (lvS_bd b s c1 c2 ps)
        have hcb := cntTo_bd (gq b) (lvS b s ps)
        rw [lvS_len] at hcs hcb
        generalize cntTo (gq b) (lvS b s ps) = cs at *
        obtain ⟨_, a3, c3, rfl, hr4⟩ := r3
        obtain ⟨N, hN⟩ : ∃ N, N = cs.length := ⟨_, rfl⟩
        have hgp := gq_pow c1 c2
        have hNp : (N : Int) = 2 ^ b.toNat - 1 := by omega
        have ⟨p1, p2⟩ := pow30 b.toNat (by omega)
        have hN1 : N ≤ 255 := by omega
        have hN0 : 0 < N := by omega
        have hcb' : ∀ j, 0 ≤ cs.getD j 0 ∧ cs.getD j 0 ≤ 40 := fun j => by have := hcb j; omega
        have HS := Lib.hid (sum_bd cs 40 hcb')
        obtain ⟨bb, off, rfl, hbb, hc⟩ := hr4.resolve_left (by intro h; rw [h] at hN; simp at hN; omega)
        have HC := Lib.hid hc
        have HB := Lib.hid hcb'
        have HN := Lib.hid hN
        have HP := Lib.hid hNp
        have HX := Lib.hid hcs
        rw [← hN]
        clear hc hcb hcb' hN hNp hcs hgp hcl hr4 hq
        go_wp2_with fail
        go_loopg [18, 19] N (fun gg s18 s19 wr => ∃ k : Nat, k ≤ N ∧ N - k ≤ gg ∧ s19 = .int .i64 k ∧ s18 = .int .i64 ((cs.take k).sum) ∧ wr = w6)
        case atStart => exact ⟨0, by omega, by omega, rfl, rfl, rfl⟩
        case round =>
          obtain ⟨k, hk, hg2, rfl, rfl, rfl⟩ := hrel
          by_cases hlt2 : k < N
          · have hltz2 : (k : Int) < (N : Int) := by omega
            have d1 := HC.out k (by rw [← HN.out]; exact hlt2)
            have HT := Lib.hid (sum_take cs k (by rw [← HN.out]; exact hlt2))
            have ⟨u1, u2⟩ := HS.out k (by rw [← HN.out]; exact hk)
            have ⟨u3, u4⟩ := HB.out k
            generalize cs.getD k 0 = q at *
            go_wp2_with fail
            all_goals go_roundg (N - (k + 1))
            all_goals first | omega | skip
            all_goals exact ⟨k + 1, by omega, by omega, by go_num, by rw [HT.out], rfl⟩
          · have hltz2 : ¬ (k : Int) < (N : Int) := by omega
            obtain rfl : k = N := by omega
            have hsum : (cs.take k).sum = 2 * (ps.length : Int) := by rw [HN.out, List.take_length]; exact HX.out
            rw [hsum]
            have hNp := HP.out
            have BB := Lib.hid (B4.out.trans Q6.out.bw)
            clear HS HC HB HX HP B4 Q Q5 Q6 F HK HF HQ HMB R hsum
            go_wp2_with fail
            go_ret
            exact ⟨rfl, BB.out⟩
end Go.Proofs.Sky
