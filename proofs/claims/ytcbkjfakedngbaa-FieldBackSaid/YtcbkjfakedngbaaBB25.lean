/-
  lemmas for the theorems of this claim. No conditions beyond those written in the statements.
-/
import Derived.Test.YtcbkjfakedngbaaAA25
import Derived.Test.YtcbkjfakedngbaaPP25
import Derived.Deep.Cut
set_option linter.unusedVariables false
set_option linter.unusedSimpArgs false
set_option linter.unnecessarySimpa false
namespace Go.Proofs.Sky
open Go Go.RowKit Go.Shelf
set_option maxHeartbeats 4000000
set_option maxRecDepth 4000
theorem lims_bd (N : Nat) (g : Bool) (u c : Int) (h1 : 1 ≤ N) (h2 : N ≤ 40) (h3 : 1 ≤ u) (h4 : u ≤ 1000000) (h5 : -1000000 ≤ c) (h6 : c ≤ 1000000) :
    -1200000000000000000 ≤ c + lowR N g * u ∧ c + highR N g * u ≤ 1200000000000000000 ∧ c + lowR N g * u < c + highR N g * u := by
  have hl := lowR_bd N g (by omega) (by omega)
  have hh := highR_bd N g (by omega) (by omega)
  have m1 := mul_bd _ u (by omega : -1099511627776 ≤ lowR N g) (by omega) h3 h4
  have m2 := mul_bd _ u (by omega : -1099511627776 ≤ highR N g) (by omega) h3 h4
  have hlt := low_lt_high N g (by omega)
  have := Int.mul_le_mul_of_nonneg_right hlt (show 0 ≤ u by omega)
  rw [Int.add_mul] at this
  refine ⟨by omega, by omega, by omega⟩
theorem law_back (zs : List Int) (v : Value) (x : Int) (w : World) (hv : RdI w v zs) :
    Calls Try.prog 4 #[v, .int .i64 x] w fun r w' => r = .returned (.bool true) ∧ Bw w w' := by
  have HV := Lib.hid hv
  obtain ⟨ad, cap, rfl⟩ := hv.form
  clear hv
  have ⟨a1, a2⟩ := bel_bd (nth zs 4) 20 (by omega)
  have ⟨y1, y2⟩ := bel_bd x 4000000000000000001 (by omega)
  obtain ⟨A, hA⟩ : ∃ A : Nat, bel (nth zs 4) 20 = A := ⟨(bel (nth zs 4) 20).toNat, by omega⟩
  have P1 := Lib.hid (fun W => Below_any (nth zs 4) 20 W (by omega) (by omega))
  have P2 := Lib.hid (fun W => Below_any x 4000000000000000001 W (by omega) (by omega))
  have PN := Lib.hid (fun W hW => Nth_any zs (.slice ad zs.length cap) 4 W hW)
  rw [hA] at a1 a2 P1
  clear hA
  generalize bel x 4000000000000000001 = y at *
  generalize nth zs 4 = z4 at *
  have HBW := Lib.hid (Bw.refl w)
  go_enter Try.func4, Try.ntmps4
  go_upto_region 6 with (first | (go_at_call 21; (with_reducible refine Calls.mono (PN.out _ (HV.out.mono HBW.out)) ?_); rintro e1 u1 ⟨rfl, hb1⟩; (try replace k0 := hb1.cell' k0); (try replace k1 := hb1.cell' k1); (try replace k2 := hb1.cell' k2); (try replace k3 := hb1.cell' k3); (try replace k4 := hb1.cell' k4); replace HBW := Lib.hid (HBW.out.trans hb1); clear hb1) | (go_at_call 20; (with_reducible refine Calls.mono (P1.out _) ?_); rintro e1 u2 ⟨rfl, hb1⟩; (try replace k0 := hb1.cell' k0); (try replace k1 := hb1.cell' k1); (try replace k2 := hb1.cell' k2); (try replace k3 := hb1.cell' k3); (try replace k4 := hb1.cell' k4); replace HBW := Lib.hid (HBW.out.trans hb1); clear hb1; clear P1) | (go_at_call 19; (with_reducible refine Calls.mono (of_any zs (.slice ad zs.length cap) _ _ (HV.out.mono HBW.out)) ?_); rintro e1 u3 ⟨⟨n, g, u, c, rfl, ⟨n1, n2⟩, ⟨m1, m2⟩, c1, c2⟩, hb1⟩; (try replace k0 := hb1.cell' k0); (try replace k1 := hb1.cell' k1); (try replace k2 := hb1.cell' k2); (try replace k3 := hb1.cell' k3); (try replace k4 := hb1.cell' k4); replace HBW := Lib.hid (HBW.out.trans hb1); clear hb1; obtain ⟨N, rfl⟩ : ∃ N : Nat, n = N := ⟨n.toNat, by omega⟩; have hfk : fk A N u c := (by unfold fk; omega); obtain ⟨lo, hlo⟩ : ∃ lo, lo = c + lowR N g * u := ⟨_, rfl⟩; obtain ⟨hi, hhi⟩ : ∃ hi, hi = c + highR N g * u := ⟨_, rfl⟩; have PL := Lib.hid (fun W => Limits_ok A N g u c lo hi W hfk hlo.symm hhi.symm); have hb9 := lims_bd N g u c (by omega) (by omega) (by omega) (by omega) (by omega) (by omega); rw [← hlo, ← hhi] at hb9; obtain ⟨l1, l2, l3⟩ := hb9; have HFK := Lib.hid hfk; have HLO := Lib.hid hlo; have HHI := Lib.hid hhi; clear hfk hlo hhi) | (go_at_call 10; (with_reducible refine Calls.mono (PL.out _) ?_); rintro e1 u5 ⟨rfl, hb1⟩; have BX := Blk.new u3 24 #[.int .i64 A, .int .i64 N, .bool g, .int .i64 u, .int .i64 c]; obtain ⟨g0, hg0⟩ : ∃ g0, u3.heap.size = g0 := ⟨_, rfl⟩; rw [hg0] at BX ⊢; clear hg0; have k0 : u5.cell? ⟨g0, 0, none⟩ = some (.int .i64 A) := hb1.cell' (BX.cell (j := 0) rfl); have k1 : u5.cell? ⟨g0, 1, none⟩ = some (.int .i64 N) := hb1.cell' (BX.cell (j := 1) rfl); have k2 : u5.cell? ⟨g0, 2, none⟩ = some (.bool g) := hb1.cell' (BX.cell (j := 2) rfl); have k3 : u5.cell? ⟨g0, 3, none⟩ = some (.int .i64 u) := hb1.cell' (BX.cell (j := 3) rfl); have k4 : u5.cell? ⟨g0, 4, none⟩ = some (.int .i64 c) := hb1.cell' (BX.cell (j := 4) rfl); replace HBW := Lib.hid ((Bw.alloc HBW.out _).trans hb1); clear hb1 BX) | (go_at_call 20; (with_reducible refine Calls.mono (P2.out _) ?_); rintro e1 u2 ⟨rfl, hb1⟩; (try replace k0 := hb1.cell' k0); (try replace k1 := hb1.cell' k1); (try replace k2 := hb1.cell' k2); (try replace k3 := hb1.cell' k3); (try replace k4 := hb1.cell' k4); replace HBW := Lib.hid (HBW.out.trans hb1); clear hb1; clear P2))
  go_cut [43] from 38 (fun s43 wc => (∃ b : Bool, s43 = .bool b) ∧ wc = u2)
  case first =>
    by_cases h1 : 1200000000000000000 < y - 2000000000000000000
    · go_wp2
      go_meet
      exact ⟨⟨_, rfl⟩, rfl⟩
    · by_cases h2 : y - 2000000000000000000 < -1200000000000000000
      · go_wp2
        go_meet
        exact ⟨⟨_, rfl⟩, rfl⟩
      · go_wp2
        go_meet
        exact ⟨⟨_, rfl⟩, rfl⟩
  case rest =>
    obtain ⟨⟨bb, rfl⟩, hwc⟩ := hcut
    replace hwc := hwc.symm
    subst hwc
    have P3 := Lib.hid (fun W => Below_any (y - 2000000000000000000) (hi - lo + 1) W (by omega) (by omega))
    have ⟨d1, d2⟩ := bel_bd (y - 2000000000000000000) (hi - lo + 1) (by omega)
    generalize bel (y - 2000000000000000000) (hi - lo + 1) = dd at P3 d1 d2
    go_upto_if 43 with fail
    go_cut [1] from 38 (fun s1 wc => (∃ vv : Int, s1 = .int .i64 vv ∧ -2000000000000000000 ≤ vv ∧ vv ≤ 2000000000000000000) ∧ Hid (Bw u2 wc))
    case first =>
      cases bb with
      | true =>
        go_wp2_with (go_at_call 20; (with_reducible refine Calls.mono (P3.out _) ?_); rintro e1 u12 ⟨rfl, hb1⟩)
        go_meet
        exact ⟨⟨_, rfl, by omega, by omega⟩, Lib.hid hb1⟩
      | false =>
        go_wp2
        go_meet
        exact ⟨⟨_, rfl, by omega, by omega⟩, Lib.hid (Bw.refl _)⟩
    case rest =>
      obtain ⟨⟨vv, rfl, v1, v2⟩, hb1⟩ := hcut
      replace hb1 := hb1.out
      replace k0 := hb1.cell' k0; replace k1 := hb1.cell' k1; replace k2 := hb1.cell' k2; replace k3 := hb1.cell' k3; replace k4 := hb1.cell' k4
      replace HBW := Lib.hid (HBW.out.trans hb1)
      clear hb1 P3 d1 d2 y1 y2
      have PC := Lib.hid (fun W hW => Coins_any zs (.slice ad zs.length cap) (A + N + 3) W hW (by omega))
      have hc9 : (A : Int) + N + 3 = ((A + N + 3 : Nat) : Int) := by omega
      rw [← hc9] at PC
      clear hc9
      go_upto_region 9 with (first | (go_at_call 22; (with_reducible refine Calls.mono (PC.out _ (HV.out.mono HBW.out)) ?_); rintro e1 u6 ⟨⟨vb, bs, rfl, hr, hl, hc⟩, hb1⟩; obtain ⟨ab, cb, rfl⟩ := hr.form; rw [hl] at hr ⊢; have HR := Lib.hid hr; have HL := Lib.hid hl; have HC := Lib.hid hc; clear hr hl hc PC; (try replace k0 := hb1.cell' k0); (try replace k1 := hb1.cell' k1); (try replace k2 := hb1.cell' k2); (try replace k3 := hb1.cell' k3); (try replace k4 := hb1.cell' k4); replace HBW := Lib.hid (HBW.out.trans hb1); clear hb1))
      have PP := Lib.hid (fun W V hW => Put_any bs V A N g u c vv W hW (by have := HL.out; omega))
      unfold PutP at PP
      rcases back_plain bs A N g u c vv HFK.out (by have := HL.out; omega) HC.out ⟨v1, v2⟩ with ⟨hr1, he1, hp1, hv1⟩ | ⟨q, out, he1, hp1, hol, hoo, het, hgv, he2, hp2, hq1, hq2, w1, w2, w3, w4⟩
      · rw [he1, hp1] at PP
        rw [← HLO.out, ← HHI.out] at hv1
        clear hr1 he1 hp1
        by_cases h9 : vv < lo
        · clear hv1
          go_wp2_with (first | (go_at_call 12; (with_reducible refine Calls.mono (PP.out _ _ HR.out) ?_); rintro e1 u7 ⟨⟨v7, rfl, hr, _⟩, hb1⟩; obtain ⟨a7, c7, rfl⟩ := hr.form; have HO := Lib.hid hr; replace HR := Lib.hid (HR.out.mono hb1); clear hr PP; (try replace k0 := hb1.cell' k0); (try replace k1 := hb1.cell' k1); (try replace k2 := hb1.cell' k2); (try replace k3 := hb1.cell' k3); (try replace k4 := hb1.cell' k4); replace HBW := Lib.hid (HBW.out.trans hb1); clear hb1) | (go_at_call 9; (with_reducible refine Calls.mono (awake_any _) ?_); rintro e1 u9 ⟨rfl, hb1⟩; (try replace k0 := hb1.cell' k0); (try replace k1 := hb1.cell' k1); (try replace k2 := hb1.cell' k2); (try replace k3 := hb1.cell' k3); (try replace k4 := hb1.cell' k4); replace HBW := Lib.hid (HBW.out.trans hb1); clear hb1))
          go_ret
          exact ⟨rfl, HBW.out⟩
        · have h10 : hi < vv := by omega
          clear hv1
          go_wp2_with (first | (go_at_call 12; (with_reducible refine Calls.mono (PP.out _ _ HR.out) ?_); rintro e1 u7 ⟨⟨v7, rfl, hr, _⟩, hb1⟩; obtain ⟨a7, c7, rfl⟩ := hr.form; have HO := Lib.hid hr; replace HR := Lib.hid (HR.out.mono hb1); clear hr PP; (try replace k0 := hb1.cell' k0); (try replace k1 := hb1.cell' k1); (try replace k2 := hb1.cell' k2); (try replace k3 := hb1.cell' k3); (try replace k4 := hb1.cell' k4); replace HBW := Lib.hid (HBW.out.trans hb1); clear hb1) | (go_at_call 9; (with_reducible refine Calls.mono (awake_any _) ?_); rintro e1 u9 ⟨rfl, hb1⟩; (try replace k0 := hb1.cell' k0); (try replace k1 := hb1.cell' k1); (try replace k2 := hb1.cell' k2); (try replace k3 := hb1.cell' k3); (try replace k4 := hb1.cell' k4); replace HBW := Lib.hid (HBW.out.trans hb1); clear hb1))
          go_ret
          exact ⟨rfl, HBW.out⟩
      · rw [he1, hp1] at PP
        obtain ⟨xx, hxx⟩ : ∃ xx, xx = c + q * u := ⟨_, rfl⟩
        have PG := Lib.hid (fun W V hW => Get_ok out V A N g u c xx W hW het (by rw [hxx]; simpa using hgv))
        have PP2 := Lib.hid (fun W V hW => Put_any out V A N g u c xx W hW (by rw [hol]; have := HL.out; omega))
        unfold PutP at PP2
        rw [← hxx] at he2 hp2 w1 w2
        rw [he2, hp2] at PP2
        have q3 := Int.mul_le_mul_of_nonneg_right hq1 (show 0 ≤ u by omega)
        have q4 := Int.mul_le_mul_of_nonneg_right hq2 (show 0 ≤ u by omega)
        rw [← HLO.out] at w3
        rw [← HHI.out] at w4
        have w5 : lo ≤ xx := by have := HLO.out; omega
        have w6 : xx ≤ hi := by have := HHI.out; omega
        have HOL := Lib.hid (hol.trans HL.out)
        have HOO := Lib.hid hoo
        clear hol hoo het hgv he1 hp1 he2 hp2 hq1 hq2 q3 q4 hxx
        go_wp2_with (first | (go_at_call 12; (with_reducible refine Calls.mono (PP.out _ _ HR.out) ?_); rintro e1 u7 ⟨⟨v7, rfl, hr, _⟩, hb1⟩; obtain ⟨a7, c7, rfl⟩ := hr.form; rw [HOL.out] at hr ⊢; have HO := Lib.hid hr; replace HR := Lib.hid (HR.out.mono hb1); clear hr PP; (try replace k0 := hb1.cell' k0); (try replace k1 := hb1.cell' k1); (try replace k2 := hb1.cell' k2); (try replace k3 := hb1.cell' k3); (try replace k4 := hb1.cell' k4); replace HBW := Lib.hid (HBW.out.trans hb1); clear hb1))
        have HOR := Lib.hid (And.intro HO.out HR.out)
        go_loopg [12] 200 (fun gg s12 wr => ∃ i : Nat, i ≤ A + N + 3 ∧ A + N + 3 - i ≤ gg ∧ s12 = .int .i64 i ∧ Hid (Bw u7 wr))
        case atStart => exact ⟨0, Nat.zero_le _, by omega, rfl, Lib.hid (Bw.refl _)⟩
        case round =>
          obtain ⟨i, hi9, hgg, rfl, hq⟩ := hrel
          replace k0 := hq.out.cell' k0; replace k1 := hq.out.cell' k1; replace k2 := hq.out.cell' k2; replace k3 := hq.out.cell' k3; replace k4 := hq.out.cell' k4
          by_cases hlt : i < A + N + 3
          · have hiz : (i : Int) < A + N + 3 := by omega
            have e0 := fun p' : Ext wr => Ext.cell' k0 p'
            have e1 := fun p' : Ext wr => Ext.cell' k1 p'
            by_cases hmid : A ≤ i ∧ i < A + N
            · go_wp2
              have hm1 : ¬ (i : Int) < A := by omega
              have hm2 : ¬ (A : Int) + N ≤ i := by omega
              (refine wp_region_quiet_ext (by kernel_rfl) (by kernel_rfl) ?_; (repeat (go_big_quiet_step ((fail)))); refine wpQuiet_nil ?_; rintro wq ⟨⟨_, hbq⟩, rfl⟩; obtain ⟨hccq, hffq⟩ := Bw.cells hbq; have hszq := Bw.size hbq)
              clear e0 e1
              go_wp2
              go_roundg (A + N + 3 - (i + 1))
              case measure => omega
              case rel => exact ⟨i + 1, by omega, by omega, by go_num, Lib.hid (hq.out.trans hbq)⟩
            · obtain ⟨b1, o1, c1, hv1, hb1, hd1⟩ := HOR.out.1.at (by have := HOL.out; omega)
              obtain ⟨b2, o2, c2, hv2, hb2, hd2⟩ := HOR.out.2.at (by have := HL.out; omega)
              injection hv1 with i1 i2 i3; subst i1; clear i2 i3
              injection hv2 with i1 i2 i3; subst i1; clear i2 i3
              have d1 := hq.out.cell' (hd1 i (by have := HOL.out; omega))
              have d2 := hq.out.cell' (hd2 i (by have := HL.out; omega))
              rw [HOO.out i hmid] at d1
              clear hd1 hd2
              generalize bs.getD i 0 = z at d1 d2
              have e2 := fun p' : Ext wr => Ext.cell' d1 p'
              have e3 := fun p' : Ext wr => Ext.cell' d2 p'
              by_cases hm1 : (i : Int) < A
              · go_wp2
                (refine wp_region_quiet_ext (by kernel_rfl) (by kernel_rfl) ?_; (repeat (go_big_quiet_step ((fail)))); refine wpQuiet_nil ?_; rintro wq ⟨⟨_, hbq⟩, rfl⟩; obtain ⟨hccq, hffq⟩ := Bw.cells hbq; have hszq := Bw.size hbq)
                clear e0 e1 e2 e3
                go_wp2
                go_roundg (A + N + 3 - (i + 1))
                case measure => omega
                case rel => exact ⟨i + 1, by omega, by omega, by go_num, Lib.hid (hq.out.trans hbq)⟩
              · go_wp2
                have hm3 : ¬ (i : Int) < A := by omega
                have hm2 : (A : Int) + N ≤ i := by omega
                (refine wp_region_quiet_ext (by kernel_rfl) (by kernel_rfl) ?_; (repeat (go_big_quiet_step ((fail)))); refine wpQuiet_nil ?_; rintro wq ⟨⟨_, hbq⟩, rfl⟩; obtain ⟨hccq, hffq⟩ := Bw.cells hbq; have hszq := Bw.size hbq)
                clear e0 e1 e2 e3
                go_wp2
                go_roundg (A + N + 3 - (i + 1))
                case measure => omega
                case rel => exact ⟨i + 1, by omega, by omega, by go_num, Lib.hid (hq.out.trans hbq)⟩
          · have hiz : ¬ (i : Int) < A + N + 3 := by omega
            replace HO := Lib.hid (HO.out.mono hq.out)
            replace HBW := Lib.hid (HBW.out.trans hq.out)
            clear HOR hq HR
            go_wp2_with (first | (go_at_call 14; (with_reducible refine Calls.mono (PG.out _ _ HO.out) ?_); rintro e1 u8 ⟨rfl, hb1⟩; replace HO := Lib.hid (HO.out.mono hb1); clear PG; (try replace k0 := hb1.cell' k0); (try replace k1 := hb1.cell' k1); (try replace k2 := hb1.cell' k2); (try replace k3 := hb1.cell' k3); (try replace k4 := hb1.cell' k4); replace HBW := Lib.hid (HBW.out.trans hb1); clear hb1) | (go_at_call 12; (with_reducible refine Calls.mono (PP2.out _ _ HO.out) ?_); rintro e1 u8 ⟨⟨v8, rfl, hr, _⟩, hb1⟩; obtain ⟨a8, c8, rfl⟩ := hr.form; rw [HOL.out] at hr ⊢; have HA := Lib.hid hr; replace HO := Lib.hid (HO.out.mono hb1); clear hr PP2; (try replace k0 := hb1.cell' k0); (try replace k1 := hb1.cell' k1); (try replace k2 := hb1.cell' k2); (try replace k3 := hb1.cell' k3); (try replace k4 := hb1.cell' k4); replace HBW := Lib.hid (HBW.out.trans hb1); clear hb1) | (go_at_call 18; (with_reducible refine Calls.mono (alike_same out _ _ _ HA.out HO.out) ?_); rintro e1 u8 ⟨rfl, hb1⟩; (try replace k0 := hb1.cell' k0); (try replace k1 := hb1.cell' k1); (try replace k2 := hb1.cell' k2); (try replace k3 := hb1.cell' k3); (try replace k4 := hb1.cell' k4); replace HBW := Lib.hid (HBW.out.trans hb1); clear hb1) | (go_at_call 9; (with_reducible refine Calls.mono (awake_any _) ?_); rintro e1 u9 ⟨rfl, hb1⟩; (try replace k0 := hb1.cell' k0); (try replace k1 := hb1.cell' k1); (try replace k2 := hb1.cell' k2); (try replace k3 := hb1.cell' k3); (try replace k4 := hb1.cell' k4); replace HBW := Lib.hid (HBW.out.trans hb1); clear hb1))
            go_ret
            exact ⟨rfl, HBW.out⟩
end Go.Proofs.Sky
