/-
  lemmas for the theorems of this claim. No conditions beyond those written in the statements.
-/
import Derived.Test.YtmfiiocadhdhaaaSE26
import Derived.Test.YtmfiiocadhdhaaaRC26
import Derived.Deep.Cut
set_option linter.unusedVariables false
set_option linter.unusedSimpArgs false
set_option linter.unnecessarySimpa false
namespace Go.Proofs.Sky
open Go Go.RowKit Go.Shelf
set_option maxHeartbeats 4000000
set_option maxRecDepth 8000
/-! chapter 26: the reference's right -/
theorem val_rows (zs : List Int) (k : Nat) (hk : k < 3) (v : Value) (w : World) (hv : RdI w v zs) : Calls Try.prog 44 #[v, .int .i64 ((k : Int) + 1)] w fun e w' => (∃ v', e = .returned (.tuple #[v', .bool (rokV zs ((k : Int) + 1))]) ∧ (rokV zs ((k : Int) + 1) = true → RdI w' v' (rvL zs k) ∧ Capd v')) ∧ Bw w w' := by
  have h9 := rval_any zs ((k : Int) + 1) v w hv
  refine Calls.mono h9 ?_
  rintro e w' ⟨⟨v', rfl, h1⟩, hb⟩
  rw [kd1 hk] at h1
  exact ⟨⟨v', rfl, fun h => ⟨(h1 h).1, (h1 h).2.1⟩⟩, hb⟩
theorem rv_cells {zs : List Int} {k : Nat} (hk : k < 3) {w : World} {v : Value} (h : RdI w v (rvL zs k)) : ∃ b o c, v = .slice (some ⟨b, o, none⟩) (rvL zs k).length c ∧ 2 < (rvL zs k).length ∧ w.cell? ⟨b, o, none⟩ = some (.int .i64 (rvX zs k 0)) ∧ w.cell? ⟨b, o + 1, none⟩ = some (.int .i64 (rvX zs k 1)) := by
  have hl : (rvL zs k).length = (LS k).length := by unfold rvL; simp
  have h2 := (ls_len k hk).2.1
  obtain ⟨b, o, c, hv, _, hc⟩ := h.at (by omega)
  refine ⟨b, o, c, hv, by omega, ?_, ?_⟩
  · have h9 := hc 0 (by omega); rw [rvL_get zs k 0 (by omega)] at h9; exact h9
  · have h9 := hc 1 (by omega); rw [rvL_get zs k 1 (by omega)] at h9; exact h9
theorem right26_any (p : Pm) (D : Nat → Value) (w : World) (hD : ∀ j, j < 3 → RdI w (D j) (p.Z j) ∧ Capd (D j)) :
    Calls Try.prog 43 #[.agg (ptV p.h p.is p.pr D)] w fun e w' => e = .returned (.bool (sndP p)) ∧ Bw w w' := by
  have RV := Lib.hid (fun zs k hk v W h1 => val_rows zs k hk v W h1)
  have HD := Lib.hid hD
  clear hD
  have HNO := Lib.hid (fun k hk h9 => sndP_no (p := p) (k := k) hk h9)
  have HEN := Lib.hid (fun h9 => sndP_end (p := p) h9)
  generalize sndP p = S at *
  obtain ⟨h, is, pr, Z⟩ := p
  dsimp only at HD HNO HEN ⊢
  have HBW := Lib.hid (Bw.alloc (Bw.refl w) (.cells (ptV h is pr D) 43))
  have KP := Lib.hid (Blk.new w 43 (ptV h is pr D))
  go_enter Try.func43, Try.ntmps43
  go_upto_region 1 with fail
  obtain ⟨W0, hW0⟩ : ∃ W0, w.alloc (.cells (ptV h is pr D) 43) = W0 := ⟨_, rfl⟩
  rw [hW0] at HBW KP ⊢
  clear hW0
  obtain ⟨g, hg⟩ : ∃ g, w.heap.size = g := ⟨_, rfl⟩
  rw [hg] at KP ⊢
  clear hg
  go_wp2
  go_loopg [3, 4] 3 (fun gg s3 s4 wr => ∃ k : Nat, k ≤ 3 ∧ 3 - k ≤ gg ∧ s4 = .int .i64 k ∧ s3 = .bool (anyU h k) ∧ Hid (Bw W0 wr) ∧ Hid (∀ j, j < k → sndK (h j) is pr (Z j) j = true))
  case atStart => exact ⟨0, by omega, by omega, rfl, rfl, Lib.hid (Bw.refl _), Lib.hid (fun j h9 => absurd h9 (by omega))⟩
  case round =>
    obtain ⟨k, hk, hgg, rfl, rfl, HW, HI⟩ := hrel
    obtain ⟨wa, rfl⟩ : ∃ wa, wa = wr := ⟨_, rfl⟩
    have KQ := Lib.hid (KP.out.bw HW.out)
    have c3 := KQ.out.cell (ptV_is h is pr D)
    have c4 := KQ.out.cell (ptV_pr h is pr D)
    by_cases hlt : k < 3
    · have hkz : (k : Int) < 3 := by omega
      have hk0 : (0 : Int) ≤ k := by omega
      have HNK := Lib.hid (HNO.out k hlt)
      have HIN := Lib.hid (fun h9 : sndK (h k) is pr (Z k) k = true => (fun j (hj : j < k + 1) => (by
        rcases Nat.lt_succ_iff_lt_or_eq.1 hj with h8 | rfl
        · exact HI.out j h8
        · exact h9) : ∀ j, j < k + 1 → sndK (h j) is pr (Z j) j = true))
      have ch := KQ.out.cell (ptV_h h is pr D k hlt)
      have cD := KQ.out.cell (ptV_D h is pr D k hlt)
      have HDK := Lib.hid (And.intro ((HD.out k hlt).1.mono (HBW.out.trans HW.out)) (HD.out k hlt).2)
      obtain ⟨a9, cap9, hv9⟩ := HDK.out.1.form
      rw [hv9] at cD HDK
      have HAU := Lib.hid (show anyU h (k + 1) = (anyU h k || h k) from rfl)
      have hlv := HDK.out.1.1
      have RVK := Lib.hid (RV.out (Z k) k hlt (.slice a9 (Z k).length cap9) wa HDK.out.1)
      obtain ⟨n, hn⟩ : ∃ n, n = (Z k).length := ⟨_, rfl⟩
      rw [← hn] at cD hlv RVK
      have HNN := Lib.hid hn
      clear hn
      cases hhk : h k with
      | false =>
        rw [hhk] at ch
        by_cases hz : n = 0
        · have hzz : ((n : Int) != 0) = false := by simp [hz]
          have HG := Lib.hid (HIN.out (by unfold sndK; rw [hhk]; exact decide_eq_true (by have := HNN.out; omega)))
          have HAK := Lib.hid (show anyU h k = anyU h (k + 1) by rw [HAU.out, hhk, Bool.or_false])
          clear hz
          go_wp2
          go_roundg (3 - (k + 1))
          case measure => omega
          case rel => exact ⟨k + 1, by omega, by omega, by go_num, by rw [← HAK.out], HW, HG.out⟩
        · have hzz : ((n : Int) != 0) = true := by simpa using hz
          have HG := Lib.hid (HNK.out (by unfold sndK; rw [hhk]; exact decide_eq_false (by have := HNN.out; omega)))
          clear hz
          go_wp2
          go_ret
          exact ⟨ret_bool HG.out.symm, HBW.out.trans HW.out⟩
      | true =>
        rw [hhk] at ch
        have HSK : Hid (sndK (h k) is pr (Z k) k = (rokV (Z k) ((k : Int) + 1) && decide (rvX (Z k) k 0 = is ∧ rvX (Z k) k 1 = pr))) := Lib.hid (by unfold sndK; rw [hhk]; rfl)
        have HAK := Lib.hid (show (true : Bool) = anyU h (k + 1) by rw [HAU.out, hhk, Bool.or_true])
        have HRC := Lib.hid (fun W v h9 => rv_cells (zs := Z k) hlt (w := W) (v := v) h9)
        generalize rokV (Z k) ((k : Int) + 1) = R at *
        generalize (rvL (Z k) k) = LV at *
        generalize rvX (Z k) k 0 = y0 at *
        generalize rvX (Z k) k 1 = y1 at *
        go_upto_region 10 with (go_at_call 44; (with_reducible refine Calls.mono RVK.out ?_); rintro e1 w2 ⟨⟨vv, rfl, hrv⟩, hb9⟩; have HRV := Lib.hid hrv; have HB9 := Lib.hid hb9; clear hrv hb9 c3 c4 ch cD)
        replace KQ := Lib.hid (KQ.out.bw HB9.out)
        replace HW := Lib.hid (HW.out.trans HB9.out)
        have c3 := KQ.out.cell (ptV_is h is pr D)
        have c4 := KQ.out.cell (ptV_pr h is pr D)
        have e3 := fun p' : Ext w2 => Ext.cell' c3 p'
        have e4 := fun p' : Ext w2 => Ext.cell' c4 p'
        clear c3 c4
        cases R with
        | false =>
          have HG := Lib.hid (HNK.out (by rw [HSK.out]; rfl))
          (refine wp_region_quiet_ext (by kernel_rfl) (by kernel_rfl) ?_; (repeat (go_big_quiet_step ((fail)))); refine wpQuiet_nil ?_; rintro wq ⟨⟨_, hbq⟩, rfl⟩; obtain ⟨hccq, hffq⟩ := Bw.cells hbq; have hszq := Bw.size hbq)
          replace HW := Lib.hid (HW.out.trans hbq)
          clear e3 e4
          go_wp2
          go_ret
          exact ⟨ret_bool HG.out.symm, HBW.out.trans HW.out⟩
        | true =>
          obtain ⟨bb, oo, cc, hvv, hll, hc0, hc1⟩ := HRC.out _ _ (HRV.out rfl).1
          subst hvv
          obtain ⟨ln, hln⟩ : ∃ ln, ln = LV.length := ⟨_, rfl⟩
          rw [← hln] at hll ⊢
          have hll0 : 0 < ln := by omega
          have hll1 : 1 < ln := by omega
          have hllz0 : (0 : Int) < ln := by omega
          have hllz1 : (1 : Int) < ln := by omega
          have e5 := fun p' : Ext w2 => Ext.cell' hc0 p'
          have e6 := fun p' : Ext w2 => Ext.cell' hc1 p'
          clear hc0 hc1 hln
          by_cases q1 : y0 = is
          · have q1b : (y0 != is) = false := by simpa using q1
            by_cases q2 : y1 = pr
            · have q2b : (y1 != pr) = false := by simpa using q2
              have HG := Lib.hid (HIN.out (by rw [HSK.out, Bool.true_and]; exact decide_eq_true ⟨q1, q2⟩))
              clear q1 q2
              (refine wp_region_quiet_ext (by kernel_rfl) (by kernel_rfl) ?_; (repeat (go_big_quiet_step ((fail)))); refine wpQuiet_nil ?_; rintro wq ⟨⟨_, hbq⟩, rfl⟩; obtain ⟨hccq, hffq⟩ := Bw.cells hbq; have hszq := Bw.size hbq)
              replace HW := Lib.hid (HW.out.trans hbq)
              clear e3 e4 e5 e6
              go_wp2
              go_roundg (3 - (k + 1))
              case measure => omega
              case rel => exact ⟨k + 1, by omega, by omega, by go_num, by rw [← HAK.out], HW, HG.out⟩
            · have q2b : (y1 != pr) = true := by simpa using q2
              have HG := Lib.hid (HNK.out (by rw [HSK.out, Bool.true_and]; exact decide_eq_false (fun h9 => q2 h9.2)))
              clear q1 q2
              (refine wp_region_quiet_ext (by kernel_rfl) (by kernel_rfl) ?_; (repeat (go_big_quiet_step ((fail)))); refine wpQuiet_nil ?_; rintro wq ⟨⟨_, hbq⟩, rfl⟩; obtain ⟨hccq, hffq⟩ := Bw.cells hbq; have hszq := Bw.size hbq)
              replace HW := Lib.hid (HW.out.trans hbq)
              clear e3 e4 e5 e6
              go_wp2
              go_ret
              exact ⟨ret_bool HG.out.symm, HBW.out.trans HW.out⟩
          · have q1b : (y0 != is) = true := by simpa using q1
            have HG := Lib.hid (HNK.out (by rw [HSK.out, Bool.true_and]; exact decide_eq_false (fun h9 => q1 h9.1)))
            clear q1
            (refine wp_region_quiet_ext (by kernel_rfl) (by kernel_rfl) ?_; (repeat (go_big_quiet_step ((fail)))); refine wpQuiet_nil ?_; rintro wq ⟨⟨_, hbq⟩, rfl⟩; obtain ⟨hccq, hffq⟩ := Bw.cells hbq; have hszq := Bw.size hbq)
            replace HW := Lib.hid (HW.out.trans hbq)
            clear e3 e4 e5 e6
            go_wp2
            go_ret
            exact ⟨ret_bool HG.out.symm, HBW.out.trans HW.out⟩
    · obtain rfl : k = 3 := by omega
      have hkz : ¬ ((3 : Nat) : Int) < 3 := by omega
      have HG0 := Lib.hid (HEN.out HI.out)
      replace HBW := Lib.hid (HBW.out.trans HW.out)
      cases hau : anyU h 3 with
      | true =>
        have HG := Lib.hid (HG0.out.trans (by rw [hau]; rfl : _ = true))
        go_wp2
        go_ret
        exact ⟨ret_bool HG.out.symm, HBW.out⟩
      | false =>
        rw [hau, Bool.false_or] at HG0
        by_cases q1 : is = 0
        · have q1b : (is == 0) = true := by simpa using q1
          have HG := Lib.hid (HG0.out.trans (dec_and q1))
          clear q1
          go_wp2
          go_ret
          exact ⟨ret_bool HG.out.symm, HBW.out⟩
        · have q1b : (is == 0) = false := by simpa using q1
          have HG := Lib.hid (HG0.out.trans (show decide (is = 0 ∧ pr = 0) = false from decide_eq_false (fun h9 => q1 h9.1)))
          clear q1
          go_wp2
          go_ret
          exact ⟨ret_bool HG.out.symm, HBW.out⟩
end Go.Proofs.Sky
