/-
  lemmas for the theorems of this claim. No conditions beyond those written in the statements.
-/
import Derived.Test.YtcmjcobhobfloaaDoorMS27
set_option linter.unusedVariables false
set_option linter.unusedSimpArgs false
set_option linter.unnecessarySimpa false
namespace Go.Proofs.Sky
open Go Go.RowKit Go.Shelf
attribute [local go_sem] Oper.semAt_some
set_option maxHeartbeats 4000000
set_option maxRecDepth 8000
/-! chapter 27: the document's Missing -/
theorem RAlMissing_any (ps : List (Nat → Int)) (zs : List Int) (t most : Int) (v vz : Value) (w : World) (hv : RdG w v ps) (hz : RdI w vz zs) (hzl : zs.length ≤ 1000) :
    Calls Tryd.prog 29 #[v, vz, .int .i64 t, .int .i64 most] w fun e w' => LsQ w.heap.size (msR ps t most zs) (errMs ps t) e w' ∧ Bw w w' := by
  have WH := Lib.hid (fun W hV => rcheck27_any ps v W hV)
  have HV := Lib.hid hv
  have HZ := Lib.hid hz
  have HW := Lib.hid (Bw.refl w)
  by_cases h1 : errRow ps = 0
  case neg =>
    have HE : errMs ps t = errRow ps := if_pos h1
    have HL : msR ps t most zs = [] := if_neg (by rw [HE]; exact h1)
    rw [HE, HL]
    clear hv hz HE HL HZ
    generalize errRow ps = Er at *
    go_enter Tryd.func29, Tryd.ntmps29
    go_wp2_with (first | (go_at_call 55; (with_reducible refine Calls.mono (WH.out _ HV.out) ?_); rintro e1 w1 ⟨rfl, hb1⟩; replace HW := Lib.hid (HW.out.trans hb1); clear hb1))
    refine bodyPost_ret (v := .tuple #[.slice none 0 0, .int .i64 Er]) ?_ rfl ⟨lsQ_nil _ _ _, HW.out⟩
    simp [results, Tryd.results29, go_sem]
  rw [h1] at WH
  by_cases h2 : t < 0 ∨ 604800 ≤ t
  · have HE : errMs ps t = 2 := by unfold errMs; rw [if_neg (by simpa using h1), if_pos h2]
    have HL : msR ps t most zs = [] := if_neg (by rw [HE]; decide)
    rw [HE, HL]
    clear hv hz HE HL HZ h1
    rcases h2 with h2 | h2
    · go_enter Tryd.func29, Tryd.ntmps29
      go_wp2_with (first | (go_at_call 55; (with_reducible refine Calls.mono (WH.out _ HV.out) ?_); rintro e1 w1 ⟨rfl, hb1⟩; replace HW := Lib.hid (HW.out.trans hb1); clear hb1))
      refine bodyPost_ret (v := .tuple #[.slice none 0 0, .int .i64 2]) ?_ rfl ⟨lsQ_nil _ _ _, HW.out⟩
      simp [results, Tryd.results29, go_sem]
    · have h3 : ¬ t < 0 := by omega
      go_enter Tryd.func29, Tryd.ntmps29
      go_wp2_with (first | (go_at_call 55; (with_reducible refine Calls.mono (WH.out _ HV.out) ?_); rintro e1 w1 ⟨rfl, hb1⟩; replace HW := Lib.hid (HW.out.trans hb1); clear hb1))
      refine bodyPost_ret (v := .tuple #[.slice none 0 0, .int .i64 2]) ?_ rfl ⟨lsQ_nil _ _ _, HW.out⟩
      simp [results, Tryd.results29, go_sem]
  · have HE : errMs ps t = 0 := by unfold errMs; rw [if_neg (by simpa using h1), if_neg h2]
    have HL : msR ps t most zs = zs.filter (bdG ps t most) := if_pos HE
    rw [HE, HL, ← msL_all]
    have h3 : ¬ t < 0 := by omega
    have h4 : ¬ 604800 ≤ t := by omega
    obtain ⟨hlen, hok, ha⟩ := errRow_zero h1
    have FI := Lib.hid (fun n X E hq W hV => RAlFind_any ps n X E hq v W hV)
    have HSZ : Hid (∀ x, (Tryd.prog.info? 27).map (·.size) = some (pgV x).size) := Lib.hid (fun x => by kernel_rfl)
    have HPX : Hid (∀ x, (pgV x).all (·.oneCell') = true) := Lib.hid (fun x => by simp [Value.oneCell', pgV])
    have HR0 := Lib.hid h1
    have HEX := Lib.hid (fun n => pos_ex ha n)
    have HA := Lib.hid (And.intro hok ha)
    have BD := Lib.hid (fun x W h => rgrown27_any x t W h)
    have HML := Lib.hid (fun k => msL_len ps t most zs k)
    have HMY := Lib.hid (fun k hk h => msL_yes (ps := ps) (t := t) (most := most) (zs := zs) (k := k) hk h)
    have HMN := Lib.hid (fun k hk h => msL_no (ps := ps) (t := t) (most := most) (zs := zs) (k := k) hk h)
    have HM0 := Lib.hid (msL_zero ps t most zs)
    obtain ⟨a1, c1, rfl⟩ := hv.form
    obtain ⟨a2, c2, rfl⟩ := hz.form
    obtain ⟨m, hm⟩ : ∃ m, ps.length = m := ⟨_, rfl⟩
    obtain ⟨n, hn⟩ : ∃ n, zs.length = n := ⟨_, rfl⟩
    have HPM := Lib.hid hm
    have HZN := Lib.hid hn
    rw [hm] at WH HV FI hlen ⊢
    rw [hn] at HZ hzl HMY HMN HML ⊢
    clear hm hn hv hz h1 h2 HE HL hok ha
    generalize hfu : msL ps t most zs = L at HML HMY HMN HM0 ⊢
    clear hfu
    obtain ⟨BB, hB⟩ : ∃ BB, w.heap.size = BB := ⟨_, rfl⟩
    have HB := Lib.hid hB
    clear hB
    go_enter Tryd.func29, Tryd.ntmps29
    go_wp2_with (first | (go_at_call 55; (with_reducible refine Calls.mono (WH.out _ HV.out) ?_); rintro e1 w1 ⟨rfl, hb1⟩; replace HW := Lib.hid (HW.out.trans hb1); clear hb1))
    go_loopw [11, 12] (fun s11 s29 wr => ∃ k : Nat, k ≤ n ∧ s29 = .int .i64 k ∧ Hid (Bw w wr) ∧ Hid (wr.ownsRow BB 3 1 s11 (L k).length ((L k).map (Value.int .i64)))) (fun _ s29 _ => n - (intOf s29).toNat)
    case atStart => exact ⟨0, Nat.zero_le _, rfl, HW, Lib.hid (by rw [HM0.out]; exact World.ownsRow_nil _ _ _ _)⟩
    case round =>
      clear HW
      obtain ⟨k, hk, rfl, HW, O1⟩ := hrel
      obtain ⟨wb, rfl⟩ : ∃ wb, wb = wr := ⟨_, rfl⟩
      by_cases hlt : k < n
      · have hkn : (k : Int) < n := by omega
        obtain ⟨b2, o2, c2', hv2, hb2, hz2⟩ := HZ.out.at (by have := HZN.out; omega)
        injection hv2 with e1 e2 e3
        subst e1
        have d1 := HW.out.cell' (hz2 k (by have := HZN.out; omega))
        have HMY1 := Lib.hid (HMY.out k hlt)
        have HMN1 := Lib.hid (HMN.out k hlt)
        clear hz2 e2 e3
        generalize zs.getD k 0 = z at d1 HMY1 HMN1
        have hkk0 : (0 : Int) ≤ k := by omega
        by_cases hth : ∃ i, i < m ∧ nmG ps i = z
        · obtain ⟨i, him, hiz⟩ := hth
          have hbd := bdG_at (t := t) (most := most) HA.out.2 (i := i) (by have := HPM.out; omega) hiz
          have BX := Lib.hid (fun W => BD.out (ps.getD i fun _ => 0) W (errTm_in (HA.out.1 i (by have := HPM.out; omega)) (by omega) (by omega)))
          have FX := Lib.hid (fun W hV => FI.out z (ps.getD i fun _ => 0) 0 (.inr (.inl ⟨HR0.out, i, by have := HPM.out; omega, hiz, rfl, rfl⟩)) W hV)
          generalize bdQ (ps.getD i fun _ => 0) t = bq at BX hbd
          generalize (ps.getD i fun _ => 0) = x at FX BX
          clear hiz him
          by_cases hq : most < bq
          · have HG := Lib.hid (HMY1.out (hbd.trans (decide_eq_true hq)))
            clear hbd HMN1 HMY1
            go_upto_region 11 with (first | (go_at_call 28; (with_reducible refine Calls.mono (FX.out _ (HV.out.mono HW.out)) ?_); rintro e1 w2 ⟨rfl, hb1⟩; replace O1 := Lib.hid (own_bw O1.out hb1); replace HW := Lib.hid (HW.out.trans hb1); replace d1 := hb1.cell' d1; clear hb1; have K1 := Lib.hid (Blk.new w2 27 #[.int .i64 0, .int .i64 0, .int .i64 0, .int .i64 0, .int .i64 0, .int .i64 0, .int .i64 0, .int .i64 0, .int .i64 0, .int .i64 0, .int .i64 0, .int .i64 0, .int .i64 0]); have hbs := Bw.setRow (Bw.alloc (Bw.refl w2) (.cells #[.int .i64 0, .int .i64 0, .int .i64 0, .int .i64 0, .int .i64 0, .int .i64 0, .int .i64 0, .int .i64 0, .int .i64 0, .int .i64 0, .int .i64 0, .int .i64 0, .int .i64 0] 27)) (Nat.le_refl _) (pgV x); have K2 := Lib.hid (K1.out.row (pgV x)); replace O1 := Lib.hid (own_bw O1.out hbs); replace HW := Lib.hid (HW.out.trans hbs); replace d1 := hbs.cell' d1; clear hbs) | ((with_reducible refine at_store 27 (.tmp 13) (.tmp 39) ?_); refine wpList_store_row rfl 27 (.tmp 13) (.tmp 39) rfl w2.heap.size (pgV x) rfl rfl 27 _ K1.out (HSZ.out _) rfl (HPX.out _) ?_))
            (try simp only [Act.put])
            generalize World.setRow (World.alloc w2 _) _ _ = w3 at *
            generalize w2.heap.size = g3 at *
            clear K1
            go_wp2_with (first | ((with_reducible refine at_load 27 (.tmp 13) ?_); refine wpList_load_roww28 27 _ rfl g3 rfl 27 (pgV x) (0, 0) _ K2.out Tryd.underlying27 rfl (HSZ.out _) (by rfl) ?_) | (go_at_call 49; (with_reducible refine Calls.mono (BX.out _) ?_); rintro e1 w4 ⟨rfl, hb1⟩; replace O1 := Lib.hid (own_bw O1.out hb1); replace HW := Lib.hid (HW.out.trans hb1); replace d1 := hb1.cell' d1; clear hb1) | (at_builtin; have hba := Bw.alloc (Bw.refl w4) (.cells #[.int .i64 z] 3); replace O1 := Lib.hid (own_bw O1.out hba); replace HW := Lib.hid (HW.out.trans hba); clear hba; refine wpList_append_int1 rfl (.tmp 50) (.tmp 55) _ rfl BB 3 Tryd.underlying22 infoInt _ (L k) z rfl O1.out _ rfl (by simp [go_sem]) (by have := HML.out k; omega) (by have := HW.out.size; have := HB.out; simp only [World.size_alloc] at *; omega) ?_; intro v8 w8 hown hgr; replace HW := Lib.hid (bw_grownN HB.out HW.out O1.out hgr); replace O1 := Lib.hid hown; clear hown hgr))
            go_roundw
            case rel => exact ⟨k + 1, by omega, by go_num, HW, Lib.hid (by rw [HG.out]; exact O1.out)⟩
            case measure => simp [intOf]; omega
          · have HG := Lib.hid (HMN1.out (hbd.trans (decide_eq_false hq)))
            clear hbd HMN1 HMY1
            go_upto_region 11 with (first | (go_at_call 28; (with_reducible refine Calls.mono (FX.out _ (HV.out.mono HW.out)) ?_); rintro e1 w2 ⟨rfl, hb1⟩; replace O1 := Lib.hid (own_bw O1.out hb1); replace HW := Lib.hid (HW.out.trans hb1); replace d1 := hb1.cell' d1; clear hb1; have K1 := Lib.hid (Blk.new w2 27 #[.int .i64 0, .int .i64 0, .int .i64 0, .int .i64 0, .int .i64 0, .int .i64 0, .int .i64 0, .int .i64 0, .int .i64 0, .int .i64 0, .int .i64 0, .int .i64 0, .int .i64 0]); have hbs := Bw.setRow (Bw.alloc (Bw.refl w2) (.cells #[.int .i64 0, .int .i64 0, .int .i64 0, .int .i64 0, .int .i64 0, .int .i64 0, .int .i64 0, .int .i64 0, .int .i64 0, .int .i64 0, .int .i64 0, .int .i64 0, .int .i64 0] 27)) (Nat.le_refl _) (pgV x); have K2 := Lib.hid (K1.out.row (pgV x)); replace O1 := Lib.hid (own_bw O1.out hbs); replace HW := Lib.hid (HW.out.trans hbs); replace d1 := hbs.cell' d1; clear hbs) | ((with_reducible refine at_store 27 (.tmp 13) (.tmp 39) ?_); refine wpList_store_row rfl 27 (.tmp 13) (.tmp 39) rfl w2.heap.size (pgV x) rfl rfl 27 _ K1.out (HSZ.out _) rfl (HPX.out _) ?_))
            (try simp only [Act.put])
            generalize World.setRow (World.alloc w2 _) _ _ = w3 at *
            generalize w2.heap.size = g3 at *
            clear K1
            go_wp2_with (first | ((with_reducible refine at_load 27 (.tmp 13) ?_); refine wpList_load_roww28 27 _ rfl g3 rfl 27 (pgV x) (0, 0) _ K2.out Tryd.underlying27 rfl (HSZ.out _) (by rfl) ?_) | (go_at_call 49; (with_reducible refine Calls.mono (BX.out _) ?_); rintro e1 w4 ⟨rfl, hb1⟩; replace O1 := Lib.hid (own_bw O1.out hb1); replace HW := Lib.hid (HW.out.trans hb1); replace d1 := hb1.cell' d1; clear hb1))
            go_roundw
            case rel => exact ⟨k + 1, by omega, by go_num, HW, Lib.hid (by rw [HG.out]; exact O1.out)⟩
            case measure => simp [intOf]; omega
        · have HG := Lib.hid (HMY1.out (bdG_no (fun j hj he => hth ⟨j, by have := HPM.out; omega, he⟩)))
          have FX := Lib.hid (fun W hV => FI.out z zrX 18 (.inr (.inr ⟨HR0.out, fun j hj he => hth ⟨j, by have := HPM.out; omega, he⟩, rfl, rfl⟩)) W hV)
          clear hth HMN1 HMY1
          obtain ⟨x, hx⟩ : ∃ x, x = zrX := ⟨_, rfl⟩
          rw [← hx] at FX
          clear hx
          go_upto_region 11 with (first | (go_at_call 28; (with_reducible refine Calls.mono (FX.out _ (HV.out.mono HW.out)) ?_); rintro e1 w2 ⟨rfl, hb1⟩; replace O1 := Lib.hid (own_bw O1.out hb1); replace HW := Lib.hid (HW.out.trans hb1); replace d1 := hb1.cell' d1; clear hb1; have K1 := Lib.hid (Blk.new w2 27 #[.int .i64 0, .int .i64 0, .int .i64 0, .int .i64 0, .int .i64 0, .int .i64 0, .int .i64 0, .int .i64 0, .int .i64 0, .int .i64 0, .int .i64 0, .int .i64 0, .int .i64 0]); have hbs := Bw.setRow (Bw.alloc (Bw.refl w2) (.cells #[.int .i64 0, .int .i64 0, .int .i64 0, .int .i64 0, .int .i64 0, .int .i64 0, .int .i64 0, .int .i64 0, .int .i64 0, .int .i64 0, .int .i64 0, .int .i64 0, .int .i64 0] 27)) (Nat.le_refl _) (pgV x); have K2 := Lib.hid (K1.out.row (pgV x)); replace O1 := Lib.hid (own_bw O1.out hbs); replace HW := Lib.hid (HW.out.trans hbs); replace d1 := hbs.cell' d1; clear hbs) | ((with_reducible refine at_store 27 (.tmp 13) (.tmp 39) ?_); refine wpList_store_row rfl 27 (.tmp 13) (.tmp 39) rfl w2.heap.size (pgV x) rfl rfl 27 _ K1.out (HSZ.out _) rfl (HPX.out _) ?_))
          (try simp only [Act.put])
          generalize World.setRow (World.alloc w2 _) _ _ = w3 at *
          generalize w2.heap.size = g3 at *
          clear K1
          go_wp2_with (first | (at_builtin; have hba := Bw.alloc (Bw.refl w3) (.cells #[.int .i64 z] 3); replace O1 := Lib.hid (own_bw O1.out hba); replace HW := Lib.hid (HW.out.trans hba); clear hba; refine wpList_append_int1 rfl (.tmp 50) (.tmp 55) _ rfl BB 3 Tryd.underlying22 infoInt _ (L k) z rfl O1.out _ rfl (by simp [go_sem]) (by have := HML.out k; omega) (by have := HW.out.size; have := HB.out; simp only [World.size_alloc] at *; omega) ?_; intro v8 w8 hown hgr; replace HW := Lib.hid (bw_grownN HB.out HW.out O1.out hgr); replace O1 := Lib.hid hown; clear hown hgr))
          go_roundw
          case rel => exact ⟨k + 1, by omega, by go_num, HW, Lib.hid (by rw [HG.out]; exact O1.out)⟩
          case measure => simp [intOf]; omega
      · obtain rfl : k = n := by omega
        have hlk := HML.out k
        have HO := Lib.hid (own_rd O1.out (by omega))
        go_wp2
        refine bodyPost_ret (v := .tuple #[_, .int .i64 0]) ?_ rfl ⟨⟨_, rfl, HO.out.1, by rw [HB.out]; exact HO.out.2⟩, HW.out⟩
        simp [results, Tryd.results29, go_sem]
end Go.Proofs.Sky

namespace Go.Proofs.Sky
open Go Go.RowKit Go.Shelf
attribute [local go_sem] Oper.semAt_some
set_option maxHeartbeats 4000000
set_option maxRecDepth 8000
/-! chapter 27: rows of pages alike -/
theorem alikePg_any (ps : List (Nat → Int)) (v1 v2 : Value) (w : World) (h1 : RdG w v1 ps) (h2 : RdG w v2 ps) : Calls Tryd.prog 12 #[v1, v2] w fun e w' => e = .returned (.bool true) ∧ Bw w w' := by
  have hx := h1.1
  by_cases h0 : 0 < ps.length
  · obtain ⟨b1, o1, c1, rfl, hb1, _⟩ := h1.at h0
    obtain ⟨b2, o2, c2, rfl, hb2, _⟩ := h2.at h0
    have Z1 := Lib.hid (fun (W : World) (h : RdG W (.slice (some ⟨b1, o1, none⟩) ps.length c1) ps) j hj => rd_rg h j hj)
    have Z2 := Lib.hid (fun (W : World) (h : RdG W (.slice (some ⟨b2, o2, none⟩) ps.length c2) ps) j hj => rd_rg h j hj)
    have H1 := Lib.hid h1
    have H2 := Lib.hid h2
    obtain ⟨n, hn⟩ : ∃ n, ps.length = n := ⟨_, rfl⟩
    rw [hn] at H1 H2 Z1 Z2 hx h0 ⊢
    clear hn h1 h2
    go_enter Tryd.func12, Tryd.ntmps12
    go_wp2
    go_loopw [5] (fun i wr => ∃ k : Nat, k ≤ n ∧ i = .int .i64 k ∧ Hid (Bw w wr)) (fun i _ => n - (intOf i).toNat)
    case atStart => exact ⟨0, Nat.zero_le _, rfl, Lib.hid (Bw.refl _)⟩
    case round =>
      obtain ⟨k, hk, rfl, HW⟩ := hrel
      obtain ⟨wb, rfl⟩ : ∃ wb, wb = wr := ⟨_, rfl⟩
      by_cases hlt : k < n
      · have hkn : (k : Int) < n := by omega
        have hk0 : (0 : Int) ≤ k := by omega
        have R1 := Lib.hid (Z1.out wb (H1.out.mono HW.out) k (by omega))
        have R2 := Lib.hid (Z2.out wb (H2.out.mono HW.out) k (by omega))
        generalize (ps.getD k fun _ => 0) = x at R1 R2
        clear Z1 Z2
        have HQ := Lib.hid (fun W => eqPg_self x W)
        have hq2 := HQ.out
        have hgg2 := fun W a b op p q => eqPg_guard a b op p q W
        go_upto_region 6 with fail
        refine wp_region_quiet_ext (by kernel_rfl) (by kernel_rfl) ?_
        (iterate 3 (go_big_quiet_step (fail)))
        go_big_quiet_want
        refine quiet_load (.agg (pgV x)) (some 20) rfl (fun W hW => ?_) ?_
        · obtain ⟨p, rfl⟩ := hW
          exact run_load_pg _ rfl b1 (o1 + k * 13) (by simp [Act.eval, Act.put]) (rg_bw R1.out p.b)
        simp only [Act.put, List.setIfInBounds_toArray, List.set_cons_zero, List.set_cons_succ]
        go_big_quiet_on
        (iterate 3 (go_big_quiet_step (fail)))
        go_big_quiet_want
        refine quiet_load (.agg (pgV x)) (some 24) rfl (fun W hW => ?_) ?_
        · obtain ⟨p, rfl⟩ := hW
          exact run_load_pg _ rfl b2 (o2 + k * 13) (by simp [Act.eval, Act.put]) (rg_bw R2.out p.b)
        simp only [Act.put, List.setIfInBounds_toArray, List.set_cons_zero, List.set_cons_succ]
        go_big_quiet_on
        generalize pgV x = A at hq2
        (repeat (go_big_quiet_step (fail)))
        refine wpQuiet_nil ?_
        rintro wq ⟨⟨_, hbq⟩, rfl⟩
        go_wp2
        go_roundw
        case rel => exact ⟨k + 1, by omega, by go_num, Lib.hid (HW.out.trans hbq)⟩
        case measure => simp [intOf]; omega
      · obtain rfl : k = n := by omega
        go_wp2
        go_ret
        exact ⟨rfl, HW.out⟩
  · obtain rfl : ps = [] := List.length_eq_zero_iff.1 (by omega)
    obtain ⟨a1, c1, rfl⟩ := h1.form
    obtain ⟨a2, c2, rfl⟩ := h2.form
    clear h1 h2
    go_enter Tryd.func12, Tryd.ntmps12
    go_wp2
    go_loopw [5] (fun i wr => i = .int .i64 0 ∧ Hid (Bw w wr)) (fun i _ => 0)
    case atStart => exact ⟨rfl, Lib.hid (Bw.refl _)⟩
    case round =>
      obtain ⟨rfl, HW⟩ := hrel
      go_wp2
      go_ret
      exact ⟨rfl, HW.out⟩
end Go.Proofs.Sky
