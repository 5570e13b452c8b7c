/-
  lemmas for the theorems of this claim. No conditions beyond those written in the statements.
-/
import Derived.Test.YtcmjcobhobfloaaDoorRAD27
import Derived.Test.YtcmjcobhobfloaaDoorI27
import Derived.Test.YtcmjcobhobfloaaDoorMS27
import Derived.Test.YtcmjcobhobfloaaDoorPA27
import Derived.Laws.MakeOwn
import Derived.Deep.Cut
set_option linter.unusedVariables false
set_option linter.unusedSimpArgs false
set_option linter.unnecessarySimpa false
namespace Go.Proofs.Sky
open Go Go.RowKit Go.Shelf
attribute [local go_sem] Oper.semAt_some
set_option maxHeartbeats 4000000
set_option maxRecDepth 8000
set_option maxHeartbeats 20000000
/-! chapter 27: the document's Add -/
theorem rg_at1 {w : World} {b o : Nat} {x : Nat → Int} (h : w.rangeAt b o (pgc x)) : w.cell? ⟨b, o + 1, none⟩ = some (.int .i64 (x 1)) := h 1 _ rfl
theorem RAlAdd_any (ps : List (Nat → Int)) (x : Nat → Int) (L : List (Nat → Int)) (E : Int) (h : AddQ ps x L E) (v : Value) (w : World) (hv : RdG w v ps) :
    Calls Tryd.prog 27 #[v, .agg (pgV x)] w fun e w' => AdR w.heap.size L E e w' ∧ Bw w w' := by
  have WH := Lib.hid (fun W hV => rcheck27_any ps v W hV)
  have CK := Lib.hid (fun W => rPgCheck_any x W)
  have HSZ : Hid ((Tryd.prog.info? 27).map (·.size) = some (pgV x).size) := Lib.hid (by kernel_rfl)
  have HPX : Hid ((pgV x).all (·.oneCell') = true) := Lib.hid (by simp [Value.oneCell', pgV])
  have HB0 := Bw.alloc (Bw.refl w) (.cells (pgV x) 27)
  have KX0 := Blk.new w 27 (pgV x)
  obtain ⟨g, hg⟩ : ∃ g, w.heap.size = g := ⟨_, rfl⟩
  have HG := Lib.hid hg
  obtain ⟨W0, hW0⟩ : ∃ W0, w.alloc (.cells (pgV x) 27) = W0 := ⟨_, rfl⟩
  have HV := Lib.hid (hv.mono HB0)
  rw [hW0] at HB0 KX0 HV
  rw [hg] at KX0
  have HW := Lib.hid HB0
  have KX := Lib.hid KX0
  clear HB0 KX0 hv
  rcases h with ⟨h1, rfl, h3⟩ | ⟨h1, h2, rfl, h3⟩ | ⟨h1, h2, rfl, i, hp, rfl⟩
  · rw [h3]
    generalize errRow ps = Er at *
    clear h3
    obtain ⟨A, hA⟩ : ∃ A, A = pgV x := ⟨_, rfl⟩
    rw [← hA] at KX hW0 ⊢
    clear hA CK HSZ HPX hg
    go_enter Tryd.func27, Tryd.ntmps27
    go_upto_region 1 with fail
    clear hW0
    go_wp2_with (first | (go_at_call 55; (with_reducible refine Calls.mono (WH.out _ HV.out) ?_); rintro e1 w1 ⟨rfl, hb1⟩; replace HW := Lib.hid (HW.out.trans hb1); clear hb1))
    refine bodyPost_ret (v := .tuple #[.slice none 0 0, .int .i64 Er]) ?_ rfl ⟨adR_nil _ _ _, HW.out⟩
    simp [results, Tryd.results27, go_sem]
  · rw [h1] at WH
    rw [h3]
    generalize errPg x = Er at *
    clear h3
    obtain ⟨A, hA⟩ : ∃ A, A = pgV x := ⟨_, rfl⟩
    rw [← hA] at KX hW0 CK HSZ HPX ⊢
    clear hA hg
    go_enter Tryd.func27, Tryd.ntmps27
    go_upto_region 1 with fail
    clear hW0
    go_wp2_with (first | (go_at_call 55; (with_reducible refine Calls.mono (WH.out _ HV.out) ?_); rintro e1 w1 ⟨rfl, hb1⟩; replace HW := Lib.hid (HW.out.trans hb1); replace KX := Lib.hid (KX.out.bw hb1); clear hb1) | ((with_reducible refine at_load 27 (.tmp 3) ?_); refine wpList_load_row rfl 27 (.tmp 3) rfl g (by simp [Act.eval, Act.put, HG.out]) 27 A (0, 0) _ KX.out Tryd.underlying27 rfl HSZ.out ?_) | (go_at_call 23; (with_reducible refine Calls.mono (CK.out _) ?_); rintro e1 w1 ⟨rfl, hb1⟩; replace HW := Lib.hid (HW.out.trans hb1); clear hb1))
    refine bodyPost_ret (v := .tuple #[.slice none 0 0, .int .i64 Er]) ?_ rfl ⟨adR_nil _ _ _, HW.out⟩
    simp [results, Tryd.results27, go_sem]
  · rw [h1] at WH
    rw [h2] at CK
    obtain ⟨hlen, hok, ha⟩ := errRow_zero h1
    have HPX0 := Lib.hid (pgV_at x 0 (by omega))
    have HPX1 := Lib.hid (pgV_at x 1 (by omega))
    have HAO := Lib.hid (fun m k hk h => accG_other m (ps := ps) (i := i) (k := k) x hk h)
    have HEN := Lib.hid (fun hi => accG_end (ps := ps) (x := x) (i := i) hi)
    have HTL := Lib.hid (show i = ps.length → accG (mdG ps x i) ps i x ps.length ++ [x] = addL ps x i from fun e => by subst e; exact accG_tail)
    have HLN := Lib.hid (fun m k => accG_len m ps i x k)
    have HA0 := Lib.hid (fun m => accG_zero m ps i x)
    have HLO := Lib.hid (show ∀ k, k < i → nmG ps k < x 0 from fun k hk => hp.2.1 k hk)
    have HHI := Lib.hid (show ∀ k, i < k → k < ps.length → x 0 < nmG ps k from fun k hk hkl => by
      have h8 := hp.2.2 i (Nat.le_refl _) (by omega)
      have h9 := asc_lt ha k hkl i hk
      omega)
    have HEQ := Lib.hid (show i < ps.length → x 0 ≤ nmG ps i from fun hi => hp.2.2 i (Nat.le_refl _) hi)
    have hip := hp.1
    have HM := Lib.hid (show i < ps.length → (nmG ps i ≠ x 0 ∧ mdG ps x i = 0) ∨ (nmG ps i = x 0 ∧ 0 ≤ arQ (x 1 - (ps.getD i fun _ => 0) 1) ∧ mdG ps x i = 1) ∨ (nmG ps i = x 0 ∧ arQ (x 1 - (ps.getD i fun _ => 0) 1) < 0 ∧ mdG ps x i = 2) from fun hi => by
      unfold mdG thG
      by_cases hn : nmG ps i = x 0
      · rw [if_pos (decide_eq_true ⟨hi, hn⟩)]
        by_cases hq : 0 ≤ arQ (x 1 - (ps.getD i fun _ => 0) 1)
        · rw [if_pos hq]; exact .inr (.inl ⟨hn, hq, rfl⟩)
        · rw [if_neg hq]; exact .inr (.inr ⟨hn, by omega, rfl⟩)
      · rw [if_neg (by simp [hn])]; exact .inl ⟨hn, rfl⟩)
    have HI0 := Lib.hid (fun hk => accG_ins (ps := ps) (i := i) x hk)
    have HI1 := Lib.hid (fun hk => accG_rep (ps := ps) (i := i) x hk)
    have HI2 := Lib.hid (fun hk => accG_keep (ps := ps) (i := i) x hk)
    have AR := Lib.hid (show ∀ hi : i < ps.length, IntKind.i64.wrap (x 1 - (ps.getD i fun _ => 0) 1) = x 1 - (ps.getD i fun _ => 0) 1 ∧ ∀ W, Calls Tryd.prog 47 #[.int .i64 (x 1 - (ps.getD i fun _ => 0) 1)] W fun e w' => e = .returned (.int .i64 (arQ (x 1 - (ps.getD i fun _ => 0) 1))) ∧ Bw W w' from fun hi => by
      have a1 := (pg_lim h2).2.1
      have a2 := (pg_lim (hok i hi)).2.1
      exact ⟨by rw [IntKind.wrap_i64]; omega, fun W => raround27_any _ (by omega) W⟩)
    clear h1 h2 ha hok hp
    generalize mdG ps x i = m at *
    generalize hac : accG m ps i x = ACC at *
    have HAC := Lib.hid hac
    have HA00 := Lib.hid ((congrFun hac 0).symm.trans (HA0.out m))
    have HAO0 := Lib.hid (show ∀ k, k < ps.length → k ≠ i → ACC (k + 1) = ACC k ++ [ps.getD k fun _ => 0] from fun k hk h => by rw [← hac]; exact HAO.out m k hk h)
    have HLN0 := Lib.hid (show ∀ k, (ACC k).length ≤ ps.length + 1 from fun k => by rw [← hac]; exact HLN.out m k)
    clear hac HA0 HAO HLN
    generalize addL ps x i = AL at *
    have HFP := Lib.hid (fun y => fold_pg y)
    have hfx := fold_pg x
    have HA13 := Lib.hid (show (pgV x).size = 13 from rfl)
    have HXG := Lib.hid (show ∀ W : World, W.rangeAt W.heap.size 0 (pgc x) → True from fun _ _ => trivial)
    obtain ⟨BB, hBB⟩ : ∃ BB, W0.heap.size = BB := ⟨_, rfl⟩
    have HBB := Lib.hid hBB
    clear hBB HXG
    have HW1 := Lib.hid (Bw.refl W0)
    by_cases h0 : 0 < ps.length
    · obtain ⟨b, o, c, rfl, hb, _⟩ := HV.out.at h0
      have HZ := Lib.hid (fun (W : World) (h : RdG W (.slice (some ⟨b, o, none⟩) ps.length c) ps) j hj => rd_rg h j hj)
      obtain ⟨n, hn⟩ : ∃ n, ps.length = n := ⟨_, rfl⟩
      rw [hn] at WH HV HZ hlen h0 hip HEN HTL HHI HEQ HM HI0 HI1 HI2 AR HAO0 HLN0 ⊢
      clear hn
      obtain ⟨A, hA⟩ : ∃ A, A = pgV x := ⟨_, rfl⟩
      have HXA := Lib.hid hA
      rw [← hA] at KX hW0 CK HSZ HPX HPX0 HPX1 HA13 hfx ⊢
      clear hA
      have hA13 := HA13.out
      go_enter Tryd.func27, Tryd.ntmps27
      go_upto_region 1 with fail
      clear hW0
      go_wp2_with (first | (go_at_call 55; (with_reducible refine Calls.mono (WH.out _ HV.out) ?_); rintro e1 w1 ⟨rfl, hb1⟩; replace HW1 := Lib.hid (HW1.out.trans hb1); clear hb1) | ((with_reducible refine at_load 27 (.tmp 3) ?_); refine wpList_load_row rfl 27 (.tmp 3) rfl g (by simp [Act.eval, Act.put, HG.out]) 27 A (0, 0) _ (KX.out.bw HW1.out) Tryd.underlying27 rfl HSZ.out ?_) | (go_at_call 23; (with_reducible refine Calls.mono (CK.out _) ?_); rintro e1 w2 ⟨rfl, hb1⟩; replace HW1 := Lib.hid (HW1.out.trans hb1); clear hb1))
      go_loopw [8, 9, 10] (fun s8 s9 s10 wr => ∃ k : Nat, k ≤ n ∧ s10 = .int .i64 k ∧ s9 = .bool (decide (i < k)) ∧ Hid (Bw W0 wr) ∧ Hid (wr.ownsRow BB 27 13 s8 (ACC k).length (flatG (ACC k)))) (fun _ _ s10 _ => n - (intOf s10).toNat)
      case atStart => exact ⟨0, Nat.zero_le _, rfl, by simp, HW1, Lib.hid (by rw [HA00.out]; exact World.ownsRow_nil _ _ _ _)⟩
      case round =>
        clear HW1
        obtain ⟨k, hk, rfl, rfl, HW1, O1⟩ := hrel
        obtain ⟨wb, rfl⟩ : ∃ wb, wb = wr := ⟨_, rfl⟩
        by_cases hlt : k < n
        · have hkn : (k : Int) < n := by omega
          have hk0 : (0 : Int) ≤ k := by omega
          have R := Lib.hid (HZ.out wb (HV.out.mono HW1.out) k (by omega))
          have d1 : wb.cell? ⟨b, o + k * 13, none⟩ = some (.int .i64 (nmG ps k)) := rg_at0 R.out
          have d2 := (KX.out.bw HW1.out).cell HPX0.out
          rcases Nat.lt_trichotomy k i with hki | hki | hki
          · have HS := Lib.hid (HAO0.out k hlt (by omega))
            have h8 := HLO.out k hki
            have hne : (nmG ps k == x 0) = false := by simp; omega
            have hgt : ¬ x 0 < nmG ps k := by omega
            have hdn : decide (i < k) = false := decide_eq_false (by omega)
            generalize nmG ps k = p at d1 hne hgt h8
            generalize x 0 = xn at *
            go_upto_region 13 with fail
            have e1 := fun p' : Ext wb => Ext.cell' d1 p'
            have e2 := fun p' : Ext wb => Ext.cell' d2 p'
            (refine wp_region_quiet_ext (by kernel_rfl) (by kernel_rfl) ?_; (repeat (go_big_quiet_step ((fail)))); refine wpQuiet_nil ?_; rintro wq ⟨⟨_, hbq⟩, rfl⟩; obtain ⟨hccq, hffq⟩ := Bw.cells hbq; have hszq := Bw.size hbq)
            replace d1 := hbq.cell' d1
            replace d2 := hbq.cell' d2
            replace O1 := Lib.hid (own_bw O1.out hbq)
            replace R := Lib.hid (rg_bw R.out hbq)
            replace HW1 := Lib.hid (HW1.out.trans hbq)
            clear e1 e2 hbq hccq hffq hszq
            go_upto_region 18 with fail
            have e1 := fun p' : Ext wq => Ext.cell' d1 p'
            have e2 := fun p' : Ext wq => Ext.cell' d2 p'
            (refine wp_region_quiet_ext (by kernel_rfl) (by kernel_rfl) ?_; (repeat (go_big_quiet_step ((fail)))); refine wpQuiet_nil ?_; rintro wp ⟨⟨_, hbq⟩, rfl⟩; obtain ⟨hccq, hffq⟩ := Bw.cells hbq; have hszq := Bw.size hbq)
            replace d1 := hbq.cell' d1
            replace d2 := hbq.cell' d2
            replace O1 := Lib.hid (own_bw O1.out hbq)
            replace R := Lib.hid (rg_bw R.out hbq)
            replace HW1 := Lib.hid (HW1.out.trans hbq)
            clear e1 e2 hbq hccq hffq hszq
            obtain ⟨y, hy⟩ : ∃ y, (ps.getD k fun _ => 0) = y := ⟨_, rfl⟩
            rw [hy] at HS R
            clear hy
            have hfy := HFP.out y
            have hy13 : (pgV y).size = 13 := rfl
            have NB := Lib.hid (Blk.new wp 27 (pgV y))
            have hba := Bw.alloc (Bw.refl wp) (.cells (pgV y) 27)
            have O2 := Lib.hid (own_bw O1.out hba)
            have HW2 := Lib.hid (HW1.out.trans hba)
            clear hba
            have NBX := Lib.hid (blk_rg (cs := pgc y) NB.out)
            go_wp2_with (first | ((with_reducible refine at_load 27 (.tmp 30) ?_); refine wpList_load_pg rfl (.tmp 30) rfl b (o + k * 13) (by simp [Act.eval, Act.put]) R.out ?_) | (at_builtin; refine wpList_append_pgs rfl (.tmp 27) (.tmp 32) _ rfl BB Tryd.underlying24 _ (ACC k) [y] rfl O2.out wp.heap.size 0 1 rfl (rg_one NBX.out) (by have := HLN0.out k; simp; omega) (by have := HW2.out.size; have := HBB.out; omega) ?_; intro v8 w8 hown hgr hni; replace HW1 := Lib.hid (bw_grownN HBB.out HW2.out O2.out hgr); replace O1 := Lib.hid hown; clear hown hgr hni))
            go_roundw
            case rel => exact ⟨k + 1, by omega, by go_num, by first | (simp; done) | (simp; omega), HW1, Lib.hid (by rw [HS.out]; exact O1.out)⟩
            case measure => simp [intOf]; omega
          · subst hki
            have hdn : decide (k < k) = false := decide_eq_false (by omega)
            rcases HM.out hlt with ⟨hn, rfl⟩ | ⟨hn, hq, rfl⟩ | ⟨hn, hq, rfl⟩
            · have HS := Lib.hid (show ACC (k + 1) = ACC k ++ [x, ps.getD k fun _ => 0] by rw [← HAC.out]; exact HI0.out hlt)
              have h8 := HEQ.out hlt
              have hne : (nmG ps k == x 0) = false := by simpa using hn
              have hgt : x 0 < nmG ps k := by omega
              clear HM HLO HHI HEQ HI0 HI1 HI2 AR
              generalize nmG ps k = p at d1 hne hgt h8 hn
              generalize x 0 = xn at *
              go_upto_region 13 with fail
              have e1 := fun p' : Ext wb => Ext.cell' d1 p'
              have e2 := fun p' : Ext wb => Ext.cell' d2 p'
              (refine wp_region_quiet_ext (by kernel_rfl) (by kernel_rfl) ?_; (repeat (go_big_quiet_step ((fail)))); refine wpQuiet_nil ?_; rintro wq ⟨⟨_, hbq⟩, rfl⟩; obtain ⟨hccq, hffq⟩ := Bw.cells hbq; have hszq := Bw.size hbq)
              replace d1 := hbq.cell' d1
              replace d2 := hbq.cell' d2
              replace O1 := Lib.hid (own_bw O1.out hbq)
              replace R := Lib.hid (rg_bw R.out hbq)
              replace HW1 := Lib.hid (HW1.out.trans hbq)
              clear e1 e2 hbq hccq hffq hszq
              go_upto_region 18 with fail
              have e1 := fun p' : Ext wq => Ext.cell' d1 p'
              have e2 := fun p' : Ext wq => Ext.cell' d2 p'
              (refine wp_region_quiet_ext (by kernel_rfl) (by kernel_rfl) ?_; (repeat (go_big_quiet_step ((fail)))); refine wpQuiet_nil ?_; rintro wp ⟨⟨_, hbq⟩, rfl⟩; obtain ⟨hccq, hffq⟩ := Bw.cells hbq; have hszq := Bw.size hbq)
              replace d1 := hbq.cell' d1
              replace d2 := hbq.cell' d2
              replace O1 := Lib.hid (own_bw O1.out hbq)
              replace R := Lib.hid (rg_bw R.out hbq)
              replace HW1 := Lib.hid (HW1.out.trans hbq)
              clear e1 e2 hbq hccq hffq hszq
              have HS1 := HS
              obtain ⟨y, hy⟩ : ∃ y, (ps.getD k fun _ => 0) = y := ⟨_, rfl⟩
              rw [hy] at HS R
              have HY := Lib.hid hy
              clear hy HS1
              go_upto_region 20 with fail
              have O1d := own_bw O1.out (Bw.drew (Bw.refl wp))
              refine wp_region_held_drew (S := Bw W0) (by kernel_rfl) HW1.out.drew (fun hS => ?_)
              generalize World.drew _ = wd at hS O1d ⊢
              replace O1 := Lib.hid O1d
              clear O1d
              have hkm : k < n := hlt
              refine take1 (i := 0) (some 77) rfl rfl (by kernel_rfl) (by kernel_rfl) (by kernel_rfl) (fun _ _ _ _ h => h) rfl hS ?_
              apply Exists.intro
              apply And.intro
              · intro W9 hW9; skip; go_simp; try with_reducible rfl
              simp only [Act.put, List.setIfInBounds_toArray, List.set_cons_zero, List.set_cons_succ]
              refine take1 (i := 1) (some 78) rfl rfl (by kernel_rfl) (by kernel_rfl) (by kernel_rfl) (fun _ _ _ _ h => h) rfl hS ?_
              refine Exists.intro (.agg A) ?_
              apply And.intro
              · intro W9 hW9; skip; exact run_load_row 27 _ rfl g (by simp [Act.eval, Act.put, HG.out]) 27 A _ (KX.out.bw hW9) Tryd.underlying27 rfl HSZ.out
              simp only [Act.put, List.setIfInBounds_toArray, List.set_cons_zero, List.set_cons_succ]
              refine take1 (i := 2) (some 79) rfl rfl (by kernel_rfl) (by kernel_rfl) (by kernel_rfl) (fun _ _ _ _ h => h) rfl hS ?_
              apply Exists.intro
              apply And.intro
              · intro W9 hW9; skip; go_simp; try with_reducible rfl
              simp only [Act.put, List.setIfInBounds_toArray, List.set_cons_zero, List.set_cons_succ]
              refine take1 (i := 3) (some 80) rfl rfl (by kernel_rfl) (by kernel_rfl) (by kernel_rfl) (fun _ _ _ _ h => h) rfl hS ?_
              apply Exists.intro
              apply And.intro
              · intro W9 hW9; skip; go_simp; try with_reducible rfl
              simp only [Act.put, List.setIfInBounds_toArray, List.set_cons_zero, List.set_cons_succ]
              refine take1 (i := 4) (some 81) rfl rfl (by kernel_rfl) (by kernel_rfl) (by kernel_rfl) (fun _ _ _ _ h => h) rfl hS ?_
              apply Exists.intro
              apply And.intro
              · intro W9 hW9; skip; go_simp; try with_reducible rfl
              simp only [Act.put, List.setIfInBounds_toArray, List.set_cons_zero, List.set_cons_succ]
              refine take1 (i := 5) (some 82) rfl rfl (by kernel_rfl) (by kernel_rfl) (by kernel_rfl) (fun _ _ _ _ h => h) rfl hS ?_
              refine Exists.intro (.agg (pgV y)) ?_
              apply And.intro
              · intro W9 hW9; skip; exact run_load_pg _ rfl b (o + k * 13) (by simp [Act.eval, Act.put]) (HY.out ▸ HZ.out W9 (HV.out.mono hW9) k hkm)
              simp only [Act.put, List.setIfInBounds_toArray, List.set_cons_zero, List.set_cons_succ]
              refine wpAnyH_ready (rs := [6]) (by kernel_rfl) (by simp) ?_
              refine AllReadyH.cons rfl (fun K hK => ?_) ?_
              rw [if_pos (by rfl)]
              refine wp_build2 24 _ _ rfl (some 83) rfl Tryd.underlying24 x y (show Value.agg A = .agg (pgV x) by rw [HXA.out]) rfl ?_
              simp only [Act.put, List.setIfInBounds_toArray, List.set_cons_zero, List.set_cons_succ]
              have NBX := Lib.hid (blk_rg (cs := pgc x ++ pgc y) (Blk.new wd 27 (pgc x ++ pgc y).toArray))
              have hba := Bw.alloc (Bw.refl wd) (.cells (pgc x ++ pgc y).toArray 27)
              have O2 := Lib.hid (own_bw O1.out hba)
              have HB2 := Lib.hid (rfl : wd.heap.size = wd.heap.size)
              obtain ⟨vb, hvb⟩ : ∃ vb, wd.heap.size = vb := ⟨_, rfl⟩
              rw [hvb] at NBX ⊢
              replace hS := hS.trans hba
              generalize World.alloc wd _ = we at *
              refine hK.out _ _ hS (fun hS => ?_)
              clear hK K hba hvb
              refine wpAnyH_ready (rs := [7]) (by kernel_rfl) (by simp) ?_
              refine AllReadyH.cons rfl (fun K hK => ?_) ?_
              rw [if_pos (by rfl)]
              refine wp_append_pgs (.tmp 77) (.tmp 83) _ rfl (some 84) rfl BB Tryd.underlying24 _ (ACC k) [x, y] rfl O2.out vb 0 2 rfl (rg_two NBX.out) (by have := HLN0.out k; simp; omega) (by have := hS.size; have := HBB.out; omega) ?_
              intro v8 w8 hown hgr hni
              simp only [Act.put, List.setIfInBounds_toArray, List.set_cons_zero, List.set_cons_succ]
              refine hK.out _ _ (bw_grownN HBB.out hS O2.out hgr) (fun hS => ?_)
              replace O1 := Lib.hid hown
              clear hK K hgr hni hown
              refine take1 (i := 8) (some 8) rfl rfl (by kernel_rfl) (by kernel_rfl) (by kernel_rfl) (fun _ _ _ _ h => h) rfl hS ?_
              apply Exists.intro
              apply And.intro
              · intro W9 hW9; skip; go_simp; try with_reducible rfl
              simp only [Act.put, List.setIfInBounds_toArray, List.set_cons_zero, List.set_cons_succ]
              refine wpAnyH_done (by kernel_rfl) ?_ _
              rotate_left
              exact AllReadyH.nil
              exact AllReadyH.nil
              replace HW1 := Lib.hid hS
              go_wp2
              go_roundw
              case rel => exact ⟨k + 1, by omega, by go_num, by first | (simp; done) | (simp; omega), HW1, Lib.hid (by rw [HS.out]; exact O1.out)⟩
              case measure => simp [intOf]; omega
            · have HS := Lib.hid (show ACC (k + 1) = ACC k ++ [x] by rw [← HAC.out]; exact HI1.out hlt)
              obtain ⟨hwr, har⟩ := AR.out hlt
              have HAR := Lib.hid har
              have heq : (nmG ps k == x 0) = true := by simpa using hn
              have d3 : wb.cell? ⟨b, o + k * 13 + 1, none⟩ = some (.int .i64 ((ps.getD k fun _ => 0) 1)) := rg_at1 R.out
              have d4 := (KX.out.bw HW1.out).cell HPX1.out
              clear har HM HLO HHI HEQ HI0 HI1 HI2 AR
              obtain ⟨y1, hy1⟩ : ∃ y1, (ps.getD k fun _ => 0) 1 = y1 := ⟨_, rfl⟩
              rw [hy1] at hwr HAR hq d3
              obtain ⟨x1, hx1⟩ : ∃ x1, x 1 = x1 := ⟨_, rfl⟩
              rw [hx1] at hwr HAR hq d4
              obtain ⟨q, hqq⟩ : ∃ q, arQ (x1 - y1) = q := ⟨_, rfl⟩
              rw [hqq] at HAR hq
              obtain ⟨p, hpp⟩ : ∃ p, nmG ps k = p := ⟨_, rfl⟩
              rw [hpp] at d1 heq hn
              obtain ⟨xn, hxn⟩ : ∃ xn, x 0 = xn := ⟨_, rfl⟩
              rw [hxn] at d2 heq hn
              clear hy1 hx1 hqq hpp hxn
              go_upto_region 13 with fail
              have e1 := fun p' : Ext wb => Ext.cell' d1 p'
              have e2 := fun p' : Ext wb => Ext.cell' d2 p'
              (refine wp_region_quiet_ext (by kernel_rfl) (by kernel_rfl) ?_; (repeat (go_big_quiet_step ((fail)))); refine wpQuiet_nil ?_; rintro wq ⟨⟨_, hbq⟩, rfl⟩; obtain ⟨hccq, hffq⟩ := Bw.cells hbq; have hszq := Bw.size hbq)
              replace d3 := hbq.cell' d3
              replace d4 := hbq.cell' d4
              replace d1 := hbq.cell' d1
              replace d2 := hbq.cell' d2
              replace O1 := Lib.hid (own_bw O1.out hbq)
              replace R := Lib.hid (rg_bw R.out hbq)
              replace HW1 := Lib.hid (HW1.out.trans hbq)
              clear e1 e2 hbq hccq hffq hszq
              go_upto_region 15 with fail
              have e3 := fun p' : Ext wq => Ext.cell' d3 p'
              have e4 := fun p' : Ext wq => Ext.cell' d4 p'
              (refine wp_region_quiet_ext (by kernel_rfl) (by kernel_rfl) ?_; (repeat (go_big_quiet_step (((go_at_call 47; with_reducible exact Calls.ext_of (HAR.out _)))))); refine wpQuiet_nil ?_; rintro wp ⟨⟨_, hbq⟩, rfl⟩; obtain ⟨hccq, hffq⟩ := Bw.cells hbq; have hszq := Bw.size hbq)
              replace d1 := hbq.cell' d1
              replace d2 := hbq.cell' d2
              replace O1 := Lib.hid (own_bw O1.out hbq)
              replace R := Lib.hid (rg_bw R.out hbq)
              replace HW1 := Lib.hid (HW1.out.trans hbq)
              clear e3 e4 hbq hccq hffq hszq
              have NB := Lib.hid (Blk.new wp 27 A)
              have hba := Bw.alloc (Bw.refl wp) (.cells A 27)
              have O2 := Lib.hid (own_bw O1.out hba)
              have HW2 := Lib.hid (HW1.out.trans hba)
              clear hba
              have NBX := Lib.hid (show (World.alloc wp (.cells A 27)).rangeAt wp.heap.size 0 (pgc x) from by have h9 := NB.out; rw [HXA.out] at h9 ⊢; exact blk_rg (cs := pgc x) h9)
              go_wp2_with (first | ((with_reducible refine at_load 27 (.tmp 3) ?_); refine wpList_load_row rfl 27 (.tmp 3) rfl g (by simp [Act.eval, Act.put, HG.out]) 27 A (0, 0) _ (KX.out.bw HW1.out) Tryd.underlying27 rfl HSZ.out ?_) | (at_builtin; refine wpList_append_pgs rfl (.tmp 53) (.tmp 55) _ rfl BB Tryd.underlying24 _ (ACC k) [x] rfl O2.out wp.heap.size 0 1 rfl (rg_one NBX.out) (by have := HLN0.out k; simp; omega) (by have := HW2.out.size; have := HBB.out; omega) ?_; intro v8 w8 hown hgr hni; replace HW1 := Lib.hid (bw_grownN HBB.out HW2.out O2.out hgr); replace O1 := Lib.hid hown; clear hown hgr hni))
              go_roundw
              case rel => exact ⟨k + 1, by omega, by go_num, by first | (simp; done) | (simp; omega), HW1, Lib.hid (by rw [HS.out]; exact O1.out)⟩
              case measure => simp [intOf]; omega
            · have HS := Lib.hid (show ACC (k + 1) = ACC k ++ [ps.getD k fun _ => 0] by rw [← HAC.out]; exact HI2.out hlt)
              obtain ⟨hwr, har⟩ := AR.out hlt
              have HAR := Lib.hid har
              have heq : (nmG ps k == x 0) = true := by simpa using hn
              have d3 : wb.cell? ⟨b, o + k * 13 + 1, none⟩ = some (.int .i64 ((ps.getD k fun _ => 0) 1)) := rg_at1 R.out
              have d4 := (KX.out.bw HW1.out).cell HPX1.out
              clear har HM HLO HHI HEQ HI0 HI1 HI2 AR
              obtain ⟨y1, hy1⟩ : ∃ y1, (ps.getD k fun _ => 0) 1 = y1 := ⟨_, rfl⟩
              rw [hy1] at hwr HAR hq d3
              obtain ⟨x1, hx1⟩ : ∃ x1, x 1 = x1 := ⟨_, rfl⟩
              rw [hx1] at hwr HAR hq d4
              obtain ⟨q, hqq⟩ : ∃ q, arQ (x1 - y1) = q := ⟨_, rfl⟩
              rw [hqq] at HAR hq
              obtain ⟨p, hpp⟩ : ∃ p, nmG ps k = p := ⟨_, rfl⟩
              rw [hpp] at d1 heq hn
              obtain ⟨xn, hxn⟩ : ∃ xn, x 0 = xn := ⟨_, rfl⟩
              rw [hxn] at d2 heq hn
              have hqn : ¬ (0 : Int) ≤ q := by omega
              clear hq
              clear hy1 hx1 hqq hpp hxn
              go_upto_region 13 with fail
              have e1 := fun p' : Ext wb => Ext.cell' d1 p'
              have e2 := fun p' : Ext wb => Ext.cell' d2 p'
              (refine wp_region_quiet_ext (by kernel_rfl) (by kernel_rfl) ?_; (repeat (go_big_quiet_step ((fail)))); refine wpQuiet_nil ?_; rintro wq ⟨⟨_, hbq⟩, rfl⟩; obtain ⟨hccq, hffq⟩ := Bw.cells hbq; have hszq := Bw.size hbq)
              replace d3 := hbq.cell' d3
              replace d4 := hbq.cell' d4
              replace d1 := hbq.cell' d1
              replace d2 := hbq.cell' d2
              replace O1 := Lib.hid (own_bw O1.out hbq)
              replace R := Lib.hid (rg_bw R.out hbq)
              replace HW1 := Lib.hid (HW1.out.trans hbq)
              clear e1 e2 hbq hccq hffq hszq
              go_upto_region 15 with fail
              have e3 := fun p' : Ext wq => Ext.cell' d3 p'
              have e4 := fun p' : Ext wq => Ext.cell' d4 p'
              (refine wp_region_quiet_ext (by kernel_rfl) (by kernel_rfl) ?_; (repeat (go_big_quiet_step (((go_at_call 47; with_reducible exact Calls.ext_of (HAR.out _)))))); refine wpQuiet_nil ?_; rintro wp ⟨⟨_, hbq⟩, rfl⟩; obtain ⟨hccq, hffq⟩ := Bw.cells hbq; have hszq := Bw.size hbq)
              replace d1 := hbq.cell' d1
              replace d2 := hbq.cell' d2
              replace O1 := Lib.hid (own_bw O1.out hbq)
              replace R := Lib.hid (rg_bw R.out hbq)
              replace HW1 := Lib.hid (HW1.out.trans hbq)
              clear e3 e4 hbq hccq hffq hszq
              obtain ⟨y, hy⟩ : ∃ y, (ps.getD k fun _ => 0) = y := ⟨_, rfl⟩
              rw [hy] at HS R
              clear hy
              have hfy := HFP.out y
              have hy13 : (pgV y).size = 13 := rfl
              have NB := Lib.hid (Blk.new wp 27 (pgV y))
              have hba := Bw.alloc (Bw.refl wp) (.cells (pgV y) 27)
              have O2 := Lib.hid (own_bw O1.out hba)
              have HW2 := Lib.hid (HW1.out.trans hba)
              clear hba
              have NBX := Lib.hid (blk_rg (cs := pgc y) NB.out)
              go_wp2_with (first | ((with_reducible refine at_load 27 (.tmp 60) ?_); refine wpList_load_pg rfl (.tmp 60) rfl b (o + k * 13) (by simp [Act.eval, Act.put]) R.out ?_) | (at_builtin; refine wpList_append_pgs rfl (.tmp 57) (.tmp 62) _ rfl BB Tryd.underlying24 _ (ACC k) [y] rfl O2.out wp.heap.size 0 1 rfl (rg_one NBX.out) (by have := HLN0.out k; simp; omega) (by have := HW2.out.size; have := HBB.out; omega) ?_; intro v8 w8 hown hgr hni; replace HW1 := Lib.hid (bw_grownN HBB.out HW2.out O2.out hgr); replace O1 := Lib.hid hown; clear hown hgr hni))
              go_roundw
              case rel => exact ⟨k + 1, by omega, by go_num, by first | (simp; done) | (simp; omega), HW1, Lib.hid (by rw [HS.out]; exact O1.out)⟩
              case measure => simp [intOf]; omega
          · have HS := Lib.hid (HAO0.out k hlt (by omega))
            have h8 := HHI.out k hki hlt
            have hne : (nmG ps k == x 0) = false := by simp; omega
            have hgt : x 0 < nmG ps k := by omega
            have hdn : decide (i < k) = true := decide_eq_true (by omega)
            generalize nmG ps k = p at d1 hne hgt h8
            generalize x 0 = xn at *
            go_upto_region 13 with fail
            have e1 := fun p' : Ext wb => Ext.cell' d1 p'
            have e2 := fun p' : Ext wb => Ext.cell' d2 p'
            (refine wp_region_quiet_ext (by kernel_rfl) (by kernel_rfl) ?_; (repeat (go_big_quiet_step ((fail)))); refine wpQuiet_nil ?_; rintro wq ⟨⟨_, hbq⟩, rfl⟩; obtain ⟨hccq, hffq⟩ := Bw.cells hbq; have hszq := Bw.size hbq)
            replace d1 := hbq.cell' d1
            replace d2 := hbq.cell' d2
            replace O1 := Lib.hid (own_bw O1.out hbq)
            replace R := Lib.hid (rg_bw R.out hbq)
            replace HW1 := Lib.hid (HW1.out.trans hbq)
            clear e1 e2 hbq hccq hffq hszq
            go_upto_region 18 with fail
            have e1 := fun p' : Ext wq => Ext.cell' d1 p'
            have e2 := fun p' : Ext wq => Ext.cell' d2 p'
            (refine wp_region_quiet_ext (by kernel_rfl) (by kernel_rfl) ?_; (repeat (go_big_quiet_step ((fail)))); refine wpQuiet_nil ?_; rintro wp ⟨⟨_, hbq⟩, rfl⟩; obtain ⟨hccq, hffq⟩ := Bw.cells hbq; have hszq := Bw.size hbq)
            replace d1 := hbq.cell' d1
            replace d2 := hbq.cell' d2
            replace O1 := Lib.hid (own_bw O1.out hbq)
            replace R := Lib.hid (rg_bw R.out hbq)
            replace HW1 := Lib.hid (HW1.out.trans hbq)
            clear e1 e2 hbq hccq hffq hszq
            obtain ⟨y, hy⟩ : ∃ y, (ps.getD k fun _ => 0) = y := ⟨_, rfl⟩
            rw [hy] at HS R
            clear hy
            have hfy := HFP.out y
            have hy13 : (pgV y).size = 13 := rfl
            have NB := Lib.hid (Blk.new wp 27 (pgV y))
            have hba := Bw.alloc (Bw.refl wp) (.cells (pgV y) 27)
            have O2 := Lib.hid (own_bw O1.out hba)
            have HW2 := Lib.hid (HW1.out.trans hba)
            clear hba
            have NBX := Lib.hid (blk_rg (cs := pgc y) NB.out)
            go_wp2_with (first | ((with_reducible refine at_load 27 (.tmp 30) ?_); refine wpList_load_pg rfl (.tmp 30) rfl b (o + k * 13) (by simp [Act.eval, Act.put]) R.out ?_) | (at_builtin; refine wpList_append_pgs rfl (.tmp 27) (.tmp 32) _ rfl BB Tryd.underlying24 _ (ACC k) [y] rfl O2.out wp.heap.size 0 1 rfl (rg_one NBX.out) (by have := HLN0.out k; simp; omega) (by have := HW2.out.size; have := HBB.out; omega) ?_; intro v8 w8 hown hgr hni; replace HW1 := Lib.hid (bw_grownN HBB.out HW2.out O2.out hgr); replace O1 := Lib.hid hown; clear hown hgr hni))
            go_roundw
            case rel => exact ⟨k + 1, by omega, by go_num, by first | (simp; done) | (simp; omega), HW1, Lib.hid (by rw [HS.out]; exact O1.out)⟩
            case measure => simp [intOf]; omega
        · obtain rfl : k = n := by omega
          by_cases hin : i < k
          · have HS := Lib.hid (HEN.out hin)
            have hdn : decide (i < k) = true := decide_eq_true hin
            go_wp2
            refine bodyPost_ret (v := .tuple #[_, .int .i64 0]) ?_ rfl ⟨⟨_, rfl, own_down (by rw [← HS.out]; exact O1.out) (by have := HW.out.size; have := HBB.out; omega)⟩, HW.out.trans HW1.out⟩
            simp [results, Tryd.results27, go_sem]
          · obtain rfl : i = k := by omega
            have HS := Lib.hid (HTL.out rfl)
            have hdn : decide (i < i) = false := decide_eq_false (by omega)
            have NB := Lib.hid (Blk.new wb 27 A)
            have hba := Bw.alloc (Bw.refl wb) (.cells A 27)
            have O2 := Lib.hid (own_bw O1.out hba)
            have HW2 := Lib.hid (HW1.out.trans hba)
            clear hba
            have NBX := Lib.hid (show (World.alloc wb (.cells A 27)).rangeAt wb.heap.size 0 (pgc x) from by have h9 := NB.out; rw [HXA.out] at h9 ⊢; exact blk_rg (cs := pgc x) h9)
            go_wp2_with (first | ((with_reducible refine at_load 27 (.tmp 3) ?_); refine wpList_load_row rfl 27 (.tmp 3) rfl g (by simp [Act.eval, Act.put, HG.out]) 27 A (0, 0) _ (KX.out.bw HW1.out) Tryd.underlying27 rfl HSZ.out ?_) | (at_builtin; refine wpList_append_pgs rfl (.tmp 87) (.tmp 89) _ rfl BB Tryd.underlying24 _ (ACC i) [x] rfl O2.out wb.heap.size 0 1 rfl (rg_one NBX.out) (by have := HLN0.out i; simp; omega) (by have := HW2.out.size; have := HBB.out; omega) ?_; intro v8 w8 hown hgr hni; replace HW1 := Lib.hid (bw_grownN HBB.out HW2.out O2.out hgr); replace O1 := Lib.hid hown; clear hown hgr hni))
            refine bodyPost_ret (v := .tuple #[_, .int .i64 0]) ?_ rfl ⟨⟨_, rfl, own_down (by rw [← HS.out]; exact O1.out) (by have := HW.out.size; have := HBB.out; omega)⟩, HW.out.trans HW1.out⟩
            simp [results, Tryd.results27, go_sem]
    · have hn0 : ps.length = 0 := by omega
      obtain ⟨va, vc, hv0⟩ := HV.out.form
      rw [hn0] at hv0 HTL hip
      have HS := Lib.hid (show [] ++ [x] = AL by have h9 := HTL.out (by omega); rw [HA00.out] at h9; exact h9)
      subst hv0
      clear HEN HTL HHI HEQ HM HI0 HI1 HI2 AR HAO0 HLN0 HLO hip
      obtain ⟨A, hA⟩ : ∃ A, A = pgV x := ⟨_, rfl⟩
      have HXA := Lib.hid hA
      rw [← hA] at KX hW0 CK HSZ HPX HPX0 HPX1 HA13 hfx ⊢
      clear hA
      have hA13 := HA13.out
      go_enter Tryd.func27, Tryd.ntmps27
      go_upto_region 1 with fail
      clear hW0
      go_wp2_with (first | (go_at_call 55; (with_reducible refine Calls.mono (WH.out _ HV.out) ?_); rintro e1 w1 ⟨rfl, hb1⟩; replace HW1 := Lib.hid (HW1.out.trans hb1); clear hb1) | ((with_reducible refine at_load 27 (.tmp 3) ?_); refine wpList_load_row rfl 27 (.tmp 3) rfl g (by simp [Act.eval, Act.put, HG.out]) 27 A (0, 0) _ (KX.out.bw HW1.out) Tryd.underlying27 rfl HSZ.out ?_) | (go_at_call 23; (with_reducible refine Calls.mono (CK.out _) ?_); rintro e1 w2 ⟨rfl, hb1⟩; replace HW1 := Lib.hid (HW1.out.trans hb1); clear hb1))
      go_loopw [8, 9, 10] (fun s8 s9 s10 wr => s10 = .int .i64 0 ∧ s9 = .bool false ∧ s8 = .slice none 0 0 ∧ Hid (Bw W0 wr)) (fun _ _ _ _ => 0)
      case atStart => exact ⟨rfl, rfl, rfl, HW1⟩
      case round =>
        clear HW1
        obtain ⟨rfl, rfl, rfl, HW1⟩ := hrel
        obtain ⟨wb, rfl⟩ : ∃ wb, wb = wr := ⟨_, rfl⟩
        have O1 : Hid (wb.ownsRow BB 27 13 (.slice none 0 0) 0 (flatG [])) := Lib.hid (World.ownsRow_nil _ _ _ _)
        have NB := Lib.hid (Blk.new wb 27 A)
        have hba := Bw.alloc (Bw.refl wb) (.cells A 27)
        have O2 := Lib.hid (own_bw O1.out hba)
        have HW2 := Lib.hid (HW1.out.trans hba)
        clear hba
        have NBX := Lib.hid (show (World.alloc wb (.cells A 27)).rangeAt wb.heap.size 0 (pgc x) from by have h9 := NB.out; rw [HXA.out] at h9 ⊢; exact blk_rg (cs := pgc x) h9)
        go_wp2_with (first | ((with_reducible refine at_load 27 (.tmp 3) ?_); refine wpList_load_row rfl 27 (.tmp 3) rfl g (by simp [Act.eval, Act.put, HG.out]) 27 A (0, 0) _ (KX.out.bw HW1.out) Tryd.underlying27 rfl HSZ.out ?_) | (at_builtin; refine wpList_append_pgs rfl (.tmp 87) (.tmp 89) _ rfl BB Tryd.underlying24 _ [] [x] rfl O2.out wb.heap.size 0 1 rfl (rg_one NBX.out) (by simp) (by have := HW2.out.size; have := HBB.out; omega) ?_; intro v8 w8 hown hgr hni; replace HW1 := Lib.hid (bw_grownN HBB.out HW2.out O2.out hgr); replace O1 := Lib.hid hown; clear hown hgr hni))
        refine bodyPost_ret (v := .tuple #[_, .int .i64 0]) ?_ rfl ⟨⟨_, rfl, own_down (by rw [← HS.out]; exact O1.out) (by have := HW.out.size; have := HBB.out; omega)⟩, HW.out.trans HW1.out⟩
        simp [results, Tryd.results27, go_sem]
end Go.Proofs.Sky

namespace Go.Proofs.Sky
open Go Go.RowKit Go.Shelf
set_option maxHeartbeats 4000000
set_option maxRecDepth 4000
/-! chapter 27, plain: which page any frame is -/
def rv27 (zs : List Int) (i : Nat) : Int := if 3 < i ∧ zs.getD (atN i) 0 = 1 then getN zs (atN i) (nN i) - 2 ^ nN i else getN zs (atN i) (nN i)
theorem getN_head (zs : List Int) (a : Nat) : ∀ k, getN zs a (k + 1) = zs.getD a 0 * 2 ^ k + getN zs (a + 1) k := by
  intro k
  induction k with
  | zero => simp [getN]
  | succ k ih =>
    rw [getN, ih]
    show _ = _ * 2 ^ (k + 1) + (2 * getN zs (a + 1) k + zs.getD (a + 1 + k) 0)
    rw [show a + (k + 1) = a + 1 + k by omega, Int.pow_succ, ← Int.mul_assoc]
    omega
theorem rv27_get (zs : List Int) (i : Nat) (hi : i < 13) (hl : 200 ≤ zs.length) (hb : ∀ p, p < 200 → zs.getD p 0 = 0 ∨ zs.getD p 0 = 1) :
    errT zs (fdS PGL i).a (fdS PGL i).n (fdS PGL i).u (fdS PGL i).c = 0 ∧ getR zs (fdS PGL i).a (fdS PGL i).n (fdS PGL i).g (fdS PGL i).u (fdS PGL i).c = rv27 zs i := by
  have hA := nN_bd i hi
  rw [fdS_at hi]
  dsimp only
  have hfk : fk (atN i : Int) (nN i : Int) 1 0 := by unfold fk; omega
  have hE : errT zs (atN i : Int) (nN i : Int) 1 0 = 0 := by
    unfold errT
    rw [errF_ok hfk, if_pos rfl, if_neg (by omega), if_pos ((oksP_iff _ _ _).2 (fun j hj => ?_))]
    exact hb _ (by omega)
  refine ⟨hE, ?_⟩
  unfold getR
  rw [if_pos hE]
  unfold getV rv27
  rw [Int.toNat_natCast, Int.toNat_natCast, Int.mul_one, Int.zero_add]
  by_cases h7 : 3 < i
  · obtain ⟨m, hm⟩ : ∃ m, nN i = m + 1 := ⟨nN i - 1, by omega⟩
    have e2 := getN_head zs (atN i) m
    have hbd := getN_bd zs (atN i + 1) m (fun j hj => hb _ (by omega))
    have h0 := hb (atN i) (by omega)
    rw [hm]
    simp only [h7, decide_true, sgnV, if_true, true_and]
    unfold sx
    rw [show m + 1 - 1 = m from rfl]
    have e4 : (2 : Int) ^ (m + 1) = 2 * 2 ^ m := by rw [Int.pow_succ, Int.mul_comm]
    rw [e4]
    generalize (2 : Int) ^ m = P at *
    rcases h0 with h0 | h0
    · rw [h0] at e2 ⊢
      rw [if_neg (show ¬ ((0 : Int) = 1) by decide)]
      split <;> omega
    · rw [h0] at e2 ⊢
      rw [if_pos (show (1 : Int) = 1 from rfl)]
      split <;> omega
  · simp only [h7, decide_false, sgnV, Bool.false_eq_true, if_false, false_and]
theorem unR_zero (zs : List Int) : ∀ (fs : List Fd) (i : Nat) (out : List Int), (unR i zs out fs).2.1 = 0 → ∀ f ∈ fs, errT zs f.a f.n f.u f.c = 0 := by
  intro fs
  induction fs with
  | nil => intro i out _ f hf; cases hf
  | cons f r ih =>
    intro i out h g hg
    rw [unR] at h
    by_cases he : errT zs f.a f.n f.u f.c = 0
    · rw [if_pos he] at h
      rcases List.mem_cons.1 hg with rfl | hg
      · exact he
      · exact ih _ _ h g hg
    · rw [if_neg he] at h
      exact absurd h he
def rdGood27 (t k : Int) (zs : List Int) : Prop := k = 4 ∧ 0 ≤ t ∧ t < 131072 ∧ zs.length = 206 ∧ (∀ p, p < 206 → zs.getD p 0 = 0 ∨ (zs.getD p 0 = 1 ∧ p < 200)) ∧ errPg (rv27 zs) = 0
theorem layout27 : layout (fdsS PGL) 206 = (0, 0) := by decide +kernel
theorem unpack27 (zs : List Int) (hl : zs.length = 206) (hb : ∀ p, p < 200 → zs.getD p 0 = 0 ∨ zs.getD p 0 = 1) : unpackR (fdsS PGL) zs = ((List.range 13).map (rv27 zs), (0, 0)) := by
  have h := unR_ok zs (ps27 (rv27 zs)) 0 [] (fun p hp => by
    obtain ⟨i, hi, rfl⟩ := List.mem_map.1 hp
    have hi9 := List.mem_range.1 hi
    have h9 := rv27_get zs i hi9 (by omega) hb
    refine ⟨h9.1, ?_⟩
    rw [h9.2]
    show rv27 zs i = (0 : Int) + rv27 zs i * 1
    omega)
  rw [fs27_eq, vs27_eq, List.nil_append] at h
  unfold unpackR
  rw [hl, show layout (fdsS PGL) ((206 : Nat) : Int) = (0, 0) from layout27, if_pos rfl, h]
theorem at_find : ∀ p, p < 200 → ∃ i, i < 13 ∧ atN i ≤ p ∧ p < atN i + nN i := by decide +kernel
theorem rdOk27_iff (t k : Int) (zs : List Int) : RdOk27 t k zs (unpackR (fdsS PGL) zs).1 (unpackR (fdsS PGL) zs).2.1 (fun i => (unpackR (fdsS PGL) zs).1.getD i 0) ↔ rdGood27 t k zs := by
  unfold RdOk27 rdGood27
  constructor
  · rintro ⟨h1, h2, h3, h4, h5, h6, h7⟩
    have hz : ∀ f ∈ fdsS PGL, errT zs f.a f.n f.u f.c = 0 := by
      unfold unpackR at h5
      rw [h4, show layout (fdsS PGL) ((206 : Nat) : Int) = (0, 0) from layout27, if_pos rfl] at h5
      exact unR_zero zs (fdsS PGL) 0 [] h5
    have hb : ∀ p, p < 200 → zs.getD p 0 = 0 ∨ zs.getD p 0 = 1 := fun p hp => by
      obtain ⟨i, hi, h8, h9⟩ := at_find p hp
      have hm : fdS PGL i ∈ fdsS PGL := List.mem_map.2 ⟨i, List.mem_range.2 hi, rfl⟩
      have he := hz _ hm
      have hA := nN_bd i hi
      rw [fdS_at hi] at he
      dsimp only at he
      have hfk : fk (atN i : Int) (nN i : Int) 1 0 := by unfold fk; omega
      unfold errT at he
      rw [errF_ok hfk, if_pos rfl, if_neg (by omega)] at he
      cases hq : oksP zs (atN i : Int).toNat (nN i : Int).toNat with
      | false => rw [hq] at he; exact absurd he (by decide)
      | true =>
        have h10 := (oksP_iff _ _ _).1 hq (p - atN i) (by omega)
        rw [Int.toNat_natCast, show atN i + (p - atN i) = p by omega] at h10
        exact h10
    rw [unpack27 zs h4 hb] at h6
    dsimp only at h6
    rw [errPg_congr (fun i hi => getD_map13 (rv27 zs) i hi)] at h6
    refine ⟨h1, h2, h3, h4, fun p hp => ?_, h6⟩
    rcases Nat.lt_or_ge p 200 with h | h
    · rcases hb p h with h8 | h8
      · exact .inl h8
      · exact .inr ⟨h8, h⟩
    · left
      have h12 := List.any_eq_false.1 h7 (zs.getD p 0) (by
        rw [List.getD_eq_getElem?_getD, List.getElem?_eq_getElem (by omega), Option.getD_some]
        exact List.mem_iff_getElem.2 ⟨p - 200, by rw [List.length_drop]; omega, by rw [List.getElem_drop]; congr 1; omega⟩)
      simpa using h12
  · rintro ⟨h1, h2, h3, h4, h5, h6⟩
    have hb : ∀ p, p < 200 → zs.getD p 0 = 0 ∨ zs.getD p 0 = 1 := fun p hp => (h5 p (by omega)).imp id (·.1)
    rw [unpack27 zs h4 hb]
    refine ⟨h1, h2, h3, h4, rfl, ?_, ?_⟩
    · dsimp only
      rw [errPg_congr (fun i hi => getD_map13 (rv27 zs) i hi)]; exact h6
    · rw [List.any_eq_false]
      intro d hd
      obtain ⟨j, hj, rfl⟩ := List.mem_iff_getElem.1 hd
      rw [List.length_drop] at hj
      rw [List.getElem_drop]
      have h9 := h5 (200 + j) (by omega)
      rw [List.getD_eq_getElem?_getD, List.getElem?_eq_getElem (by omega), Option.getD_some] at h9
      rcases h9 with h9 | h9
      · rw [h9]; decide
      · omega
theorem AlRead_any (t k : Int) (zs : List Int) (a : Option Addr) (c : Nat) (w : World) (hw : WdAt w) (RX : Nat → Int) (RE : Int) (h : (rdGood27 t k zs ∧ RX = rv27 zs ∧ RE = 0) ∨ (¬ rdGood27 t k zs ∧ RX = (fun _ => 0) ∧ RE = 3)) (hv : RdI w (.slice a zs.length c) zs) (hc : zs.length ≤ c ∧ c ≤ 9223372036854775807) :
    Calls Tryd.prog 25 #[.agg #[.int .i64 t, .int .i64 k, .slice a zs.length c]] w fun e w' => e = .returned (.tuple #[.agg (pgV RX), .int .i64 RE]) ∧ Bw w w' := by
  rcases h with ⟨h, rfl, rfl⟩ | ⟨h, rfl, rfl⟩
  · have h9 := AlRead_main t k zs (unpackR (fdsS PGL) zs).1 (unpackR (fdsS PGL) zs).2.1 (unpackR (fdsS PGL) zs).2.2 a c w hw (fun i => (unpackR (fdsS PGL) zs).1.getD i 0) (fun i => (unpackR (fdsS PGL) zs).1.getD i 0) 0 hv hc rfl (fun _ => rfl) (.inl ⟨(rdOk27_iff t k zs).2 h, rfl, rfl⟩)
    rw [pgV_congr2 (y := rv27 zs) (fun i hi => by rw [unpack27 zs h.2.2.2.1 (fun p hp => (h.2.2.2.2.1 p (by omega)).imp id (·.1))]; exact getD_map13 (rv27 zs) i hi)] at h9
    exact h9
  · exact AlRead_main t k zs (unpackR (fdsS PGL) zs).1 (unpackR (fdsS PGL) zs).2.1 (unpackR (fdsS PGL) zs).2.2 a c w hw (fun i => (unpackR (fdsS PGL) zs).1.getD i 0) (fun _ => 0) 3 hv hc rfl (fun _ => rfl) (.inr ⟨fun h2 => h ((rdOk27_iff t k zs).1 h2), rfl, rfl⟩)
end Go.Proofs.Sky

namespace Go.Proofs.Sky
open Go Go.RowKit Go.Shelf
set_option maxHeartbeats 4000000
set_option maxRecDepth 8000
/-! chapter 27: AlmanacKnown, closed facts -/
def plB27 : List Int := [0, 0, 0, 0, 1, 1, 1, 0, 0, 1, 0, 0, 1, 0, 0, 1, 1, 1, 1, 1, 0, 0, 0, 0, 0, 0, 0, 0, 0, 0, 0, 0, 0, 0, 0, 1, 1, 0, 0, 1, 0, 0, 0, 0, 0, 0, 0, 0, 0, 0, 0, 0, 1, 1, 1, 1, 1, 0, 1, 0, 0, 0, 0, 0, 0, 0, 0, 0, 0, 0, 0, 0, 0, 0, 0, 0, 0, 0, 0, 0, 0, 1, 0, 0, 0, 0, 0, 0, 0, 0, 0, 0, 0, 0, 1, 0, 0, 0, 0, 0, 0, 0, 0, 0, 0, 0, 1, 1, 0, 0, 0, 0, 0, 0, 0, 0, 0, 0, 0, 0, 0, 0, 0, 0, 0, 0, 0, 0, 0, 0, 0, 0, 0, 0, 0, 0, 0, 0, 0, 0, 0, 0, 0, 0, 0, 0, 0, 0, 0, 0, 0, 0, 0, 0, 0, 0, 0, 0, 0, 0, 0, 0, 0, 0, 0, 0, 0, 0, 0, 0, 0, 0, 0, 0, 0, 0, 0, 0, 0, 0, 0, 0, 0, 0, 0, 0, 0, 0, 0, 0, 0, 0, 0, 0, 0, 0, 0, 0, 0, 0, 0, 0, 0, 0, 0, 0]
theorem plB27_eq : FrQ plX27 = plB27 := by kernel_rfl
def onesL27 : List Int := [4, 5, 6, 9, 12, 15, 16, 17, 18, 19, 35, 36, 39, 52, 53, 54, 55, 56, 58, 81, 94, 106, 107]
def cntO27 : Nat → Nat
  | 0 => 0
  | i + 1 => cntO27 i + if plB27.getD i 0 = 1 then 1 else 0
def onesB27 : Bool := (List.range 206).all fun i => decide (plB27.getD i 0 = 1 → cntO27 i < 23 ∧ onesL27.getD (cntO27 i) 0 = (i : Int))
theorem ones27_ok : onesB27 = true := by kernel_rfl
theorem ones27_at {i : Nat} (hi : i < 206) (h : plB27.getD i 0 = 1) : cntO27 i < 23 ∧ onesL27.getD (cntO27 i) 0 = (i : Int) := of_decide_eq_true (List.all_eq_true.1 ones27_ok i (List.mem_range.2 hi)) h
theorem ones27_end : cntO27 206 = 23 := by kernel_rfl
theorem cnt27_le : ∀ i, cntO27 i ≤ i := by
  intro i
  induction i with
  | zero => exact Nat.le_refl _
  | succ i ih => rw [cntO27]; split <;> omega
def youX27 : Nat → Int := fun i => [3, 0, 5, 1000, 1, 2, 3, 0, 0, 0, 0, 0, 0].getD i 0
def oldX27 : Nat → Int := fun i => [3, 599999, 100, 1000, 1, 2, 3, 0, 0, 0, 0, 0, 0].getD i 0
def big27 (k : Nat) : Nat → Int := fun i => ([[64, 0, 0, 0, 0, 0, 0, 0, 0, 0, 0, 0, 0], [1, 0, 0, 0, 0, 8192, 0, 0, 0, 0, 0, 0, 0], [1, 0, 0, 0, 0, -8192, 0, 0, 0, 0, 0, 0, 0]].getD k []).getD i 0
theorem big27_0 : errPg (big27 0) = 2 := by kernel_rfl
theorem big27_1 : errPg (big27 1) = 2 := by kernel_rfl
theorem big27_2 : errPg (big27 2) = 0 := by kernel_rfl
theorem you27_ok : errPg youX27 = 0 := by kernel_rfl
theorem old27_ok : errPg oldX27 = 0 := by kernel_rfl
theorem row27_nil : errRow [] = 0 := by kernel_rfl
theorem row27_one : errRow [plX27] = 0 := by kernel_rfl
theorem row27_two : errRow [plX27, plX27] = 9 := by kernel_rfl
theorem row27_long : errRow (List.replicate 64 zrX) = 4 := by kernel_rfl
theorem posnil27 : PosG [] 3 0 := ⟨Nat.le_refl _, fun j h => absurd h (Nat.not_lt_zero _), fun j _ h => absurd h (Nat.not_lt_zero _)⟩
theorem posone27 : PosG [plX27] 3 0 := ⟨Nat.zero_le _, fun j h => absurd h (Nat.not_lt_zero _), fun j _ h => by
  have : j = 0 := by simp at h; omega
  subst this; decide⟩
theorem add27_1 : AddQ [] plX27 [plX27] 0 := .inr (.inr ⟨row27_nil, pl27_ok, rfl, 0, posnil27, rfl⟩)
theorem add27_2 : AddQ [plX27] youX27 [youX27] 0 := .inr (.inr ⟨row27_one, you27_ok, rfl, 0, posone27, by
  unfold addL
  rw [if_pos (show thG [plX27] (youX27 0) 0 = true by decide), if_pos (by decide)]; rfl⟩)
theorem add27_3 : AddQ [plX27] oldX27 [plX27] 0 := .inr (.inr ⟨row27_one, old27_ok, rfl, 0, posone27, by
  unfold addL
  rw [if_pos (show thG [plX27] (oldX27 0) 0 = true by decide), if_neg (by decide)]⟩)
theorem add27_4 : AddQ [plX27, plX27] plX27 [] 9 := .inl ⟨by rw [row27_two]; decide, rfl, row27_two.symm⟩
theorem find27_1 : FindQ [plX27] 3 plX27 0 := .inr (.inl ⟨row27_one, 0, by simp, rfl, rfl, rfl⟩)
theorem find27_2 : FindQ [plX27] 4 zrX 18 := .inr (.inr ⟨row27_one, fun i hi => by
  have : i = 0 := by simp at hi; omega
  subst this; decide, rfl, rfl⟩)
theorem find27_3 : FindQ (List.replicate 64 zrX) 3 zrX 4 := .inl ⟨by rw [row27_long]; decide, rfl, row27_long.symm⟩
theorem ms27_1 : errMs [plX27] 600000 = 0 := by kernel_rfl
theorem ms27_2 : errMs [plX27] 600001 = 0 := by kernel_rfl
theorem ms27_3 : msR [plX27] 600000 100 [4, 3, 5] = [4, 5] := by kernel_rfl
theorem ms27_4 : msR [plX27] 600001 100 [3] = [3] := by kernel_rfl
theorem nob27 : errTm plX27 604800 = 2 := by kernel_rfl
theorem bound27_no (w : World) (hw : WdAt w) : Calls Tryd.prog 31 #[.int .i64 604800, .int .i64 0] w fun e w' => e = .returned (.bool false) ∧ Bw w w' := by
  have HWD := Lib.hid hw
  have PLN := Lib.hid (fun W => plain27_any W)
  have PS := Lib.hid (fun W h => AlError_any plX27 604800 W h)
  rw [nob27, show bdP plX27 604800 = 0 by kernel_rfl] at PS
  obtain ⟨A, hA⟩ : ∃ A, A = pgV plX27 := ⟨_, rfl⟩
  rw [← hA] at PLN PS
  clear hA hw
  have HW := Lib.hid (Bw.refl w)
  go_enter Tryd.func31, Tryd.ntmps31
  go_wp2_with (first | (go_at_call 32; (with_reducible refine Calls.mono (PLN.out _) ?_); rintro e1 w1 ⟨rfl, hb1⟩; replace HW := Lib.hid (HW.out.trans hb1); clear hb1) | (go_at_call 20; (with_reducible refine Calls.mono (PS.out _ (HWD.out.bw HW.out)) ?_); rintro e1 w2 ⟨rfl, hb1⟩; replace HW := Lib.hid (HW.out.trans hb1); clear hb1))
  go_ret
  exact ⟨rfl, HW.out⟩
theorem rd_at27 {W : World} {b o n c : Nat} {zs : List Int} (h : RdI W (.slice (some ⟨b, o, none⟩) n c) zs) {i : Nat} (hi : i < zs.length) : W.cell? ⟨b, o + i, none⟩ = some (.int .i64 (zs.getD i 0)) := by
  obtain ⟨b2, o2, c2, hv, _, hc⟩ := h.at (by omega)
  injection hv with a1 a2 a3
  injection a1 with a1
  injection a1 with a1 a4 a5
  subst a1 a4
  exact hc i hi
theorem lit1G (W : World) (x : Nat → Int) : RdG (W.alloc (.cells (pgV x) 27)) (.slice (some ⟨W.heap.size, 0, none⟩) 1 1) [x] :=
  ⟨by simp, _, 1, rfl, .inr ⟨_, 0, rfl, by simp, rg_one (blk_rg (Blk.new W 27 (pgc x).toArray))⟩⟩
theorem lit2G (W : World) (x y : Nat → Int) : RdG (W.alloc (.cells (pgc x ++ pgc y).toArray 27)) (.slice (some ⟨W.heap.size, 0, none⟩) 2 2) [x, y] :=
  ⟨by simp, _, 2, rfl, .inr ⟨_, 0, rfl, by simp, rg_two (blk_rg (Blk.new W 27 (pgc x ++ pgc y).toArray))⟩⟩
theorem at_build2 {P : Program} {ops : Array Oper} {Q : Exit → Act → World → Prop} {rest : List Oper} {a : Act} {w : World} (t : TypeId) (n : Nat) (el : Array (Nat × Operand)) {dst : Option Tmp} {type : TypeId} {pos : String} {after : Array Edge} {g : Option (Nat × Bool)}
    (h : wpList P ops Q ({ dst := dst, op := .buildSlice t n el, type := type, pos := pos, after := after, guard := g } :: rest) a w) : wpList P ops Q ({ dst := dst, op := .buildSlice t n el, type := type, pos := pos, after := after, guard := g } :: rest) a w := h
def mz27 : Array Value := madeCells #[.int .i64 0, .int .i64 0, .int .i64 0, .int .i64 0, .int .i64 0, .int .i64 0, .int .i64 0, .int .i64 0, .int .i64 0, .int .i64 0, .int .i64 0, .int .i64 0, .int .i64 0] (64 * 13)
theorem makePg64 (w : World) : (Instr.makeSlice 24 (.int .i64 64) (.int .i64 64)).run Tryd.prog w = .ok (.slice (some ⟨w.heap.size, 0, none⟩) 64 64) (w.alloc (.cells mz27 27)) := by
  obtain ⟨i, hi, hzz⟩ := Option.map_eq_some_iff.1 infoPg
  simp only [Prod.mk.injEq] at hzz
  obtain ⟨hz, hs, hb⟩ := hzz
  have h := run_make (P := Tryd.prog) w 24 27 i _ Tryd.underlying24 hi hz .i64 .i64 64 64 (by omega) (by omega) (by rw [hb]; omega) (by omega)
  rw [hs] at h
  exact h
theorem mz27_at (i j : Nat) (hi : i < 64) (hj : j < 13) : mz27[i * 13 + j]? = some (.int .i64 0) := by
  unfold mz27 madeCells
  rw [Array.getElem?_map, Array.getElem?_range, if_pos (by omega)]
  show some ((#[.int .i64 0, .int .i64 0, .int .i64 0, .int .i64 0, .int .i64 0, .int .i64 0, .int .i64 0, .int .i64 0, .int .i64 0, .int .i64 0, .int .i64 0, .int .i64 0, .int .i64 0] : Array Value)[(i * 13 + j) % 13]!) = _
  rw [show (i * 13 + j) % 13 = j by omega]
  rcases (by omega : j = 0 ∨ j = 1 ∨ j = 2 ∨ j = 3 ∨ j = 4 ∨ j = 5 ∨ j = 6 ∨ j = 7 ∨ j = 8 ∨ j = 9 ∨ j = 10 ∨ j = 11 ∨ j = 12) with rfl | rfl | rfl | rfl | rfl | rfl | rfl | rfl | rfl | rfl | rfl | rfl | rfl <;> rfl
theorem lit64G (W : World) : RdG (W.alloc (.cells mz27 27)) (.slice (some ⟨W.heap.size, 0, none⟩) 64 64) (List.replicate 64 zrX) := by
  refine ⟨by rw [List.length_replicate]; omega, _, 64, by rw [List.length_replicate], .inr ⟨_, 0, rfl, by simp, fun i x hx => ?_⟩⟩
  obtain ⟨hi, hx2⟩ := List.getElem?_eq_some_iff.1 hx
  rw [List.getElem_replicate] at hx2
  rw [List.length_replicate] at hi
  subst hx2
  intro j u hu
  have hj : j < 13 := (List.getElem?_eq_some_iff.1 hu).1
  rw [pgc_at _ j hj] at hu
  injection hu with hu
  subst hu
  rw [Nat.zero_add]
  exact (Blk.new W 27 mz27).cell (mz27_at i j hi hj)
end Go.Proofs.Sky

namespace Go.Proofs.Sky
open Go Go.RowKit Go.Shelf
attribute [local go_sem] Oper.semAt_some
set_option maxHeartbeats 4000000
set_option maxRecDepth 8000
/-! chapter 27: a copy of any list of pages -/
theorem run_append_none27 (w : World) (t ty e : TypeId) (i : TypeInfo) (base size : Nat) (ht : Tryd.prog.underlying t = some (.slice e)) (hi : Tryd.prog.info? e = some i)
    (v : Value) (n c : Nat) (xs : List Value) (hown : w.ownsRow base e size v n xs) :
    (Builtin.append_ #[t, t] ty #[v, .slice none 0 c]).run Tryd.prog w = .ok v w := by
  rcases hown.2 with ⟨rfl, rfl⟩ | ⟨g, cap, cur, rfl, _, _, hnc, _⟩
  · simp [Builtin.append_, run_underlying ht, sizeOf, typeInfo, hi, Builtin.lenOf, Builtin.firstCells]
  · simp [Builtin.append_, run_underlying ht, sizeOf, typeInfo, hi, Builtin.lenOf, Builtin.firstCells, hnc, storeCells]
section
variable {ops : Array Oper} {rest : List Oper} {o : Oper} {a : Act} {w : World} {K : Act → World → Prop} {Q : Exit → Act → World → Prop}
theorem wp_append_rdG (s x : Operand) (t : TypeId)
    (ho : o.op = .call { callee := .builtin .append, args := #[s, x], argTypes := #[t, t] }) (dst : Option Tmp) (hd : o.dst = dst)
    (base : Nat) (ht : Tryd.prog.underlying t = some (.slice 27))
    (v : Value) (fs gs : List (Nat → Int)) (hs : a.eval s = v) (hown : w.ownsRow base 27 13 v fs.length (flatG fs))
    (vx : Value) (hx : a.eval x = vx) (hr : RdG w vx gs)
    (hn : fs.length + gs.length ≤ 1000000) (hbase : base ≤ w.heap.size)
    (h : ∀ v' w', w'.ownsRow base 27 13 v' (fs ++ gs).length (flatG (fs ++ gs)) → w.grownBy w' v.ownBlock → K (a.put dst v') w') : o.wp Tryd.prog a w K Q := by
  obtain ⟨_, ax, c, rfl, h4⟩ := hr
  rcases h4 with rfl | ⟨b, off, rfl, hb, hz⟩
  · cases ax with
    | none =>
      subst hd
      obtain ⟨i, hi, hzz⟩ := Option.map_eq_some_iff.1 infoPg
      have h9 := h v w (by simpa using hown) (World.grownBy.refl _ _)
      have h8 := run_append_none27 w t o.type 27 i base 13 ht hi v fs.length c _ hown
      simp only [List.length_nil] at hx
      unfold Oper.wp execOp
      simp only [ho, resolve, invoke, builtin, Sem.run_bind, Sem.run_pure, Result.andThen_ok, List.map_toArray, List.map_cons, List.map_nil, hs, hx, h8]
      exact h9
    | some ad =>
      subst hd
      obtain ⟨i, hi, hzz⟩ := Option.map_eq_some_iff.1 infoPg
      simp only [Prod.mk.injEq] at hzz
      obtain ⟨hz0, hz1, hz2⟩ := hzz
      refine wp_append_own w s x t ho base 27 i _ 13 104 ht hi hz0 hz1 hz2 rfl (by decide) v fs.length (flatG fs) hs hown ad 0 c [] hx rfl (fun j u hu => by simp at hu) (fun u hu => by simp at hu) (by unfold maxLen; simp at hn; omega) (by simp at hn; omega) hbase (fun v' w' h2 h3 h4 => h v' w' (by simpa using h2) h3)
  · exact wp_append_pgs s x t ho dst hd base ht v fs gs hs hown b off c hx hz hn hbase (fun v' w' h1 h2 _ => h v' w' h1 h2)
theorem wpList_append_rdG (hgd : o.guard = none) (s x : Operand) (t : TypeId)
    (ho : o.op = .call { callee := .builtin .append, args := #[s, x], argTypes := #[t, t] })
    (base : Nat) (ht : Tryd.prog.underlying t = some (.slice 27))
    (v : Value) (fs gs : List (Nat → Int)) (hs : a.eval s = v) (hown : w.ownsRow base 27 13 v fs.length (flatG fs))
    (vx : Value) (hx : a.eval x = vx) (hr : RdG w vx gs)
    (hn : fs.length + gs.length ≤ 1000000) (hbase : base ≤ w.heap.size)
    (h : ∀ v' w', w'.ownsRow base 27 13 v' (fs ++ gs).length (flatG (fs ++ gs)) → w.grownBy w' v.ownBlock → wpList Tryd.prog ops Q rest (a.put o.dst v') w') : wpList Tryd.prog ops Q (o :: rest) a w :=
  wpList_plain hgd fun _ hK => wp_append_rdG s x t ho o.dst rfl base ht v fs gs hs hown vx hx hr hn hbase (fun v' w' h1 h2 => hK _ _ (h v' w' h1 h2))
end
end Go.Proofs.Sky
