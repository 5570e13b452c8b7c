/-
  lemmas for the theorems of this claim. No conditions beyond those written in the statements.
-/
import Derived.Test.YtcmjcobhobfloaaDoorKN27
set_option linter.unusedVariables false
set_option linter.unusedSimpArgs false
set_option linter.unnecessarySimpa false
namespace Go.Proofs.Sky
open Go Go.RowKit Go.Shelf
attribute [local go_sem] Oper.semAt_some
set_option maxHeartbeats 4000000
set_option maxRecDepth 8000
/-! chapter 27: AlmanacOrders -/
theorem law_orders27 (zs : List Int) (v : Value) (turn t a b : Int) (w : World) (hv : RdI w v zs) (hcp : Capd v) (hw : WdAt w) : Calls Tryd.prog 3 #[v, .int .i64 turn, .int .i64 t, .int .i64 a, .int .i64 b] w fun e w' => e = .returned (.bool true) ∧ Bw w w' := by
  have HWD := Lib.hid hw
  have AW := Lib.hid (fun W h => awake27_any W h)
  have BT := Lib.hid (fun W => Below_any t 604800 W (by decide) (by decide))
  have hbt := bel_bd t 604800 (by decide)
  generalize bel t 604800 = tt at *
  obtain ⟨ad, cap, rfl⟩ := hv.form
  have hcc := hcp _ _ _ rfl
  obtain ⟨N, hN⟩ : ∃ N, N = min 10 zs.length := ⟨_, rfl⟩
  have hN10 : N ≤ 10 := by omega
  have hNl : N ≤ zs.length := by omega
  have hNe : N = 10 ∨ N = zs.length := by omega
  obtain ⟨c, hc⟩ : ∃ c, c = bel (zs.getD 0 0) 63 := ⟨_, rfl⟩
  have hcb : 0 ≤ c ∧ c < 63 := by rw [hc]; exact bel_bd _ 63 (by decide)
  have BC := Lib.hid (fun W => Below_any (zs.getD 0 0) 63 W (by decide) (by decide))
  rw [← hc] at BC
  obtain ⟨pgs, hpgs⟩ : ∃ pgs : Nat → List (Nat → Int), pgs = fun k => (List.range k).map (pgO zs c) := ⟨_, rfl⟩
  obtain ⟨prn, hprn⟩ : ∃ prn : Nat → List Int, prn = fun k => (List.range k).map (fun i => pgO zs c i 0) := ⟨_, rfl⟩
  have HPL := Lib.hid (show ∀ k, (pgs k).length = k from fun k => by rw [hpgs]; simp)
  have HNL := Lib.hid (show ∀ k, (prn k).length = k from fun k => by rw [hprn]; simp)
  have HPN := Lib.hid (show ∀ k, pgs (k + 1) = pgs k ++ [pgO zs c k] from fun k => by rw [hpgs]; simp [List.range_succ])
  have HNN := Lib.hid (show ∀ k, prn (k + 1) = prn k ++ [pgO zs c k 0] from fun k => by rw [hprn]; simp [List.range_succ])
  have OF := Lib.hid (fun k v W h => of27_any (zs.drop k) v W h)
  have HSZ : Hid (∀ x, (Tryd.prog.info? 27).map (·.size) = some (pgV x).size) := Lib.hid (fun x => by kernel_rfl)
  have HPX : Hid (∀ x, (pgV x).all (·.oneCell') = true) := Lib.hid (fun x => by simp [Value.oneCell', pgV])
  have HUP := Lib.hid (show ∀ k, (pgV (ofX27 (zs.drop k))).setIfInBounds 0 (.int .i64 (1 + (5 * (k : Int) + c) % 63)) = pgV (pgO zs c k) from fun k => rfl)
  have HX0 := Lib.hid (show ∀ k, pgO zs c k 0 = 1 + (5 * (k : Int) + c) % 63 from fun k => rfl)
  have HV := Lib.hid hv
  obtain ⟨n, hn⟩ : ∃ n, zs.length = n := ⟨_, rfl⟩
  have hn63 := hv.1
  rw [hn] at HV hcc hNl hNe hn63 ⊢
  have HNZ := Lib.hid hn
  have HPD := Lib.hid (And.intro hpgs hprn)
  clear hc hpgs hprn hv hcp hw hN hn
  obtain ⟨BB, hBB⟩ : ∃ BB, w.heap.size = BB := ⟨_, rfl⟩
  have HBB := Lib.hid hBB
  clear hBB
  have HW := Lib.hid (Bw.refl w)
  go_enter Tryd.func3, Tryd.ntmps3
  go_upto_block 0 with (go_at_call 9; (with_reducible refine Calls.mono (BT.out _) ?_); rintro e1 w1 ⟨rfl, hb1⟩; replace HW := Lib.hid (HW.out.trans hb1); clear hb1)
  clear BT
  obtain ⟨wa, hwa⟩ : ∃ wa, wa = w1 := ⟨_, rfl⟩
  subst hwa
  go_cut [11, 12, 13, 14] from 35 (fun s11 s12 s13 s14 wc => ∃ A11 c11 A12 c12, s11 = .slice A11 N c11 ∧ s12 = .slice A12 N c12 ∧ Hid (Bw w wc) ∧ Hid (wc.ownsRow BB 27 13 (.slice A11 N c11) (pgs N).length (flatG (pgs N))) ∧ Hid (wc.ownsRow BB 3 1 (.slice A12 N c12) (prn N).length ((prn N).map (Value.int .i64))))
  case first =>
    go_wp2_with fail
    go_loopg [11, 12, 13] N (fun gg s11 s12 s13 wr => ∃ (k : Nat) (A11 : Option Addr) (c11 : Nat) (A12 : Option Addr) (c12 : Nat), k ≤ N ∧ N - k ≤ gg ∧ s13 = .int .i64 k ∧ s11 = .slice A11 k c11 ∧ s12 = .slice A12 k c12 ∧ Hid (Bw w wr) ∧ Hid (wr.ownsRow BB 27 13 (.slice A11 k c11) (pgs k).length (flatG (pgs k))) ∧ Hid (wr.ownsRow BB 3 1 (.slice A12 k c12) (prn k).length ((prn k).map (Value.int .i64))))
    case atStart =>
      have e1 : pgs 0 = [] := by rw [HPD.out.1]; rfl
      have e2 : prn 0 = [] := by rw [HPD.out.2]; rfl
      refine ⟨0, none, 0, none, 0, by omega, by omega, rfl, rfl, rfl, HW, Lib.hid ?_, Lib.hid ?_⟩
      · rw [e1]; exact World.ownsRow_nil _ _ _ _
      · rw [e2]; exact World.ownsRow_nil _ _ _ _
    case round =>
      clear HW
      obtain ⟨k, A11, c11, A12, c12, hk, hgg, rfl, rfl, rfl, HW, O1, O2⟩ := hrel
      by_cases hlt : k < N
      · have hk10 : (k : Int) < 10 := by omega
        have hkn : (k : Int) < n := by omega
        have hk0 : (0 : Int) ≤ k := by omega
        have hkc : (k : Int) ≤ cap := by omega
        obtain ⟨b0, o0, c0, hv0, hb0, hz0⟩ := HV.out.at (by have := HNZ.out; omega)
        injection hv0 with i1 i2 i3
        subst i1
        clear i2 i3
        have HOF := Lib.hid (fun cq W (h : Bw w W) => OF.out k (.slice (some ⟨b0, o0 + k, none⟩) (n - k) cq) W (rdI_drop (HV.out.mono h) k (by omega)))
        have HL0 := Lib.hid (hz0 0 (by have := HNZ.out; omega))
        clear hz0
        have HXU := Lib.hid (HUP.out k)
        have HXN := Lib.hid (HX0.out k)
        have HP1 := Lib.hid (HPN.out k)
        have HN1 := Lib.hid (HNN.out k)
        have HA0 := Lib.hid (pgV_at (pgO zs c k) 0 (by omega))
        have HSZA := Lib.hid (HSZ.out (pgO zs c k))
        have HSF := Lib.hid (HSZ.out (ofX27 (zs.drop k)))
        have HPF := Lib.hid (HPX.out (ofX27 (zs.drop k)))
        have HN13 := Lib.hid (show (#[.int .i64 0, .int .i64 0, .int .i64 0, .int .i64 0, .int .i64 0, .int .i64 0, .int .i64 0, .int .i64 0, .int .i64 0, .int .i64 0, .int .i64 0, .int .i64 0, .int .i64 0] : Array Value).size = (pgV (ofX27 (zs.drop k))).size from rfl)
        have HF0 := Lib.hid (pgV_at (ofX27 (zs.drop k)) 0 (by omega))
        generalize pgO zs c k = x at *
        generalize hF : pgV (ofX27 (zs.drop k)) = F at *
        clear hF
        generalize ofX27 (zs.drop k) 0 = f0 at *
        generalize zs.getD 0 0 = z0 at *
        have hmod : (5 * (k : Int) + c).tmod 63 = (5 * (k : Int) + c) % 63 := Int.tmod_eq_emod_of_nonneg (by omega)
        go_upto_region 8 with (first | (go_at_call 10; (with_reducible refine Calls.mono (HOF.out _ _ HW.out) ?_); rintro e1 w2 ⟨rfl, hb1⟩; replace HW := Lib.hid (HW.out.trans hb1); replace O1 := Lib.hid (own_bw O1.out hb1); replace O2 := Lib.hid (own_bw O2.out hb1); clear hb1) | ((with_reducible refine at_store 27 (.tmp 14) (.tmp 48) ?_); refine wpList_store_row rfl 27 (.tmp 14) (.tmp 48) rfl w2.heap.size F rfl rfl 27 #[.int .i64 0, .int .i64 0, .int .i64 0, .int .i64 0, .int .i64 0, .int .i64 0, .int .i64 0, .int .i64 0, .int .i64 0, .int .i64 0, .int .i64 0, .int .i64 0, .int .i64 0] (Blk.new w2 27 #[.int .i64 0, .int .i64 0, .int .i64 0, .int .i64 0, .int .i64 0, .int .i64 0, .int .i64 0, .int .i64 0, .int .i64 0, .int .i64 0, .int .i64 0, .int .i64 0, .int .i64 0]) HSF.out HN13.out HPF.out ?_))
        obtain ⟨g14, hg14⟩ : ∃ g14, w2.heap.size = g14 := ⟨_, rfl⟩
        have hb2 := Bw.setRow (Bw.alloc (Bw.refl w2) (.cells #[.int .i64 0, .int .i64 0, .int .i64 0, .int .i64 0, .int .i64 0, .int .i64 0, .int .i64 0, .int .i64 0, .int .i64 0, .int .i64 0, .int .i64 0, .int .i64 0, .int .i64 0] 27)) (Nat.le_of_eq hg14) F
        have K14 := Lib.hid ((Blk.new w2 27 #[.int .i64 0, .int .i64 0, .int .i64 0, .int .i64 0, .int .i64 0, .int .i64 0, .int .i64 0, .int .i64 0, .int .i64 0, .int .i64 0, .int .i64 0, .int .i64 0, .int .i64 0]).row F)
        have NE := Lib.hid (own_ne O1.out (Nat.le_of_eq hg14))
        have NE2 := Lib.hid (own_ne O2.out (Nat.le_of_eq hg14))
        have HG14 := Lib.hid (show w.heap.size ≤ g14 by have := HW.out.size; omega)
        rw [hg14] at K14 ⊢
        replace HW := Lib.hid (HW.out.trans hb2)
        replace O1 := Lib.hid (own_bw O1.out hb2)
        replace O2 := Lib.hid (own_bw O2.out hb2)
        generalize World.setRow (World.alloc w2 _) _ _ = z2 at *
        clear hb2 hg14 HSF HPF HN13 HOF
        (try simp only [Act.put])
        have d0 := HW.out.cell' HL0.out
        rw [Nat.add_zero] at d0
        have d1 := K14.out.cell HF0.out
        have d2 := K14.out.frozen 0
        have hq0 : (0 : Int) < n := by omega
        have hw1 : IntKind.i64.wrap (5 * (k : Int)) = 5 * (k : Int) := by rw [IntKind.wrap_i64]; omega
        have hw2 : IntKind.i64.wrap (5 * (k : Int) + c) = 5 * (k : Int) + c := by rw [IntKind.wrap_i64]; omega
        have hw3 : IntKind.i64.wrap (1 + (5 * (k : Int) + c) % 63) = 1 + (5 * (k : Int) + c) % 63 := by rw [IntKind.wrap_i64]; omega
        go_upto_region 9 with (go_at_call 9; (with_reducible refine Calls.mono (BC.out _) ?_); rintro e1 w3 ⟨rfl, hb1⟩; replace d1 := hb1.cell' d1; replace d2 := (K14.out.bw hb1).frozen 0; replace HW := Lib.hid (HW.out.trans hb1); replace O1 := Lib.hid (own_bw O1.out hb1); replace O2 := Lib.hid (own_bw O2.out hb1); replace K14 := Lib.hid (K14.out.bw hb1); clear hb1)
        have hb2 := Bw.setCell HW.out (p := ⟨g14, 0, none⟩) HG14.out (.int .i64 (1 + (5 * (k : Int) + c) % 63))
        have hk14 := K14.out.set 0 (.int .i64 (1 + (5 * (k : Int) + c) % 63))
        rw [HXU.out] at hk14
        replace O1 := Lib.hid (own_cellO O1.out NE.out 0 (.int .i64 (1 + (5 * (k : Int) + c) % 63)))
        replace O2 := Lib.hid (own_cellO O2.out NE2.out 0 (.int .i64 (1 + (5 * (k : Int) + c) % 63)))
        obtain ⟨W4, hW4⟩ : ∃ W4, w3.setCell ⟨g14, 0, none⟩ (.int .i64 (1 + (5 * (k : Int) + c) % 63)) = W4 := ⟨_, rfl⟩
        rw [hW4] at hb2 hk14 O1 O2 ⊢
        clear hW4 HW d0 d1 d2 hw1 hw2 hw3 NE2 HXU
        replace K14 := Lib.hid hk14
        have HW := Lib.hid hb2
        clear hk14 hb2
        obtain ⟨xn, hxn⟩ : ∃ xn, x 0 = xn := ⟨_, rfl⟩
        rw [hxn] at HA0 HN1 HXN
        clear hxn
        obtain ⟨A, hA⟩ : ∃ A, A = pgV x := ⟨_, rfl⟩
        have HA := Lib.hid hA
        rw [← hA] at K14 HA0 HSZA
        clear hA
        refine wp_region_held_drew (S := fun W => Bw w W ∧ Blk W g14 27 A) (by kernel_rfl) ⟨Bw.drew HW.out, K14.out.bw (Bw.drew (Bw.refl _))⟩ (fun hS => ?_)
        replace O1 := Lib.hid (own_bw O1.out (Bw.drew (Bw.refl W4)))
        replace O2 := Lib.hid (own_bw O2.out (Bw.drew (Bw.refl W4)))
        generalize World.drew _ = wd at *
        clear HW K14
        refine take1 (i := 0) (some 59) rfl rfl (by kernel_rfl) (by kernel_rfl) (by kernel_rfl) (fun _ _ _ _ h => h) rfl hS ?_
        apply Exists.intro
        apply And.intro
        · intro W9 hW9; skip; go_simp; try with_reducible rfl
        simp only [Act.put, List.setIfInBounds_toArray, List.set_cons_zero, List.set_cons_succ]
        refine take1 (i := 1) (some 60) rfl rfl (by kernel_rfl) (by kernel_rfl) (by kernel_rfl) (fun _ _ _ _ h => h) rfl hS ?_
        refine Exists.intro (.agg A) ?_
        apply And.intro
        · intro W9 hW9; skip; exact run_load_row 27 _ rfl g14 rfl 27 A _ hW9.2 Tryd.underlying27 rfl HSZA.out
        simp only [Act.put, List.setIfInBounds_toArray, List.set_cons_zero, List.set_cons_succ]
        refine take1 (i := 4) (some 63) rfl rfl (by kernel_rfl) (by kernel_rfl) (by kernel_rfl) (fun _ _ _ _ h => h) rfl hS ?_
        apply Exists.intro
        apply And.intro
        · intro W9 hW9; skip; go_simp; try with_reducible rfl
        simp only [Act.put, List.setIfInBounds_toArray, List.set_cons_zero, List.set_cons_succ]
        refine take1 (i := 5) (some 64) rfl rfl (by kernel_rfl) (by kernel_rfl) (by kernel_rfl) (fun _ _ _ _ h => h) rfl hS ?_
        apply Exists.intro
        apply And.intro
        · intro W9 hW9; skip; go_simp; try with_reducible rfl
        simp only [Act.put, List.setIfInBounds_toArray, List.set_cons_zero, List.set_cons_succ]
        refine take1 (i := 6) (some 65) rfl rfl (by kernel_rfl) (by kernel_rfl) (by kernel_rfl) (fun _ _ _ _ h => h) rfl hS ?_
        refine Exists.intro (.int .i64 xn) ?_
        apply And.intro
        · intro W9 hW9; skip; (have c0 := hW9.2.cell HA0.out); go_simp; try with_reducible rfl
        simp only [Act.put, List.setIfInBounds_toArray, List.set_cons_zero, List.set_cons_succ]
        refine wpAnyH_ready (rs := [2, 7]) (by kernel_rfl) (by simp) ?_
        refine AllReadyH.cons rfl (fun K hK => ?_) ?_
        rw [if_pos (by rfl)]
        refine wp_build1 24 _ rfl (some 61) rfl Tryd.underlying24 x (show Value.agg A = .agg (pgV x) by rw [HA.out]) ?_
        simp only [Act.put, List.setIfInBounds_toArray, List.set_cons_zero, List.set_cons_succ]
        have NB := Lib.hid (Blk.new wd 27 (pgV x))
        have hba := Bw.alloc (Bw.refl wd) (.cells (pgV x) 27)
        replace O1 := Lib.hid (own_bw O1.out hba)
        replace O2 := Lib.hid (own_bw O2.out hba)
        obtain ⟨vb, hvb⟩ : ∃ vb, wd.heap.size = vb := ⟨_, rfl⟩
        rw [hvb] at NB ⊢
        have hS9 := And.intro (hS.1.trans hba) (hS.2.bw hba)
        clear hba hvb hS
        generalize World.alloc wd _ = wd at *
        refine hK.out _ _ hS9 (fun hS => ?_)
        clear hK K
        clear hS9
        refine wpAnyH_ready (rs := [3, 7]) (by kernel_rfl) (by simp) ?_
        refine AllReadyH.cons rfl (fun K hK => ?_) ?_
        rw [if_pos (by rfl)]
        refine wp_append_pgs (.tmp 59) (.tmp 61) _ rfl (some 62) rfl BB Tryd.underlying24 _ (pgs k) [x] rfl O1.out vb 0 1 rfl (rg_one (blk_rg (cs := pgc x) NB.out)) (by have := HPL.out k; simp; omega) (by have := hS.1.size; have := HBB.out; omega) ?_
        intro v8 w8 hown hgr _
        simp only [Act.put, List.setIfInBounds_toArray, List.set_cons_zero, List.set_cons_succ]
        have hS9 := And.intro (bw_grownN HBB.out hS.1 O1.out hgr) (hS.2.grownNe NE.out hgr)
        replace O2 := Lib.hid (own_other O2.out O1.out (by decide) hgr)
        replace O1 := Lib.hid hown
        clear hgr hown NB hS
        refine hK.out _ _ hS9 (fun hS => ?_)
        clear hK K
        clear hS9
        obtain ⟨wd, hwd⟩ : ∃ wd, wd = w8 := ⟨_, rfl⟩
        subst hwd
        refine wpAnyH_ready (rs := [7]) (by kernel_rfl) (by simp) ?_
        refine AllReadyH.cons rfl (fun K hK => ?_) ?_
        go_simp
        have IB := Lib.hid (Blk.new wd 3 #[.int .i64 xn])
        have hba := Bw.alloc (Bw.refl wd) (.cells #[.int .i64 xn] 3)
        replace O1 := Lib.hid (own_bw O1.out hba)
        replace O2 := Lib.hid (own_bw O2.out hba)
        obtain ⟨ib, hib⟩ : ∃ ib, wd.heap.size = ib := ⟨_, rfl⟩
        rw [hib] at IB ⊢
        have hS9 := And.intro (hS.1.trans hba) (hS.2.bw hba)
        clear hba hib hS
        generalize World.alloc wd _ = wd at *
        refine hK.out _ _ hS9 (fun hS => ?_)
        clear hK K
        clear hS9
        refine wpAnyH_ready (rs := [8]) (by kernel_rfl) (by simp) ?_
        refine AllReadyH.cons rfl (fun K hK => ?_) ?_
        rw [if_pos (by rfl)]
        refine wp_append_int9 (.tmp 63) (.tmp 66) _ 3 rfl (some 67) rfl BB Tryd.underlying22 (by kernel_rfl) _ (prn k) xn rfl O2.out ib rfl (IB.out.cell rfl) (by have := HNL.out k; omega) (by have := hS.1.size; have := HBB.out; omega) ?_
        intro v9 w9 hown hgr
        simp only [Act.put, List.setIfInBounds_toArray, List.set_cons_zero, List.set_cons_succ]
        have hS9 := And.intro (bw_grownN HBB.out hS.1 O2.out hgr) (hS.2.grownT O2.out hgr (by decide))
        replace O1 := Lib.hid (own_other O1.out O2.out (by decide) hgr)
        replace O2 := Lib.hid hown
        clear hgr hown IB hS
        refine hK.out _ _ hS9 (fun hS => ?_)
        clear hK K
        clear hS9
        obtain ⟨wd, hwd⟩ : ∃ wd, wd = w9 := ⟨_, rfl⟩
        subst hwd
        refine take1 (i := 9) (some 11) rfl rfl (by kernel_rfl) (by kernel_rfl) (by kernel_rfl) (fun _ _ _ _ h => h) rfl hS ?_
        apply Exists.intro
        apply And.intro
        · intro W9 hW9; skip; go_simp; try with_reducible rfl
        simp only [Act.put, List.setIfInBounds_toArray, List.set_cons_zero, List.set_cons_succ]
        refine take1 (i := 10) (some 12) rfl rfl (by kernel_rfl) (by kernel_rfl) (by kernel_rfl) (fun _ _ _ _ h => h) rfl hS ?_
        apply Exists.intro
        apply And.intro
        · intro W9 hW9; skip; go_simp; try with_reducible rfl
        simp only [Act.put, List.setIfInBounds_toArray, List.set_cons_zero, List.set_cons_succ]
        refine wpAnyH_done (by kernel_rfl) ?_ _
        rotate_left
        exact AllReadyH.nil
        exact AllReadyH.nil
        refine AllReadyH.cons rfl (fun K hK => ?_) ?_
        go_simp
        have IB := Lib.hid (Blk.new wd 3 #[.int .i64 xn])
        have hba := Bw.alloc (Bw.refl wd) (.cells #[.int .i64 xn] 3)
        replace O1 := Lib.hid (own_bw O1.out hba)
        replace O2 := Lib.hid (own_bw O2.out hba)
        replace NB := Lib.hid (NB.out.bw hba)
        obtain ⟨ib, hib⟩ : ∃ ib, wd.heap.size = ib := ⟨_, rfl⟩
        rw [hib] at IB ⊢
        have hS9 := And.intro (hS.1.trans hba) (hS.2.bw hba)
        clear hba hib hS
        generalize World.alloc wd _ = wd at *
        refine hK.out _ _ hS9 (fun hS => ?_)
        clear hK K
        clear hS9
        refine wpAnyH_ready (rs := [3]) (by kernel_rfl) (by simp) ?_
        refine AllReadyH.cons rfl (fun K hK => ?_) ?_
        rw [if_pos (by rfl)]
        refine wp_append_pgs (.tmp 59) (.tmp 61) _ rfl (some 62) rfl BB Tryd.underlying24 _ (pgs k) [x] rfl O1.out vb 0 1 rfl (rg_one (blk_rg (cs := pgc x) NB.out)) (by have := HPL.out k; simp; omega) (by have := hS.1.size; have := HBB.out; omega) ?_
        intro v8 w8 hown hgr _
        simp only [Act.put, List.setIfInBounds_toArray, List.set_cons_zero, List.set_cons_succ]
        have hS9 := And.intro (bw_grownN HBB.out hS.1 O1.out hgr) (hS.2.grownNe NE.out hgr)
        replace O2 := Lib.hid (own_other O2.out O1.out (by decide) hgr)
        replace IB := Lib.hid (IB.out.grownT O1.out hgr (by decide))
        replace O1 := Lib.hid hown
        clear hgr hown NB hS
        refine hK.out _ _ hS9 (fun hS => ?_)
        clear hK K
        clear hS9
        obtain ⟨wd, hwd⟩ : ∃ wd, wd = w8 := ⟨_, rfl⟩
        subst hwd
        refine wpAnyH_ready (rs := [8]) (by kernel_rfl) (by simp) ?_
        refine AllReadyH.cons rfl (fun K hK => ?_) ?_
        rw [if_pos (by rfl)]
        refine wp_append_int9 (.tmp 63) (.tmp 66) _ 3 rfl (some 67) rfl BB Tryd.underlying22 (by kernel_rfl) _ (prn k) xn rfl O2.out ib rfl (IB.out.cell rfl) (by have := HNL.out k; omega) (by have := hS.1.size; have := HBB.out; omega) ?_
        intro v9 w9 hown hgr
        simp only [Act.put, List.setIfInBounds_toArray, List.set_cons_zero, List.set_cons_succ]
        have hS9 := And.intro (bw_grownN HBB.out hS.1 O2.out hgr) (hS.2.grownT O2.out hgr (by decide))
        replace O1 := Lib.hid (own_other O1.out O2.out (by decide) hgr)
        replace O2 := Lib.hid hown
        clear hgr hown IB hS
        refine hK.out _ _ hS9 (fun hS => ?_)
        clear hK K
        clear hS9
        obtain ⟨wd, hwd⟩ : ∃ wd, wd = w9 := ⟨_, rfl⟩
        subst hwd
        refine take1 (i := 9) (some 11) rfl rfl (by kernel_rfl) (by kernel_rfl) (by kernel_rfl) (fun _ _ _ _ h => h) rfl hS ?_
        apply Exists.intro
        apply And.intro
        · intro W9 hW9; skip; go_simp; try with_reducible rfl
        simp only [Act.put, List.setIfInBounds_toArray, List.set_cons_zero, List.set_cons_succ]
        refine take1 (i := 10) (some 12) rfl rfl (by kernel_rfl) (by kernel_rfl) (by kernel_rfl) (fun _ _ _ _ h => h) rfl hS ?_
        apply Exists.intro
        apply And.intro
        · intro W9 hW9; skip; go_simp; try with_reducible rfl
        simp only [Act.put, List.setIfInBounds_toArray, List.set_cons_zero, List.set_cons_succ]
        refine wpAnyH_done (by kernel_rfl) ?_ _
        rotate_left
        exact AllReadyH.nil
        exact AllReadyH.nil
        exact AllReadyH.nil
        refine AllReadyH.cons rfl (fun K hK => ?_) ?_
        go_simp
        have IB := Lib.hid (Blk.new wd 3 #[.int .i64 xn])
        have hba := Bw.alloc (Bw.refl wd) (.cells #[.int .i64 xn] 3)
        replace O1 := Lib.hid (own_bw O1.out hba)
        replace O2 := Lib.hid (own_bw O2.out hba)
        obtain ⟨ib, hib⟩ : ∃ ib, wd.heap.size = ib := ⟨_, rfl⟩
        rw [hib] at IB ⊢
        have hS9 := And.intro (hS.1.trans hba) (hS.2.bw hba)
        clear hba hib hS
        generalize World.alloc wd _ = wd at *
        refine hK.out _ _ hS9 (fun hS => ?_)
        clear hK K
        clear hS9
        refine wpAnyH_ready (rs := [2]) (by kernel_rfl) (by simp) ?_
        refine AllReadyH.cons rfl (fun K hK => ?_) ?_
        rw [if_pos (by rfl)]
        refine wp_build1 24 _ rfl (some 61) rfl Tryd.underlying24 x (show Value.agg A = .agg (pgV x) by rw [HA.out]) ?_
        simp only [Act.put, List.setIfInBounds_toArray, List.set_cons_zero, List.set_cons_succ]
        have NB := Lib.hid (Blk.new wd 27 (pgV x))
        have hba := Bw.alloc (Bw.refl wd) (.cells (pgV x) 27)
        replace O1 := Lib.hid (own_bw O1.out hba)
        replace O2 := Lib.hid (own_bw O2.out hba)
        replace IB := Lib.hid (IB.out.bw hba)
        obtain ⟨vb, hvb⟩ : ∃ vb, wd.heap.size = vb := ⟨_, rfl⟩
        rw [hvb] at NB ⊢
        have hS9 := And.intro (hS.1.trans hba) (hS.2.bw hba)
        clear hba hvb hS
        generalize World.alloc wd _ = wd at *
        refine hK.out _ _ hS9 (fun hS => ?_)
        clear hK K
        clear hS9
        refine wpAnyH_ready (rs := [3]) (by kernel_rfl) (by simp) ?_
        refine AllReadyH.cons rfl (fun K hK => ?_) ?_
        rw [if_pos (by rfl)]
        refine wp_append_pgs (.tmp 59) (.tmp 61) _ rfl (some 62) rfl BB Tryd.underlying24 _ (pgs k) [x] rfl O1.out vb 0 1 rfl (rg_one (blk_rg (cs := pgc x) NB.out)) (by have := HPL.out k; simp; omega) (by have := hS.1.size; have := HBB.out; omega) ?_
        intro v8 w8 hown hgr _
        simp only [Act.put, List.setIfInBounds_toArray, List.set_cons_zero, List.set_cons_succ]
        have hS9 := And.intro (bw_grownN HBB.out hS.1 O1.out hgr) (hS.2.grownNe NE.out hgr)
        replace O2 := Lib.hid (own_other O2.out O1.out (by decide) hgr)
        replace IB := Lib.hid (IB.out.grownT O1.out hgr (by decide))
        replace O1 := Lib.hid hown
        clear hgr hown NB hS
        refine hK.out _ _ hS9 (fun hS => ?_)
        clear hK K
        clear hS9
        obtain ⟨wd, hwd⟩ : ∃ wd, wd = w8 := ⟨_, rfl⟩
        subst hwd
        refine wpAnyH_ready (rs := [8]) (by kernel_rfl) (by simp) ?_
        refine AllReadyH.cons rfl (fun K hK => ?_) ?_
        rw [if_pos (by rfl)]
        refine wp_append_int9 (.tmp 63) (.tmp 66) _ 3 rfl (some 67) rfl BB Tryd.underlying22 (by kernel_rfl) _ (prn k) xn rfl O2.out ib rfl (IB.out.cell rfl) (by have := HNL.out k; omega) (by have := hS.1.size; have := HBB.out; omega) ?_
        intro v9 w9 hown hgr
        simp only [Act.put, List.setIfInBounds_toArray, List.set_cons_zero, List.set_cons_succ]
        have hS9 := And.intro (bw_grownN HBB.out hS.1 O2.out hgr) (hS.2.grownT O2.out hgr (by decide))
        replace O1 := Lib.hid (own_other O1.out O2.out (by decide) hgr)
        replace O2 := Lib.hid hown
        clear hgr hown IB hS
        refine hK.out _ _ hS9 (fun hS => ?_)
        clear hK K
        clear hS9
        obtain ⟨wd, hwd⟩ : ∃ wd, wd = w9 := ⟨_, rfl⟩
        subst hwd
        refine take1 (i := 9) (some 11) rfl rfl (by kernel_rfl) (by kernel_rfl) (by kernel_rfl) (fun _ _ _ _ h => h) rfl hS ?_
        apply Exists.intro
        apply And.intro
        · intro W9 hW9; skip; go_simp; try with_reducible rfl
        simp only [Act.put, List.setIfInBounds_toArray, List.set_cons_zero, List.set_cons_succ]
        refine take1 (i := 10) (some 12) rfl rfl (by kernel_rfl) (by kernel_rfl) (by kernel_rfl) (fun _ _ _ _ h => h) rfl hS ?_
        apply Exists.intro
        apply And.intro
        · intro W9 hW9; skip; go_simp; try with_reducible rfl
        simp only [Act.put, List.setIfInBounds_toArray, List.set_cons_zero, List.set_cons_succ]
        refine wpAnyH_done (by kernel_rfl) ?_ _
        rotate_left
        exact AllReadyH.nil
        exact AllReadyH.nil
        exact AllReadyH.nil
        exact AllReadyH.nil
        all_goals
          obtain ⟨A8, c8, rfl⟩ := own_form2 O1.out
          obtain ⟨A9, c9, rfl⟩ := own_form2 O2.out
          have hl1 : (pgs k ++ [x]).length = k + 1 := by rw [List.length_append, HPL.out]; rfl
          have hl2 : (prn k ++ [xn]).length = k + 1 := by rw [List.length_append, HNL.out]; rfl
          rw [hl1] at O1
          rw [hl2] at O2
          rw [hl1, hl2]
          have HL1 := Lib.hid hl1
          have HL2 := Lib.hid hl2
          clear hl1 hl2
          go_wp2
          go_roundg (N - (k + 1))
          case measure => omega
          case rel => exact ⟨k + 1, A8, c8, A9, c9, by omega, by omega, by go_num, rfl, rfl, Lib.hid hS.1, Lib.hid (by rw [HP1.out, HL1.out]; exact O1.out), Lib.hid (by rw [HN1.out, HL2.out]; exact O2.out)⟩
      · obtain rfl : k = N := by omega
        rcases hNe with h9 | h9
        · have hz : ¬ (k : Int) < 10 := by omega
          clear h9
          go_wp2
          go_meet
          exact ⟨A11, c11, A12, c12, rfl, rfl, HW, O1, O2⟩
        · by_cases h8 : (k : Int) < 10
          · have hz : ¬ (k : Int) < n := by omega
            clear h9
            go_wp2
            go_meet
            exact ⟨A11, c11, A12, c12, rfl, rfl, HW, O1, O2⟩
          · clear h9
            go_wp2
            go_meet
            exact ⟨A11, c11, A12, c12, rfl, rfl, HW, O1, O2⟩
  case rest =>
    obtain ⟨A11, c11, A12, c12, rfl, rfl, HW, O1, O2⟩ := hcut
    obtain ⟨wz, hwz⟩ : ∃ wz, wz = wc := ⟨_, rfl⟩
    subst hwz
    replace HWD := Lib.hid (HWD.out.bw HW.out)
    have HG := Lib.hid (own_rdG O1.out (by have := HPL.out N; omega)).1
    have HI := Lib.hid (own_rd O2.out (by have := HNL.out N; omega)).1
    have hPP : ∀ i, i < N → (pgs N)[i]? = some (pgO zs c i) := fun i hi => by rw [HPD.out.1, List.getElem?_map, List.getElem?_range hi]; rfl
    have hgl := HPL.out N
    have hnl := HNL.out N
    have HX1 : Hid (∃ b11 o11, (0 < N → A11 = some ⟨b11, o11, none⟩) ∧ ∀ i, i < N → wz.rangeAt b11 (o11 + i * 13) (pgc (pgO zs c i))) := Lib.hid (by
      rcases Nat.eq_zero_or_pos N with h0 | h0
      · exact ⟨0, 0, fun h => absurd h (by omega), fun i hi => absurd hi (by omega)⟩
      · obtain ⟨b, o, cc, hv, _, hz⟩ := HG.out.at (by omega)
        injection hv with e1 _ _
        exact ⟨b, o, fun _ => e1, fun i hi => hz i _ (hPP i hi)⟩)
    obtain ⟨b11, o11, hA11, hR⟩ := HX1.out
    have HR := Lib.hid hR
    have HOKP := Lib.hid (fun i (_ : i < N) => pgO_ok zs c i)
    have HINJ := Lib.hid (fun i j (hi : i < N) (hj : j < N) (h : pgO zs c i 0 = pgO zs c j 0) => pgO_inj (by omega) (by omega) h)
    clear hR HX1 hPP O1 O2 HPN HNN OF HUP HX0 HV HPD HNZ BC HBB HG hcc hn63 hNl
    generalize pgO zs c = P at *
    generalize prn N = PR at *
    clear HPL HNL hgl
    have BU := Lib.hid (fun W (h : 0 < N) => Below_any turn N W (by omega) (by omega))
    have hbu := fun (h : 0 < N) => bel_bd turn N (by omega)
    generalize bel turn N = ct at *
    have HST0 := Lib.hid (And.intro (sto_zero P) (sto_zero (fun i => P (trn N ct i))))
    go_wp2_with fail
    go_loopg [15, 16, 17] N (fun gg s15 s16 s17 wr => ∃ (k : Nat) (A15 : Option Addr) (c15 : Nat) (A16 : Option Addr) (c16 : Nat) (ps qs : List (Nat → Int)), k ≤ N ∧ N - k ≤ gg ∧ s17 = .int .i64 k ∧ s15 = .slice A15 k c15 ∧ s16 = .slice A16 k c16 ∧ Hid (Bw wz wr) ∧ Hid (RdG wr (.slice A15 k c15) ps) ∧ Hid (RdG wr (.slice A16 k c16) qs) ∧ Hid (StO P k ps ∧ StO (fun i => P (trn N ct i)) k qs))
    case atStart => exact ⟨0, none, 0, none, 0, [], [], by omega, by omega, rfl, rfl, rfl, Lib.hid (Bw.refl _), Lib.hid (RdG.nil _), Lib.hid (RdG.nil _), HST0⟩
    case round =>
      clear HST0
      obtain ⟨k, A15, c15, A16, c16, ps, qs, hk, hgg, rfl, rfl, rfl, HZ, V15, V16, HST⟩ := hrel
      by_cases hlt : k < N
      · have hkn : (k : Int) < N := by omega
        have hk0 : (0 : Int) ≤ k := by omega
        obtain rfl := hA11 (by omega)
        obtain ⟨hu0, hu1⟩ := hbu (by omega)
        have BU2 := Lib.hid (fun W => BU.out W (by omega))
        obtain ⟨L1, ha1, hs1⟩ := sto_next hN10 hlt HOKP.out HINJ.out HST.out.1
        obtain ⟨L2, ha2, hs2⟩ := sto_next hN10 hlt (P := fun i => P (trn N ct i)) (fun i hi => HOKP.out _ (trn_lt (by omega))) (fun i j hi hj h => by
          have h9 := HINJ.out _ _ (trn_lt (by omega)) (trn_lt (by omega)) h
          have h8 := congrArg (trn N ct) h9
          rwa [trn_inv hi, trn_inv hj] at h8) HST.out.2
        have HL1 := Lib.hid (sto_len hs1)
        have HL2 := Lib.hid (sto_len hs2)
        have HST2 := Lib.hid (And.intro hs1 hs2)
        have AD1 := Lib.hid (fun v W h hv => AlAdd_any ps (P k) L1 0 ha1 v W h hv)
        have AD2 := Lib.hid (fun v W h hv => AlAdd_any qs (P (trn N ct k)) L2 0 ha2 v W h hv)
        unfold AdR at AD1 AD2
        clear ha1 ha2 hs1 hs2 HST
        have htr : trn N ct k < N := trn_lt (by omega)
        have hmod : ((N : Int) - 1 - k + ct).tmod N = (trn N ct k : Int) := by
          rw [Int.tmod_eq_emod_of_nonneg (by omega)]
          have h9 := Int.emod_nonneg ((N : Int) - 1 - k + ct) (show (N : Int) ≠ 0 by omega)
          unfold trn
          omega
        have hw1 : IntKind.i64.wrap ((N : Int) - 1) = (N : Int) - 1 := by rw [IntKind.wrap_i64]; omega
        have hw2 : IntKind.i64.wrap ((N : Int) - 1 - k) = (N : Int) - 1 - k := by rw [IntKind.wrap_i64]; omega
        have hw3 : IntKind.i64.wrap ((N : Int) - 1 - k + ct) = (N : Int) - 1 - k + ct := by rw [IntKind.wrap_i64]; omega
        have HRK := Lib.hid (HR.out k hlt)
        have HRT := Lib.hid (HR.out _ htr)
        generalize trn N ct k = j at *
        have hjn : (j : Int) < N := by omega
        have hj0 : (0 : Int) ≤ j := by omega
        have hNz : ((N : Int) == 0) = false := by simp; omega
        have hNz2 : ¬ (N : Int) = 0 := by omega
        go_upto_region 15 with (first | ((with_reducible refine at_load 27 (.tmp 78) ?_); refine wpList_load_pg rfl (.tmp 78) rfl b11 (o11 + k * 13) (by simp [Act.eval, Act.put]) (rg_bw HRK.out HZ.out) ?_) | (go_at_call 11; (with_reducible refine Calls.mono (AD1.out _ _ (HWD.out.bw HZ.out) V15.out) ?_); rintro e1 w5 ⟨⟨v18, rfl, ho⟩, hb1⟩; have V18 := Lib.hid (own_rdG ho (by have := HL1.out; omega)).1; replace V16 := Lib.hid (V16.out.mono hb1); replace HZ := Lib.hid (HZ.out.trans hb1); clear hb1 ho))
        have BU3 := Lib.hid (fun W => BU2.out W)
        go_upto_region 16 with (first | (go_at_call 9; (with_reducible refine Calls.mono (BU2.out _) ?_); rintro e1 w6 ⟨rfl, hb1⟩; replace V16 := Lib.hid (V16.out.mono hb1); replace V18 := Lib.hid (V18.out.mono hb1); replace HZ := Lib.hid (HZ.out.trans hb1); clear hb1) | ((with_reducible refine at_load 27 (.tmp 99) ?_); refine wpList_load_pg rfl (.tmp 99) rfl b11 (o11 + j * 13) (by simp [Act.eval, Act.put]) (rg_bw HRT.out HZ.out) ?_) | (go_at_call 11; (with_reducible refine Calls.mono (AD2.out _ _ (HWD.out.bw HZ.out) V16.out) ?_); rintro e1 w7 ⟨⟨v20, rfl, ho⟩, hb1⟩; have V20 := Lib.hid (own_rdG ho (by have := HL2.out; omega)).1; replace V18 := Lib.hid (V18.out.mono hb1); replace HZ := Lib.hid (HZ.out.trans hb1); clear hb1 ho))
        obtain ⟨A18, c18, rfl⟩ := V18.out.form
        obtain ⟨A20, c20, rfl⟩ := V20.out.form
        have hl1 := HL1.out
        have hl2 := HL2.out
        rw [hl1] at V18
        rw [hl2] at V20
        rw [hl1, hl2]
        clear hl1 hl2 hmod hw1 hw2 hw3 hNz hNz2
        go_wp2
        go_roundg (N - (k + 1))
        case measure => omega
        case rel => exact ⟨k + 1, A18, c18, A20, c20, L1, L2, by omega, by omega, by go_num, rfl, rfl, HZ, V18, V20, HST2⟩
      · obtain rfl : k = N := by omega
        have hkn : ¬ (k : Int) < k := by omega
        obtain rfl : ps = qs := sto_same HST.out.1 HST.out.2
        have HS := Lib.hid HST.out.1
        have hnn : ((k : Int) != k) = false := by simp
        clear HST hbu BU hgg hk HOKP HINJ
        obtain ⟨wa2, hwa2⟩ : ∃ wa2, wa2 = wr := ⟨_, rfl⟩
        subst hwa2
        go_upto_block 4 with (go_at_call 12; (with_reducible refine Calls.mono (alikePg_any ps _ _ _ V15.out V16.out) ?_); rintro e1 w8 ⟨rfl, hb1⟩; replace V15 := Lib.hid (V15.out.mono hb1); replace HZ := Lib.hid (HZ.out.trans hb1); clear hb1 V16)
        obtain ⟨wy, hwy⟩ : ∃ wy, wy = w8 := ⟨_, rfl⟩
        subst hwy
        clear hnn hkn
        go_wp2_with fail
        go_loopg [22] k (fun gg s22 wr => ∃ i : Nat, i ≤ k ∧ k - i ≤ gg ∧ s22 = .int .i64 i ∧ Hid (Bw wy wr))
        case atStart => exact ⟨0, by omega, by omega, rfl, Lib.hid (Bw.refl _)⟩
        case round =>
          obtain ⟨i, hi, hgg, rfl, HY⟩ := hrel
          obtain ⟨wb2, hwb2⟩ : ∃ wb2, wb2 = wr := ⟨_, rfl⟩
          subst hwb2
          by_cases hlt : i < k
          · have hik : (i : Int) < k := by omega
            have hi0 : (0 : Int) ≤ i := by omega
            obtain rfl := hA11 (by omega)
            have hmem := sto_mem HS.out hlt
            have AD1 := Lib.hid (fun v W h hv => AlAdd_any ps (P i) ps 0 (add_again HS.out.1 hmem) v W h hv)
            have FI := Lib.hid (fun v W h hv => AlFind_any ps (P i 0) (P i) 0 (find_in HS.out.1 hmem) v W h hv)
            have HPSL := Lib.hid (sto_len HS.out)
            unfold AdR at AD1
            have HRK := Lib.hid (HR.out i hlt)
            have HSZA := Lib.hid (HSZ.out (P i))
            have HPXA := Lib.hid (HPX.out (P i))
            have HN13 := Lib.hid (show (#[.int .i64 0, .int .i64 0, .int .i64 0, .int .i64 0, .int .i64 0, .int .i64 0, .int .i64 0, .int .i64 0, .int .i64 0, .int .i64 0, .int .i64 0, .int .i64 0, .int .i64 0] : Array Value).size = (pgV (P i)).size from rfl)
            have hq2 := fun W => eqPg_self (P i) W
            have hgg2 := fun W a b op p q => eqPg_guard a b op p q W
            clear hmem
            generalize P i = x at *
            go_upto_region 25 with (first | ((with_reducible refine at_load 27 (.tmp 133) ?_); refine wpList_load_pg rfl (.tmp 133) rfl b11 (o11 + i * 13) (by simp [Act.eval, Act.put]) (rg_bw HRK.out (HZ.out.trans HY.out)) ?_) | (go_at_call 11; (with_reducible refine Calls.mono (AD1.out _ _ (HWD.out.bw (HZ.out.trans HY.out)) (V15.out.mono HY.out)) ?_); rintro e1 w9 ⟨⟨v23, rfl, ho⟩, hb1⟩; have V23 := Lib.hid (own_rdG ho (by have := HPSL.out; omega)).1; replace HY := Lib.hid (HY.out.trans hb1); clear hb1 ho))
            have d0 : w9.cell? ⟨b11, o11 + i * 13, none⟩ = some (.int .i64 (x 0)) := rg_at0 (rg_bw HRK.out (HZ.out.trans HY.out))
            generalize x 0 = xn at *
            go_upto_region 26 with (first | (go_at_call 13; (with_reducible refine Calls.mono (FI.out _ _ (HWD.out.bw (HZ.out.trans HY.out)) (V15.out.mono HY.out)) ?_); rintro e1 wa3 ⟨rfl, hb1⟩; replace V23 := Lib.hid (V23.out.mono hb1); replace HY := Lib.hid (HY.out.trans hb1); clear hb1) | ((with_reducible refine at_store 27 (.tmp 25) (.tmp 146) ?_); refine wpList_store_row rfl 27 (.tmp 25) (.tmp 146) rfl wa3.heap.size (pgV x) rfl rfl 27 #[.int .i64 0, .int .i64 0, .int .i64 0, .int .i64 0, .int .i64 0, .int .i64 0, .int .i64 0, .int .i64 0, .int .i64 0, .int .i64 0, .int .i64 0, .int .i64 0, .int .i64 0] (Blk.new wa3 27 #[.int .i64 0, .int .i64 0, .int .i64 0, .int .i64 0, .int .i64 0, .int .i64 0, .int .i64 0, .int .i64 0, .int .i64 0, .int .i64 0, .int .i64 0, .int .i64 0, .int .i64 0]) HSZA.out HN13.out HPXA.out ?_))
            obtain ⟨g25, hg25⟩ : ∃ g25, wa3.heap.size = g25 := ⟨_, rfl⟩
            have hb2 := Bw.setRow (Bw.alloc (Bw.refl wa3) (.cells #[.int .i64 0, .int .i64 0, .int .i64 0, .int .i64 0, .int .i64 0, .int .i64 0, .int .i64 0, .int .i64 0, .int .i64 0, .int .i64 0, .int .i64 0, .int .i64 0, .int .i64 0] 27)) (Nat.le_of_eq hg25) (pgV x)
            have K25 := Lib.hid ((Blk.new wa3 27 #[.int .i64 0, .int .i64 0, .int .i64 0, .int .i64 0, .int .i64 0, .int .i64 0, .int .i64 0, .int .i64 0, .int .i64 0, .int .i64 0, .int .i64 0, .int .i64 0, .int .i64 0]).row (pgV x))
            rw [hg25] at K25 ⊢
            replace V23 := Lib.hid (V23.out.mono hb2)
            replace HY := Lib.hid (HY.out.trans hb2)
            generalize World.setRow (World.alloc wa3 _) _ _ = z3 at *
            clear hb2 hg25 d0
            (try simp only [Act.put])
            have AK := Lib.hid (fun (p : Ext z3) => alikePg_any ps _ _ _ (V23.out.mono p.b) ((V15.out.mono HY.out).mono p.b))
            refine wp_region_quiet_ext (by kernel_rfl) (by kernel_rfl) ?_
            (iterate 13 (go_big_quiet_step (first | (go_at_call 12; with_reducible refine Calls.ext_of (AK.out _)))))
            go_big_quiet_want
            refine quiet_load (.agg (pgV x)) (some 161) rfl (fun W hW => ?_) ?_
            · obtain ⟨p, rfl⟩ := hW
              exact run_load_row 27 _ rfl g25 rfl 27 (pgV x) _ (K25.out.bw p.b) Tryd.underlying27 rfl HSZA.out
            simp only [Act.put, List.setIfInBounds_toArray, List.set_cons_zero, List.set_cons_succ]
            go_big_quiet_on
            (iterate 3 (go_big_quiet_step (fail)))
            go_big_quiet_want
            refine quiet_load (.agg (pgV x)) (some 165) rfl (fun W hW => ?_) ?_
            · obtain ⟨p, rfl⟩ := hW
              exact run_load_pg _ rfl b11 (o11 + i * 13) (by simp [Act.eval, Act.put]) (rg_bw HRK.out ((HZ.out.trans HY.out).trans p.b))
            simp only [Act.put, List.setIfInBounds_toArray, List.set_cons_zero, List.set_cons_succ]
            go_big_quiet_on
            generalize pgV x = A at *
            (repeat (go_big_quiet_step (fail)))
            refine wpQuiet_nil ?_
            rintro wq ⟨⟨_, hbq⟩, rfl⟩
            go_wp2
            go_roundg (k - (i + 1))
            case measure => omega
            case rel => exact ⟨i + 1, by omega, by omega, by go_num, Lib.hid (HY.out.trans hbq)⟩
          · obtain rfl : i = k := by omega
            have hik : ¬ (i : Int) < i := by omega
            have hrow := HS.out.1
            have em : errMs ps tt = 0 := by unfold errMs; rw [if_neg (by rw [hrow]; decide), if_neg (by omega)]
            have hmn : min a b ≤ max a b := by omega
            have MS1 := Lib.hid (fun v vz W h1 h2 h3 => AlMissing_any ps PR tt (min a b) v vz W h1 h2 h3 (by omega))
            have MS2 := Lib.hid (fun v vz W h1 h2 h3 => AlMissing_any ps PR tt (max a b) v vz W h1 h2 h3 (by omega))
            have hsub : (msR ps tt (max a b) PR).Sublist (msR ps tt (min a b) PR) := by
              unfold msR
              rw [if_pos em, if_pos em]
              exact ms_sub hmn
            unfold LsQ at MS1 MS2
            rw [em] at MS1 MS2
            have hlm : (msR ps tt (min a b) PR).length ≤ PR.length := by unfold msR; rw [if_pos em]; exact List.length_filter_le _ _
            clear em hmn hrow HS HR
            generalize msR ps tt (min a b) PR = M at *
            generalize msR ps tt (max a b) PR = R at *
            have hle := hsub.length_le
            have HSB := Lib.hid hsub
            go_upto_region 29 with (go_at_call 14; (with_reducible refine Calls.mono (MS1.out _ _ _ (HWD.out.bw (HZ.out.trans HY.out)) (V15.out.mono HY.out) (HI.out.mono (HZ.out.trans HY.out))) ?_); rintro e1 wc3 ⟨⟨v27, rfl, hr27, _⟩, hb1⟩; replace HY := Lib.hid (HY.out.trans hb1); have R27 := Lib.hid hr27; clear hb1 hr27)
            go_upto_region 30 with (go_at_call 14; (with_reducible refine Calls.mono (MS2.out _ _ _ (HWD.out.bw (HZ.out.trans HY.out)) (V15.out.mono HY.out) (HI.out.mono (HZ.out.trans HY.out))) ?_); rintro e1 wd3 ⟨⟨v29, rfl, hr29, _⟩, hb1⟩; replace HY := Lib.hid (HY.out.trans hb1); replace R27 := Lib.hid (R27.out.mono hb1); have R29 := Lib.hid hr29; clear hb1 hr29)
            clear MS1 MS2 hlm hnl
            obtain ⟨A27, c27, rfl⟩ := R27.out.form
            obtain ⟨A29, c29, rfl⟩ := R29.out.form
            have HBW := Lib.hid (HW.out.trans (HZ.out.trans HY.out))
            replace HWD := Lib.hid (HWD.out.bw (HZ.out.trans HY.out))
            clear HW HZ HY HI V15
            obtain ⟨wq, hwq⟩ : ∃ wq, wq = wd3 := ⟨_, rfl⟩
            subst hwq
            have hlez : ¬ (M.length : Int) < R.length := by omega
            have hm63 := R27.out.1
            go_upto_block 6 with fail
            clear hlez
            go_wp2_with fail
            go_loopg [31, 32] R.length (fun gg s31 s32 wr => ∃ i j : Nat, i ≤ R.length ∧ R.length - i ≤ gg ∧ j ≤ M.length ∧ s31 = .int .i64 i ∧ s32 = .int .i64 j ∧ Hid ((R.drop i).Sublist (M.drop j)) ∧ Hid (Bw wq wr))
            case atStart => exact ⟨0, 0, by omega, by omega, by omega, rfl, rfl, HSB, Lib.hid (Bw.refl _)⟩
            case round =>
              obtain ⟨i, j, hi2, hg2, hj2, rfl, rfl, HS2, HQ1⟩ := hrel
              obtain ⟨wt, hwt⟩ : ∃ wt, wt = wr := ⟨_, rfl⟩
              subst hwt
              by_cases hl2 : i < R.length
              · have hiz : (i : Int) < R.length := by omega
                have hi0 : (0 : Int) ≤ i := by omega
                obtain ⟨bR, oR, cR, hvR, _, hzR⟩ := R29.out.at (by omega)
                injection hvR with q1 q2 q3
                subst q1
                clear q2 q3
                have d1 := HQ1.out.cell' (hzR i hl2)
                clear hzR
                obtain ⟨bM, oM, cM, hvM, _, hzM⟩ := R27.out.at (by omega)
                injection hvM with q1 q2 q3
                subst q1
                clear q2 q3
                have HZM := Lib.hid (fun k hk => HQ1.out.cell' (hzM k hk))
                clear hzM
                go_upto_block 8 with fail
                have HNX := Lib.hid (fun k (h : (R.drop i).Sublist (M.drop k)) => sub_step h hl2)
                generalize R.getD i 0 = ri at *
                go_wp2_with fail
                go_loopg [32] (M.length - j) (fun gg s32 wr => ∃ l : Nat, l ≤ M.length ∧ M.length - l ≤ gg ∧ s32 = .int .i64 l ∧ Hid ((R.drop i).Sublist (M.drop l)) ∧ Hid (Bw wt wr))
                case atStart => exact ⟨j, by omega, by omega, rfl, HS2, Lib.hid (Bw.refl _)⟩
                case round =>
                  clear HS2
                  obtain ⟨l, hl9, hg9, rfl, HS2, HQ2⟩ := hrel
                  obtain ⟨wu, hwu⟩ : ∃ wu, wu = wr := ⟨_, rfl⟩
                  subst hwu
                  obtain ⟨hlm2, hno, hyes⟩ := HNX.out l HS2.out
                  have HNO := Lib.hid hno
                  have HYES := Lib.hid hyes
                  have hlz : (l : Int) < M.length := by omega
                  have hl0 : (0 : Int) ≤ l := by omega
                  have d2 := HQ2.out.cell' (HZM.out l hlm2)
                  have d3 := HQ2.out.cell' d1
                  have e2 := fun p : Ext wu => Ext.cell' d2 p
                  have e3 := fun p : Ext wu => Ext.cell' d3 p
                  clear d2 d3 hno hyes
                  generalize M.getD l 0 = ml at *
                  by_cases hm : ml = ri
                  · have hne : (ml != ri) = false := by simp [hm]
                    have HS3 := Lib.hid (HYES.out hm)
                    clear hm HNO HYES
                    go_upto_region 35 with fail
                    (refine wp_region_quiet_ext (by kernel_rfl) (by kernel_rfl) ?_; (repeat (go_big_quiet_step ((fail)))); refine wpQuiet_nil ?_; rintro wv ⟨⟨_, hbq⟩, rfl⟩; obtain ⟨hccq, hffq⟩ := Bw.cells hbq; have hszq := Bw.size hbq)
                    clear e2 e3
                    go_wp2_with fail
                    go_roundg (R.length - (i + 1))
                    case measure => omega
                    case rel => exact ⟨i + 1, l + 1, by omega, by omega, by omega, by go_num, by go_num, HS3, Lib.hid (HQ1.out.trans (HQ2.out.trans hbq))⟩
                  · have hne : (ml != ri) = true := by simp [hm]
                    have HS3 := Lib.hid (HNO.out hm)
                    clear hm HNO HYES
                    go_upto_region 35 with fail
                    (refine wp_region_quiet_ext (by kernel_rfl) (by kernel_rfl) ?_; (repeat (go_big_quiet_step ((fail)))); refine wpQuiet_nil ?_; rintro wv ⟨⟨_, hbq⟩, rfl⟩; obtain ⟨hccq, hffq⟩ := Bw.cells hbq; have hszq := Bw.size hbq)
                    clear e2 e3
                    go_wp2_with fail
                    go_roundg (M.length - (l + 1))
                    case measure => omega
                    case rel => exact ⟨l + 1, by omega, by omega, by go_num, HS3, Lib.hid (HQ2.out.trans hbq)⟩
              · have hiz : ¬ (i : Int) < R.length := by omega
                clear HS2
                go_wp2_with (go_at_call 15; (with_reducible refine Calls.mono (AW.out _ (HWD.out.bw HQ1.out)) ?_); rintro e1 we3 ⟨rfl, hb1⟩)
                go_ret
                exact ⟨rfl, HBW.out.trans (HQ1.out.trans hb1)⟩
end Go.Proofs.Sky
