/-
  lemmas for the theorems of this claim. No conditions beyond those written in the statements.
-/
import Derived.Test.YtmfiiocadhdhaaaWB26
set_option linter.unusedVariables false
set_option linter.unusedSimpArgs false
set_option linter.unnecessarySimpa false
namespace Go.Proofs.Sky
open Go Go.RowKit Go.Shelf
set_option maxHeartbeats 4000000
set_option maxRecDepth 8000
/-! chapter 26: EphemMixes -/
theorem law_mixes (zs zo : List Int) (alike : Bool) (v vo : Value) (w : World) (hv : RdI w v zs) (ho : RdI w vo zo) (hl : zs.length ≤ 17592186044414) : Calls Try.prog 8 #[v, vo, .bool alike] w fun e w' => e = .returned (.bool true) ∧ Bw w w' := by
  have HV := Lib.hid hv
  have HO := Lib.hid ho
  obtain ⟨a, ca, rfl⟩ := hv.form
  obtain ⟨ao, co, rfl⟩ := ho.form
  have hle := ho.1
  clear hv ho
  have AW := Lib.hid (fun W => awake_any W)
  have BE := Lib.hid (fun n k W h1 h2 => Below_any n k W h1 h2)
  have HLZ := Lib.hid hl
  clear hl
  obtain ⟨no, hno⟩ : ∃ no, no = zo.length := ⟨_, rfl⟩
  rw [← hno] at hle HO ⊢
  have HNO := Lib.hid hno
  clear hno
  obtain ⟨nz, hnz⟩ : ∃ nz, nz = zs.length := ⟨_, rfl⟩
  rw [← hnz] at HV ⊢
  have HNZ := Lib.hid hnz
  clear hnz
  go_enter Try.func8, Try.ntmps8
  go_upto_region 2 with (first | (at_builtin; refine wpList_append_int rfl (.tmp 27) (.tmp 28) _ rfl w.heap.size 3 Try.underlying40 infoInt _ [] zs rfl (own0 (e := 3) w w.heap.size rfl) a nz ca rfl (HV.out.mono (Bw.alloc (Bw.refl w) _)) (by have := HLZ.out; simp; omega) (by simp) ?_; intro v0 w0 hown hgr; have hb0 : Bw w w0 := Bw.grownN rfl (Bw.alloc (Bw.refl _) _) (own0 (e := 3) w w.heap.size rfl) hgr; have HO1 := Lib.hid hown; have HB0 := Lib.hid hb0; clear hown hgr hb0) | (at_builtin; have HO2 := own_bw HO1.out (Bw.alloc (Bw.refl w0) (.cells #[.int .i64 0, .int .i64 0] 3)); rw [List.nil_append] at HO2; refine wpList_append_int rfl (.tmp 29) (.tmp 30) _ rfl w.heap.size 3 Try.underlying40 infoInt _ zs [0, 0] rfl HO2 (some ⟨w0.heap.size, 0, none⟩) 2 2 rfl (RdI.litN w0 _ _ [0, 0] w0.heap.size rfl rfl (by simp)) (by have := HLZ.out; simp; omega) (by have := HB0.out.size; simp; omega) ?_; intro v1 w1 hown hgr; have HBW := Lib.hid (Bw.grownN rfl (Bw.alloc HB0.out _) HO2 hgr); have HYO := Lib.hid hown; clear hown hgr))
  obtain ⟨ys, hys⟩ : ∃ ys, ys = zs ++ [0, 0] := ⟨_, rfl⟩
  rw [← hys] at HYO
  have HNY := Lib.hid (show 2 ≤ ys.length ∧ ys.length ≤ 17592186044416 by have := HLZ.out; rw [hys]; simp; omega)
  clear hys
  obtain ⟨gl, cy, rfl⟩ := own_some HYO.out (by have := HNY.out; omega)
  have HYS := Lib.hid (own_rd HYO.out (by have := HNY.out; omega)).1
  have HYC := Lib.hid (own_capd HYO.out _ _ _ rfl)
  clear HYO
  obtain ⟨n, hn⟩ : ∃ n, n = ys.length := ⟨_, rfl⟩
  rw [← hn] at HNY HYS HYC ⊢
  have HN := Lib.hid hn
  clear hn
  (try simp only [Act.put])
  obtain ⟨Wc, hWc⟩ : ∃ Wc, Wc = w1 := ⟨_, rfl⟩
  subst hWc
  obtain ⟨gE, hgE⟩ : ∃ gE, Wc.heap.size = gE := ⟨_, rfl⟩
  have KE := Lib.hid (show Blk ((Wc.alloc (.cells #[.int .i64 0, .int .i64 0, .int .i64 0, .int .i64 0, .int .i64 0, .int .i64 0, .int .i64 0, .int .i64 0, .int .i64 0, .int .i64 0, .int .i64 0, .int .i64 0, .int .i64 0, .int .i64 0, .int .i64 0, .int .i64 0, .int .i64 0, .int .i64 0, .int .i64 0, .int .i64 0, .int .i64 0, .int .i64 0, .int .i64 0, .int .i64 0, .int .i64 0, .int .i64 0, .int .i64 0, .int .i64 0, .int .i64 0, .int .i64 0, .int .i64 0, .int .i64 0, .int .i64 0, .int .i64 0, .int .i64 0, .int .i64 0, .int .i64 0, .int .i64 0, .int .i64 0, .int .i64 0, .int .i64 0, .int .i64 0, .int .i64 0, .int .i64 0, .int .i64 0, .int .i64 0, .int .i64 0, .int .i64 0, .int .i64 0, .int .i64 0, .int .i64 0, .int .i64 0, .int .i64 0, .int .i64 0, .int .i64 0, .int .i64 0, .int .i64 0] 59)).alloc (.cells #[.slice none 0 0, .slice none 0 0, .slice none 0 0] 60)) gE 59 (allV (fun _ => zE)) from by rw [← hgE]; exact (Blk.new Wc 59 #[.int .i64 0, .int .i64 0, .int .i64 0, .int .i64 0, .int .i64 0, .int .i64 0, .int .i64 0, .int .i64 0, .int .i64 0, .int .i64 0, .int .i64 0, .int .i64 0, .int .i64 0, .int .i64 0, .int .i64 0, .int .i64 0, .int .i64 0, .int .i64 0, .int .i64 0, .int .i64 0, .int .i64 0, .int .i64 0, .int .i64 0, .int .i64 0, .int .i64 0, .int .i64 0, .int .i64 0, .int .i64 0, .int .i64 0, .int .i64 0, .int .i64 0, .int .i64 0, .int .i64 0, .int .i64 0, .int .i64 0, .int .i64 0, .int .i64 0, .int .i64 0, .int .i64 0, .int .i64 0, .int .i64 0, .int .i64 0, .int .i64 0, .int .i64 0, .int .i64 0, .int .i64 0, .int .i64 0, .int .i64 0, .int .i64 0, .int .i64 0, .int .i64 0, .int .i64 0, .int .i64 0, .int .i64 0, .int .i64 0, .int .i64 0, .int .i64 0]).alloc _)
  have KM := Lib.hid (show Blk ((Wc.alloc (.cells #[.int .i64 0, .int .i64 0, .int .i64 0, .int .i64 0, .int .i64 0, .int .i64 0, .int .i64 0, .int .i64 0, .int .i64 0, .int .i64 0, .int .i64 0, .int .i64 0, .int .i64 0, .int .i64 0, .int .i64 0, .int .i64 0, .int .i64 0, .int .i64 0, .int .i64 0, .int .i64 0, .int .i64 0, .int .i64 0, .int .i64 0, .int .i64 0, .int .i64 0, .int .i64 0, .int .i64 0, .int .i64 0, .int .i64 0, .int .i64 0, .int .i64 0, .int .i64 0, .int .i64 0, .int .i64 0, .int .i64 0, .int .i64 0, .int .i64 0, .int .i64 0, .int .i64 0, .int .i64 0, .int .i64 0, .int .i64 0, .int .i64 0, .int .i64 0, .int .i64 0, .int .i64 0, .int .i64 0, .int .i64 0, .int .i64 0, .int .i64 0, .int .i64 0, .int .i64 0, .int .i64 0, .int .i64 0, .int .i64 0, .int .i64 0, .int .i64 0] 59)).alloc (.cells #[.slice none 0 0, .slice none 0 0, .slice none 0 0] 60)) (gE + 1) 60 (mV (fun _ => .slice none 0 0)) from by rw [← hgE]; have h9 := Blk.new (Wc.alloc (.cells #[.int .i64 0, .int .i64 0, .int .i64 0, .int .i64 0, .int .i64 0, .int .i64 0, .int .i64 0, .int .i64 0, .int .i64 0, .int .i64 0, .int .i64 0, .int .i64 0, .int .i64 0, .int .i64 0, .int .i64 0, .int .i64 0, .int .i64 0, .int .i64 0, .int .i64 0, .int .i64 0, .int .i64 0, .int .i64 0, .int .i64 0, .int .i64 0, .int .i64 0, .int .i64 0, .int .i64 0, .int .i64 0, .int .i64 0, .int .i64 0, .int .i64 0, .int .i64 0, .int .i64 0, .int .i64 0, .int .i64 0, .int .i64 0, .int .i64 0, .int .i64 0, .int .i64 0, .int .i64 0, .int .i64 0, .int .i64 0, .int .i64 0, .int .i64 0, .int .i64 0, .int .i64 0, .int .i64 0, .int .i64 0, .int .i64 0, .int .i64 0, .int .i64 0, .int .i64 0, .int .i64 0, .int .i64 0, .int .i64 0, .int .i64 0, .int .i64 0] 59)) 60 #[.slice none 0 0, .slice none 0 0, .slice none 0 0]; simp only [World.size_alloc] at h9; exact h9)
  have HWC := Lib.hid (Bw.alloc (Bw.alloc (Bw.refl Wc) (.cells #[.int .i64 0, .int .i64 0, .int .i64 0, .int .i64 0, .int .i64 0, .int .i64 0, .int .i64 0, .int .i64 0, .int .i64 0, .int .i64 0, .int .i64 0, .int .i64 0, .int .i64 0, .int .i64 0, .int .i64 0, .int .i64 0, .int .i64 0, .int .i64 0, .int .i64 0, .int .i64 0, .int .i64 0, .int .i64 0, .int .i64 0, .int .i64 0, .int .i64 0, .int .i64 0, .int .i64 0, .int .i64 0, .int .i64 0, .int .i64 0, .int .i64 0, .int .i64 0, .int .i64 0, .int .i64 0, .int .i64 0, .int .i64 0, .int .i64 0, .int .i64 0, .int .i64 0, .int .i64 0, .int .i64 0, .int .i64 0, .int .i64 0, .int .i64 0, .int .i64 0, .int .i64 0, .int .i64 0, .int .i64 0, .int .i64 0, .int .i64 0, .int .i64 0, .int .i64 0, .int .i64 0, .int .i64 0, .int .i64 0, .int .i64 0, .int .i64 0] 59)) (.cells #[.slice none 0 0, .slice none 0 0, .slice none 0 0] 60))
  have HGE := Lib.hid hgE
  go_upto_region 4 with fail
  obtain ⟨W2, hW2⟩ : ∃ W2, (Wc.alloc (.cells #[.int .i64 0, .int .i64 0, .int .i64 0, .int .i64 0, .int .i64 0, .int .i64 0, .int .i64 0, .int .i64 0, .int .i64 0, .int .i64 0, .int .i64 0, .int .i64 0, .int .i64 0, .int .i64 0, .int .i64 0, .int .i64 0, .int .i64 0, .int .i64 0, .int .i64 0, .int .i64 0, .int .i64 0, .int .i64 0, .int .i64 0, .int .i64 0, .int .i64 0, .int .i64 0, .int .i64 0, .int .i64 0, .int .i64 0, .int .i64 0, .int .i64 0, .int .i64 0, .int .i64 0, .int .i64 0, .int .i64 0, .int .i64 0, .int .i64 0, .int .i64 0, .int .i64 0, .int .i64 0, .int .i64 0, .int .i64 0, .int .i64 0, .int .i64 0, .int .i64 0, .int .i64 0, .int .i64 0, .int .i64 0, .int .i64 0, .int .i64 0, .int .i64 0, .int .i64 0, .int .i64 0, .int .i64 0, .int .i64 0, .int .i64 0, .int .i64 0] 59)).alloc (.cells #[.slice none 0 0, .slice none 0 0, .slice none 0 0] 60) = W2 := ⟨_, rfl⟩
  rw [hW2] at KE KM HWC ⊢
  clear hW2 hgE
  go_wp2
  go_loopg [9] 3 (fun gg s9 wr => ∃ k : Nat, k ≤ 3 ∧ 3 - k ≤ gg ∧ s9 = .int .i64 k ∧ Hid (Bw Wc wr) ∧ ∃ Y D, Hid (Blk wr gE 59 (allV Y)) ∧ Hid (Blk wr (gE + 1) 60 (mV D)) ∧ Hid (∀ j, j < k → MR wr (gE + 1) (D j) (Y j)) ∧ Hid (∀ j, j < 3 → ∃ a n c, D j = .slice a n c))
  case atStart => exact ⟨0, by omega, by omega, rfl, HWC, fun _ => zE, fun _ => .slice none 0 0, KE, KM, Lib.hid (fun j hj => absurd hj (by omega)), Lib.hid (fun j hj => ⟨_, _, _, rfl⟩)⟩
  case round =>
    clear KE KM HWC
    obtain ⟨k, hk, hgg, rfl, HWC, E, D, KE, KM, HMR, HDF⟩ := hrel
    obtain ⟨wm, rfl⟩ : ∃ wm, wm = wr := ⟨_, rfl⟩
    by_cases c3 : k < 3
    case pos =>
      have c3z : (k : Int) < 3 := by omega
      have hk0 : (0 : Int) ≤ k := by omega
      go_upto_region 7 with fail
      go_wp2_with fail
      have hny : (1 : Int) ≤ (n : Int) ∧ (n : Int) ≤ 4611686018427387904 := by have := HNY.out; omega
      refine Calls.mono (BE.out _ _ _ hny.1 hny.2) ?_
      rintro e1 w3 ⟨rfl, hb9⟩
      have hbm := bel_bd (k : Int) (n : Int) hny.1
      obtain ⟨m, hm9⟩ : ∃ m : Nat, bel (k : Int) (n : Int) = (m : Int) := ⟨(bel (k : Int) (n : Int)).toNat, by omega⟩
      rw [hm9] at hbm ⊢
      clear hm9 hny
      have hm : m < n := by omega
      have hmz : (m : Int) ≤ n := by omega
      have hm0 : (0 : Int) ≤ m := by omega
      clear hbm
      have OF : Hid (∀ c' W, Bw Wc W → Calls Try.prog 26 #[.slice (some ⟨gl, m, none⟩) (n - m) c'] W fun e w' => e = .returned (.agg (eV (ofX (ys.drop m)))) ∧ Bw W w') := Lib.hid (fun c' W hW => of_any (ys.drop m) _ W ((show RdI Wc (.slice (some ⟨gl, m, none⟩) (n - m) c') (ys.drop m) by have h9 := rdI_drop HYS.out m hm (c' := c'); rw [Nat.zero_add] at h9; exact h9).mono hW))
      have HX := Lib.hid (ofX_ok (ys.drop m))
      generalize ofX (ys.drop m) = X at OF HX
      replace HWC := Lib.hid (HWC.out.trans hb9)
      replace KE := Lib.hid (KE.out.bw hb9)
      replace KM := Lib.hid (KM.out.bw hb9)
      replace HMR := Lib.hid (fun j hj => (HMR.out j hj).bw hb9)
      clear hb9
      have hcy := HYC.out
      go_upto_region 8 with (first | (go_at_call 26; (with_reducible refine Calls.mono (OF.out _ _ HWC.out) ?_); rintro e1 w4 ⟨rfl, hb9⟩; replace HWC := Lib.hid (HWC.out.trans hb9); replace KE := Lib.hid (KE.out.bw hb9); replace KM := Lib.hid (KM.out.bw hb9); replace HMR := Lib.hid (fun j hj => (HMR.out j hj).bw hb9); clear hb9) | ((with_reducible refine at_store 25 (.tmp 44) (.tmp 43) ?_); refine wpList_store_at rfl 25 (.tmp 44) (.tmp 43) rfl gE (k * 19) (eV X) rfl rfl 59 (allV E) KE.out (by kernel_rfl) (show k * 19 + 19 ≤ 57 by omega) (by simp [Value.oneCell', eV]) ?_))
      rw [allV_set E k X c3]
      obtain ⟨Y1, hY1⟩ : ∃ Y1, Y1 = fun j => if j = k then X else E j := ⟨_, rfl⟩
      rw [← hY1]
      have hkx := Kx.row KE.out.lt (allV Y1)
      replace HMR := Lib.hid (show ∀ j, j < k → MR (w4.setRow gE (allV Y1)) (gE + 1) (D j) (Y1 j) from fun j hj => by rw [hY1]; (try dsimp only); rw [if_neg (by omega)]; exact (HMR.out j hj).kx KE.out (show (allV E).size ≤ 205 from (by decide : 57 ≤ 205)) (by omega) (by rw [hY1] at hkx; exact hkx))
      replace KM := Lib.hid (hkx.blk KM.out (by omega))
      replace HWC := Lib.hid (Bw.setRow HWC.out (Nat.le_of_eq HGE.out) (allV Y1))
      replace KE := Lib.hid (KE.out.row (allV Y1))
      replace HX := Lib.hid (show errE (Y1 k) = 0 by rw [hY1]; (try dsimp only); rw [if_pos rfl]; exact HX.out)
      clear hkx hY1 OF
      generalize World.setRow w4 gE _ = wv at *
      (try simp only [Act.put])
      have HX0 := Lib.hid (show errE (Y1 0) = 0 by
        by_cases h0 : k = 0
        · rw [h0] at HX; exact HX.out
        · exact (HMR.out 0 (by omega)).1)
      go_upto_if 45 with fail
      go_cut [] from 213 (fun wx => Hid (Bw Wc wx) ∧ ∃ Y2, Hid (Blk wx gE 59 (allV Y2)) ∧ Hid (Blk wx (gE + 1) 60 (mV D)) ∧ Hid (∀ j, j < k → MR wx (gE + 1) (D j) (Y2 j)) ∧ Hid (errE (Y2 k) = 0))
      case first =>
        cases alike with
        | true =>
          have p0 := KE.out.cell (allV_at Y1 0 0 (by omega) (by omega))
          have p1 := KE.out.cell (allV_at Y1 0 1 (by omega) (by omega))
          rw [show 0 * 19 + 0 = 0 from rfl] at p0
          rw [show 0 * 19 + 1 = 1 from rfl] at p1
          have t0 := KE.out.cell (allV_at Y1 k 0 c3 (by omega))
          have t1 := KE.out.cell (allV_at Y1 k 1 c3 (by omega))
          rw [Nat.add_zero] at t0
          have f0 := KE.out.frozen (k * 19)
          have f1 := KE.out.frozen (k * 19 + 1)
          go_wp2
          go_meet
          have hk1 := Kx.set (j := k * 19) KE.out.lt (.int .i64 (Y1 0 0))
          have KE1 := KE.out.set (k * 19) (.int .i64 (Y1 0 0))
          have hk2 := Kx.set (j := k * 19 + 1) KE1.lt (.int .i64 (Y1 0 1))
          have KE2 := KE1.set (k * 19 + 1) (.int .i64 (Y1 0 1))
          rw [allV_like Y1 k c3] at KE2
          have hkk := hk1.trans hk2
          refine ⟨Lib.hid (hkk.bw HWC.out (Nat.le_of_eq HGE.out)), _, Lib.hid KE2, Lib.hid (hkk.blk KM.out (by omega)), Lib.hid (fun j hj => ?_), Lib.hid ?_⟩
          · (try dsimp only)
            rw [if_neg (by omega)]
            exact (HMR.out j hj).kx KE.out (show (allV Y1).size ≤ 205 from (by decide : 57 ≤ 205)) (by omega) hkk
          · (try dsimp only)
            rw [if_pos rfl]
            exact likeE_ok HX.out HX0.out
        | false =>
          go_wp2
          go_meet
          exact ⟨HWC, Y1, KE, KM, HMR, HX⟩
      case rest =>
        clear KE KM HMR HWC HX HX0
        obtain ⟨HWC, Y2, KE, KM, HMR, HX⟩ := hcut
        have FRM := Lib.hid (fun W => frames_any (Y2 k) (k : Int) W HX.out (by omega))
        go_upto_region 11 with (first | ((with_reducible refine at_load 25 (.tmp 60) ?_); refine wpList_load_all rfl (.tmp 60) rfl gE k rfl Y2 KE.out c3 ?_) | (go_at_call 25; (with_reducible refine Calls.mono (FRM.out _) ?_); rintro e1 w5 ⟨⟨vf, fs, rfl, hof, hmf⟩, hb9⟩))
        obtain ⟨gf, cf, tm, DD, rfl, hcf, hMR, hgf, _⟩ := row3_cap hof hmf HX.out KM.out.lt
        have HMK := Lib.hid hMR
        clear hof hmf hMR FRM hgf
        replace HWC := Lib.hid (HWC.out.trans hb9)
        replace KE := Lib.hid (KE.out.bw hb9)
        replace KM := Lib.hid (KM.out.bw hb9)
        replace HMR := Lib.hid (fun j hj => (HMR.out j hj).bw hb9)
        clear hb9
        have hmc := KM.out.cell (mV_at D k c3)
        have hmf := KM.out.frozen k
        obtain ⟨d1, d2, d3, hdd⟩ := HDF.out k c3
        rw [hdd] at hmc
        clear hdd
        go_wp2
        have hk1 := Kx.set (j := k) KM.out.lt (.slice (some ⟨gf, 0, none⟩) 3 cf)
        have KM2 := KM.out.set k (.slice (some ⟨gf, 0, none⟩) 3 cf)
        rw [mV_set D k c3] at KM2
        have hb2 := hk1.bw HWC.out (by have := HGE.out; omega)
        have hmr : ∀ j, j < k + 1 → MR (w5.setCell ⟨gE + 1, k, none⟩ (.slice (some ⟨gf, 0, none⟩) 3 cf)) (gE + 1) ((fun j => if j = k then .slice (some ⟨gf, 0, none⟩) 3 cf else D j) j) (Y2 j) := fun j hj => by
          (try dsimp only)
          by_cases e : j = k
          · rw [if_pos e, e]
            exact HMK.out.kx KM.out (show (mV D).size ≤ 205 from (by decide : 3 ≤ 205)) (Nat.le_refl _) hk1
          · rw [if_neg e]
            exact (HMR.out j (by omega)).kx KM.out (show (mV D).size ≤ 205 from (by decide : 3 ≤ 205)) (Nat.le_refl _) hk1
        go_roundg (3 - (k + 1))
        case measure => omega
        case rel => exact ⟨k + 1, by omega, by omega, by go_num, Lib.hid hb2, Y2, _, Lib.hid (hk1.blk KE.out (by omega)), Lib.hid KM2, Lib.hid hmr, Lib.hid (fun j hj => by (try dsimp only); split; exact ⟨_, _, _, rfl⟩; exact HDF.out j hj)⟩
    case neg =>
      have c3z : ¬ (k : Int) < 3 := by omega
      obtain rfl : k = 3 := by omega
      have HEE := Lib.hid (fun c (hc : c < 3) => (HMR.out c hc).1)
      obtain ⟨gp, hgp⟩ : ∃ gp, wm.heap.size = gp := ⟨_, rfl⟩
      have KN := Lib.hid ((Blk.new wm 43 #[.bool false, .bool false, .bool false, .int .i64 0, .int .i64 0, .slice none 0 0, .slice none 0 0, .slice none 0 0]).alloc (.cells #[.int .i64 0, .int .i64 0, .int .i64 0] 22))
      have KL := Lib.hid (Blk.new (wm.alloc (.cells #[.bool false, .bool false, .bool false, .int .i64 0, .int .i64 0, .slice none 0 0, .slice none 0 0, .slice none 0 0] 43)) 22 #[.int .i64 0, .int .i64 0, .int .i64 0])
      have HWD := Lib.hid (Bw.alloc (Bw.alloc (Bw.refl wm) (.cells #[.bool false, .bool false, .bool false, .int .i64 0, .int .i64 0, .slice none 0 0, .slice none 0 0, .slice none 0 0] 43)) (.cells #[.int .i64 0, .int .i64 0, .int .i64 0] 22))
      simp only [World.size_alloc, hgp] at KN KL
      have HWS := Lib.hid (show Wc.heap.size ≤ gp by have := HWC.out.size; omega)
      have hov := HO.out.mono (HBW.out.trans HWC.out)
      go_upto_region 16 with ((with_reducible refine at_store 22 (.tmp 13) (.tmp 76) ?_); refine wpList_store_row rfl 22 (.tmp 13) (.tmp 76) rfl (gp + 1) (lsV (fun _ => -1)) rfl rfl 22 _ KL.out (by kernel_rfl) rfl (by simp [Value.oneCell', lsV]) ?_)
      replace KN := Lib.hid (KN.out.row_other (g' := gp + 1) (by omega) (lsV (fun _ => -1)))
      replace HWD := Lib.hid (Bw.setRow HWD.out (show wm.heap.size ≤ gp + 1 by omega) (lsV (fun _ => -1)))
      replace KL := Lib.hid (KL.out.row (lsV (fun _ => -1)))
      obtain ⟨W3, hW3⟩ : ∃ W3, ((wm.alloc (.cells #[.bool false, .bool false, .bool false, .int .i64 0, .int .i64 0, .slice none 0 0, .slice none 0 0, .slice none 0 0] 43)).alloc (.cells #[.int .i64 0, .int .i64 0, .int .i64 0] 22)).setRow (gp + 1) (lsV (fun _ => -1)) = W3 := ⟨_, rfl⟩
      rw [hW3] at KN KL HWD ⊢
      clear hW3
      have HGP := Lib.hid hgp
      clear hgp
      have HOV := Lib.hid hov
      clear hov
      (try simp only [Act.put])
      go_wp2
      go_loopg [14, 15] 40 (fun gg s14 s15 wr => ∃ i : Nat, i ≤ 40 ∧ 40 - i ≤ gg ∧ s15 = .int .i64 i ∧ Hid (Bw wm wr) ∧ ∃ (P : Pm) (L : Nat → Int) (now : Int) (Da : Nat → Value), s14 = .int .i64 now ∧ Hid (Blk wr gp 43 (ptV P.h P.is P.pr Da)) ∧ Hid (Blk wr (gp + 1) 22 (lsV L)) ∧ Hid (Dat3 wr Da P.Z) ∧ Hid (Mix E P L now))
      case atStart => exact ⟨0, by omega, by omega, rfl, HWD, zP, fun _ => -1, -1, fun _ => .slice none 0 0, rfl, KN, KL, Lib.hid (fun j hj => ⟨RdI.nil _, Capd.nil⟩), Lib.hid (Mix.zero E)⟩
      case round =>
        clear KN KL HWD
        obtain ⟨i, hi, hgg, rfl, HWD, P, L, now, Da, rfl, KN, KL, HDA, HM⟩ := hrel
        obtain ⟨wb, rfl⟩ : ∃ wb, wb = wr := ⟨_, rfl⟩
        by_cases c1 : i < no
        case neg =>
          have c1z : ¬ (i : Int) < no := by omega
          go_wp2_with (go_at_call 16; (with_reducible refine Calls.mono (AW.out _) ?_); rintro e2 w2 ⟨rfl, hb2⟩)
          go_ret
          exact ⟨rfl, ((HBW.out.trans HWC.out).trans HWD.out).trans hb2⟩
        by_cases c2 : i < 40
        case neg =>
          have c1z : (i : Int) < no := by omega
          have c2z : ¬ (i : Int) < 40 := by omega
          go_wp2_with (go_at_call 16; (with_reducible refine Calls.mono (AW.out _) ?_); rintro e2 w2 ⟨rfl, hb2⟩)
          go_ret
          exact ⟨rfl, ((HBW.out.trans HWC.out).trans HWD.out).trans hb2⟩
        have c1z : (i : Int) < no := by omega
        have c2z : (i : Int) < 40 := by omega
        have hi0 : (0 : Int) ≤ i := by omega
        obtain ⟨bo, oo, cco, hvo, _, hco⟩ := (HOV.out.mono HWD.out).at (by have := HNO.out; omega)
        injection hvo with i1 i2 i3
        subst i1
        clear i2 i3
        have cz := hco i (by have := HNO.out; omega)
        clear hco
        generalize zo.getD i 0 = z at cz
        have KEb := Lib.hid (KE.out.bw HWD.out)
        have KMb := Lib.hid (KM.out.bw HWD.out)
        go_upto_region 20 with fail
        go_cut [16, 17] from 213 (fun s16 s17 wx => ∃ c k : Nat, c < 3 ∧ k < 3 ∧ s16 = .int .i64 c ∧ s17 = .int .i64 k ∧ Hid (Bw wb wx))
        case first =>
          have e0 := fun p : Ext wb => Ext.cell' cz p
          (refine wp_region_quiet_ext (by kernel_rfl) (by kernel_rfl) ?_; (repeat (go_big_quiet_step (((go_at_call 27; exact Calls.ext_of (BE.out _ _ _ (by decide) (by decide))))))); refine wpQuiet_nil ?_; rintro wq ⟨⟨_, hbq⟩, rfl⟩; obtain ⟨hccq, hffq⟩ := Bw.cells hbq; have hszq := Bw.size hbq)
          go_wp2
          go_meet
          refine ⟨(bel z 3).toNat, _, bel3_lt _, ?_, bel3_eq z, bel3_eq _, Lib.hid hbq⟩
          exact bel3_lt _
        case rest =>
          clear cz
          obtain ⟨c, k, hc, hk, rfl, rfl, hb9⟩ := hcut
          have hb9 := hb9.out
          replace HWD := Lib.hid (HWD.out.trans hb9)
          replace KN := Lib.hid (KN.out.bw hb9)
          replace KL := Lib.hid (KL.out.bw hb9)
          replace HDA := Lib.hid (HDA.out.bw hb9)
          replace KEb := Lib.hid (KEb.out.bw hb9)
          replace KMb := Lib.hid (KMb.out.bw hb9)
          clear hb9
          obtain ⟨wa, hwa⟩ : ∃ wa, wa = wc := ⟨_, rfl⟩
          subst hwa
          have hcz : (c : Int) < 3 := by omega
          have hc0 : (0 : Int) ≤ c := by omega
          have hkz : (k : Int) < 3 := by omega
          have hk0 : (0 : Int) ≤ k := by omega
          have HC := Lib.hid hc
          have HKK := Lib.hid hk
          clear hc hk
          go_upto_region 21 with fail
          go_cut [121] from 213 (fun s121 wx => s121 = .bool (resB E now c) ∧ Hid (Bw wa wx))
          case first =>
            by_cases n0 : 0 ≤ now
            case neg =>
              have HG2 := Lib.hid (show resB E now c = false by unfold resB; rw [decide_eq_false n0]; rfl)
              have e3 : True := trivial
              (refine wp_region_quiet_ext (by kernel_rfl) (by kernel_rfl) ?_; (repeat (go_big_quiet_step ((fail)))); refine wpQuiet_nil ?_; rintro wq ⟨⟨_, hbq⟩, rfl⟩; obtain ⟨hccq, hffq⟩ := Bw.cells hbq; have hszq := Bw.size hbq)
              go_wp2
              go_meet
              exact ⟨by rw [HG2.out], Lib.hid hbq⟩
            obtain ⟨nn, rfl⟩ : ∃ nn : Nat, now = (nn : Int) := ⟨now.toNat, by omega⟩
            have hn3 := HM.out.nlo.2
            have hnn : nn < 3 := by omega
            clear n0
            have n0z : (0 : Int) ≤ nn := by omega
            have x0 := KEb.out.cell (allV_at E c 0 HC.out (by omega))
            have x1 := KEb.out.cell (allV_at E c 1 HC.out (by omega))
            have y0 := KEb.out.cell (allV_at E nn 0 hnn (by omega))
            have y1 := KEb.out.cell (allV_at E nn 1 hnn (by omega))
            rw [Nat.add_zero] at x0 y0
            have HR := Lib.hid (show resB E (nn : Int) c = (decide (¬ E c 0 = E nn 0) || decide (¬ E c 1 = E nn 1)) by
              unfold resB
              rw [decide_eq_true n0z, Bool.true_and, Int.toNat_natCast]
              by_cases q : E c 0 = E nn 0 <;> by_cases q2 : E c 1 = E nn 1 <;> simp [q, q2])
            clear hnn
            generalize E c 0 = a0 at *
            generalize E c 1 = a1 at *
            generalize E nn 0 = b0 at *
            generalize E nn 1 = b1 at *
            have e0 := fun p : Ext wa => Ext.cell' x0 p
            have e1 := fun p : Ext wa => Ext.cell' x1 p
            have e2 := fun p : Ext wa => Ext.cell' y0 p
            have e3 := fun p : Ext wa => Ext.cell' y1 p
            clear x0 x1 y0 y1
            by_cases r1 : a0 = b0
            · by_cases r2 : a1 = b1
              · subst r1 r2
                have r1b : (a0 != a0) = false := by simp
                have r2b : (a1 != a1) = false := by simp
                have HG2 := Lib.hid (HR.out.trans (show _ = false by simp))
                (refine wp_region_quiet_ext (by kernel_rfl) (by kernel_rfl) ?_; (repeat (go_big_quiet_step ((fail)))); refine wpQuiet_nil ?_; rintro wq ⟨⟨_, hbq⟩, rfl⟩; obtain ⟨hccq, hffq⟩ := Bw.cells hbq; have hszq := Bw.size hbq)
                go_wp2
                go_meet
                exact ⟨by rw [HG2.out], Lib.hid hbq⟩
              · subst r1
                have r1b : (a0 != a0) = false := by simp
                have r2b : (a1 != b1) = true := by simpa using r2
                have HG2 := Lib.hid (HR.out.trans (show _ = true by simp [r2]))
                clear r2
                (refine wp_region_quiet_ext (by kernel_rfl) (by kernel_rfl) ?_; (repeat (go_big_quiet_step ((fail)))); refine wpQuiet_nil ?_; rintro wq ⟨⟨_, hbq⟩, rfl⟩; obtain ⟨hccq, hffq⟩ := Bw.cells hbq; have hszq := Bw.size hbq)
                go_wp2
                go_meet
                exact ⟨by rw [HG2.out], Lib.hid hbq⟩
            · have r1b : (a0 != b0) = true := by simpa using r1
              have HG2 := Lib.hid (HR.out.trans (show _ = true by simp [r1]))
              clear r1
              (refine wp_region_quiet_ext (by kernel_rfl) (by kernel_rfl) ?_; (repeat (go_big_quiet_step ((fail)))); refine wpQuiet_nil ?_; rintro wq ⟨⟨_, hbq⟩, rfl⟩; obtain ⟨hccq, hffq⟩ := Bw.cells hbq; have hszq := Bw.size hbq)
              go_wp2
              go_meet
              exact ⟨by rw [HG2.out], Lib.hid hbq⟩
          case rest =>
            obtain ⟨rfl, hb9⟩ := hcut
            have hb9 := hb9.out
            replace HWD := Lib.hid (HWD.out.trans hb9)
            replace KN := Lib.hid (KN.out.bw hb9)
            replace KL := Lib.hid (KL.out.bw hb9)
            replace HDA := Lib.hid (HDA.out.bw hb9)
            clear hb9 KEb KMb
            obtain ⟨wd, hwd⟩ : ∃ wd, wd = wc := ⟨_, rfl⟩
            subst hwd
            have HBP := Lib.hid (show ∀ j, j < 3 → Big (P.Z j) from fun j hj => mix_big HM.out HEE.out j hj)
            go_upto_if 121 with fail
            go_cut [121, 122] from 213 (fun _ _ wx => Hid (Bw wm wx) ∧ Hid (Blk wx (gp + 1) 22 (lsV (fun j => if resB E now c then -1 else L j))) ∧ Hid (Blk wx gp 43 (ptV P.h P.is P.pr Da)) ∧ Hid (Dat3 wx Da P.Z))
            case first =>
              cases hrs : resB E now c with
              | true =>
                go_wp2_with ((with_reducible refine at_store 22 (.tmp 13) (.tmp 122) ?_); refine wpList_store_row rfl 22 (.tmp 13) (.tmp 122) rfl (gp + 1) (lsV (fun _ => -1)) rfl rfl 22 _ KL.out (by kernel_rfl) rfl (by simp [Value.oneCell', lsV]) ?_)
                go_meet
                exact ⟨Lib.hid (Bw.setRow HWD.out (show wm.heap.size ≤ gp + 1 by have := HGP.out; omega) _), by rw [hrs]; exact Lib.hid (KL.out.row _), Lib.hid (KN.out.row_other (by omega) _), Lib.hid (HDA.out.row HBP.out KL.out (show (lsV L).size ≤ 19 from (by decide : 3 ≤ 19)) _)⟩
              | false =>
                go_wp2
                go_meet
                exact ⟨HWD, by rw [hrs]; exact KL, KN, HDA⟩
            case rest =>
              clear KN KL HDA HWD
              obtain ⟨HWD, KL, KN, HDA⟩ := hcut
              obtain ⟨we, hwe⟩ : ∃ we, we = wc := ⟨_, rfl⟩
              subst hwe
              have kl := KL.out.cell (lsV_at (fun j => if resB E now c then -1 else L j) k HKK.out)
              have hfz := KL.out.frozen k
              go_upto_region 24 with fail
              clear kl hfz
              have hkx : Kx (gp + 1) we (we.setCell ⟨gp + 1, k, none⟩ (.int .i64 c)) := Kx.set KL.out.lt _
              replace HDA := Lib.hid (show Dat3 (we.setCell ⟨gp + 1, k, none⟩ (.int .i64 c)) Da P.Z from HDA.out.kx HBP.out KL.out (show (lsV (fun j => if resB E now c then -1 else L j)).size ≤ 19 from (by decide : 3 ≤ 19)) hkx)
              replace KN := Lib.hid (hkx.blk KN.out (by omega))
              replace HWD := Lib.hid (hkx.bw HWD.out (by have := HGP.out; omega))
              replace KL := Lib.hid (KL.out.set k (.int .i64 c))
              rw [lsV_nx L (resB E now c) c k HKK.out] at KL
              clear hkx
              generalize World.setCell we _ _ = wv at *
              have KMb := Lib.hid (KM.out.bw HWD.out)
              have d3 := KMb.out.cell (mV_at D c HC.out)
              obtain ⟨hXE, gf, cf0, tm, DD, hDc, hcf, hgf, hr3⟩ := (HMR.out c HC.out).bw HWD.out
              rw [hDc] at d3
              clear hDc
              have HXE := Lib.hid hXE
              have HRb := Lib.hid hr3
              have HCF := Lib.hid hcf
              clear hXE hr3 hgf hcf
              go_upto_region 26 with fail
              obtain ⟨d0, d1, d2⟩ := HRb.out.c k HKK.out
              obtain ⟨af, cf, hfd⟩ := (HRb.out.d k HKK.out).1.form
              have HDK := Lib.hid (HRb.out.d k HKK.out)
              rw [hfd] at d2 HDK
              clear hfd
              obtain ⟨LN, hLN⟩ : ∃ LN, LN = (FrE (E c) k).length := ⟨_, rfl⟩
              rw [← hLN] at d2 HDK
              clear hLN
              have AD := Lib.hid (fun W (q : Bw wv W) => Add26_any P Da (tm k) ((k : Int) + 1) (FrE (E c) k) (.slice af LN cf) W (HDA.out.bw q) (HDK.out.1.mono q) HDK.out.2)
              obtain ⟨b1, b2, b3, b4⟩ := mix_add HM.out HC.out HKK.out HXE.out (HRb.out.t k HKK.out)
              have HBIG := Lib.hid (add_big P (tm k) ((k : Int) + 1) (FrE (E c) k))
              generalize addR P (tm k) ((k : Int) + 1) (FrE (E c) k) = R at AD HBIG b1 b2 b3 b4
              obtain ⟨Q, XR, dn, er⟩ := R
              unfold AddP at AD
              dsimp only at AD HBIG b1 b2 b3 b4
              subst b1
              have HLL := Lib.hid (show ∀ j, j < 3 → -1 ≤ nxL L (resB E now c) c k j ∧ nxL L (resB E now c) c k j < 3 from fun j hj => by
                have h8 := HM.out.lo j hj
                have h7 := HC.out
                unfold nxL
                split
                · omega
                · split
                  · omega
                  · exact h8)
              generalize nxL L (resB E now c) c k = LL at *
              have HB2 := Lib.hid b2
              have HB3' := Lib.hid b3
              have HB4 := Lib.hid b4
              clear b2 b3 b4
              generalize tm k = t at *
              go_cut [18, 19, 20, 21] from 213 (fun s18 s19 s20 s21 wx => ∃ g9 g10 D9, wv.heap.size ≤ g9 ∧ wv.heap.size ≤ g10 ∧ s18 = .pointer (some ⟨g9, 0, none⟩) ∧ s19 = .pointer (some ⟨g10, 0, none⟩) ∧ s20 = .bool dn ∧ s21 = .int .i64 0 ∧ Hid (Bw wv wx) ∧ Hid (Blk wx g9 43 (ptV Q.h Q.is Q.pr D9)) ∧ Hid (Blk wx g10 25 (eV XR)) ∧ Hid (Dat3 wx D9 Q.Z))
              case first =>
                refine wp_region_held_drew (S := Bw wv) (by kernel_rfl) (Bw.drew (Bw.refl _)) (fun hS => ?_)
                generalize World.drew _ = wd at hS ⊢
                refine take1 (i := 0) (some 134) rfl rfl (by kernel_rfl) (by kernel_rfl) (by kernel_rfl) (fun _ _ _ _ h => h) rfl hS ?_
                refine Exists.intro (.agg (ptV P.h P.is P.pr Da)) ?_
                apply And.intro
                · intro W9 hW9; have y0 := hW9.cell' d0; have y1 := hW9.cell' d1; have y2 := hW9.cell' d2; have y3 := hW9.cell' d3; exact run_load_row 43 _ rfl gp rfl 43 (ptV P.h P.is P.pr Da) _ (KN.out.bw hW9) Try.underlying43 rfl (by kernel_rfl)
                simp only [Act.put, List.setIfInBounds_toArray, List.set_cons_zero, List.set_cons_succ]
                refine take1 (i := 1) (some 135) rfl rfl (by kernel_rfl) (by kernel_rfl) (by kernel_rfl) (fun _ _ _ _ h => h) rfl hS ?_
                apply Exists.intro
                apply And.intro
                · intro W9 hW9; have y0 := hW9.cell' d0; have y1 := hW9.cell' d1; have y2 := hW9.cell' d2; have y3 := hW9.cell' d3; go_simp; try with_reducible rfl
                simp only [Act.put, List.setIfInBounds_toArray, List.set_cons_zero, List.set_cons_succ]
                refine take1 (i := 2) (some 136) rfl rfl (by kernel_rfl) (by kernel_rfl) (by kernel_rfl) (fun _ _ _ _ h => h) rfl hS ?_
                apply Exists.intro
                apply And.intro
                · intro W9 hW9; have y0 := hW9.cell' d0; have y1 := hW9.cell' d1; have y2 := hW9.cell' d2; have y3 := hW9.cell' d3; go_simp; try with_reducible rfl
                simp only [Act.put, List.setIfInBounds_toArray, List.set_cons_zero, List.set_cons_succ]
                refine take1 (i := 3) (some 137) rfl rfl (by kernel_rfl) (by kernel_rfl) (by kernel_rfl) (fun _ _ _ _ h => h) rfl hS ?_
                refine Exists.intro (.slice (some ⟨gf, 0, none⟩) 3 cf0) ?_
                apply And.intro
                · intro W9 hW9; have y0 := hW9.cell' d0; have y1 := hW9.cell' d1; have y2 := hW9.cell' d2; have y3 := hW9.cell' d3; go_simp; (try go_bits); (try with_reducible rfl); (try trivial)
                simp only [Act.put, List.setIfInBounds_toArray, List.set_cons_zero, List.set_cons_succ]
                refine take1 (i := 4) (some 138) rfl rfl (by kernel_rfl) (by kernel_rfl) (by kernel_rfl) (fun _ _ _ _ h => h) rfl hS ?_
                apply Exists.intro
                apply And.intro
                · intro W9 hW9; have y0 := hW9.cell' d0; have y1 := hW9.cell' d1; have y2 := hW9.cell' d2; have y3 := hW9.cell' d3; go_simp; try with_reducible rfl
                simp only [Act.put, List.setIfInBounds_toArray, List.set_cons_zero, List.set_cons_succ]
                refine take1 (i := 5) (some 139) rfl rfl (by kernel_rfl) (by kernel_rfl) (by kernel_rfl) (fun _ _ _ _ h => h) rfl hS ?_
                apply Exists.intro
                apply And.intro
                · intro W9 hW9; have y0 := hW9.cell' d0; have y1 := hW9.cell' d1; have y2 := hW9.cell' d2; have y3 := hW9.cell' d3; go_simp; try with_reducible rfl
                simp only [Act.put, List.setIfInBounds_toArray, List.set_cons_zero, List.set_cons_succ]
                refine take1 (i := 6) (some 140) rfl rfl (by kernel_rfl) (by kernel_rfl) (by kernel_rfl) (fun _ _ _ _ h => h) rfl hS ?_
                refine Exists.intro (.agg #[.int .i64 t, .int .i64 ((k : Int) + 1), .slice af LN cf]) ?_
                apply And.intro
                · intro W9 hW9; have y0 := hW9.cell' d0; have y1 := hW9.cell' d1; have y2 := hW9.cell' d2; have y3 := hW9.cell' d3; go_simp; (try go_bits); (try with_reducible rfl); (try trivial)
                simp only [Act.put, List.setIfInBounds_toArray, List.set_cons_zero, List.set_cons_succ]
                refine wpAnyH_ready (rs := [7, 13, 14]) (by kernel_rfl) (by simp) ?_
                refine AllReadyH.cons rfl (fun K hK => ?_) ?_
                go_simp
                go_wp2_with (go_at_call 20; (with_reducible refine Calls.mono (AD.out _ hS) ?_); rintro e1 w13 ⟨⟨D9, rfl, hd9⟩, hb13⟩)
                have HD9 := Lib.hid (show Dat3 w13 D9 Q.Z from hd9)
                clear hd9
                refine hK.out _ _ (hS.trans hb13) (fun hS => ?_)
                clear hK K
                clear hb13
                refine take1 (i := 8) (some 133) rfl rfl (by kernel_rfl) (by kernel_rfl) (by kernel_rfl) (fun _ _ _ _ h => h) rfl hS ?_
                apply Exists.intro
                apply And.intro
                · intro W9 hW9; have y0 := hW9.cell' d0; have y1 := hW9.cell' d1; have y2 := hW9.cell' d2; have y3 := hW9.cell' d3; go_simp; try with_reducible rfl
                simp only [Act.put, List.setIfInBounds_toArray, List.set_cons_zero, List.set_cons_succ]
                refine take1 (i := 9) (some 142) rfl rfl (by kernel_rfl) (by kernel_rfl) (by kernel_rfl) (fun _ _ _ _ h => h) rfl hS ?_
                apply Exists.intro
                apply And.intro
                · intro W9 hW9; have y0 := hW9.cell' d0; have y1 := hW9.cell' d1; have y2 := hW9.cell' d2; have y3 := hW9.cell' d3; go_simp; try with_reducible rfl
                simp only [Act.put, List.setIfInBounds_toArray, List.set_cons_zero, List.set_cons_succ]
                refine take1 (i := 10) (some 143) rfl rfl (by kernel_rfl) (by kernel_rfl) (by kernel_rfl) (fun _ _ _ _ h => h) rfl hS ?_
                apply Exists.intro
                apply And.intro
                · intro W9 hW9; have y0 := hW9.cell' d0; have y1 := hW9.cell' d1; have y2 := hW9.cell' d2; have y3 := hW9.cell' d3; go_simp; try with_reducible rfl
                simp only [Act.put, List.setIfInBounds_toArray, List.set_cons_zero, List.set_cons_succ]
                refine take1 (i := 11) (some 144) rfl rfl (by kernel_rfl) (by kernel_rfl) (by kernel_rfl) (fun _ _ _ _ h => h) rfl hS ?_
                apply Exists.intro
                apply And.intro
                · intro W9 hW9; have y0 := hW9.cell' d0; have y1 := hW9.cell' d1; have y2 := hW9.cell' d2; have y3 := hW9.cell' d3; go_simp; try with_reducible rfl
                simp only [Act.put, List.setIfInBounds_toArray, List.set_cons_zero, List.set_cons_succ]
                refine take1 (i := 12) (some 145) rfl rfl (by kernel_rfl) (by kernel_rfl) (by kernel_rfl) (fun _ _ _ _ h => h) rfl hS ?_
                apply Exists.intro
                apply And.intro
                · intro W9 hW9; have y0 := hW9.cell' d0; have y1 := hW9.cell' d1; have y2 := hW9.cell' d2; have y3 := hW9.cell' d3; go_simp; try with_reducible rfl
                simp only [Act.put, List.setIfInBounds_toArray, List.set_cons_zero, List.set_cons_succ]
                refine wpAnyH_ready (rs := [13, 14]) (by kernel_rfl) (by simp) ?_
                refine AllReadyH.cons rfl (fun K hK => ?_) ?_
                rw [if_pos (by rfl)]
                refine wp_alloc_new 43 rfl (some 18) rfl _ (zeroPt _) ?_
                intro g9 w5 hg9 hN hbw
                simp only [Act.put, List.setIfInBounds_toArray, List.set_cons_zero, List.set_cons_succ]
                have Kg9 := Lib.hid hN
                have Hg9 := Lib.hid (Nat.le_trans hS.size hg9)
                replace HD9 := Lib.hid (HD9.out.bw hbw)
                clear hN
                refine hK.out _ _ (hS.trans hbw) (fun hS => ?_)
                clear hK K
                clear hbw hg9
                refine wpAnyH_ready (rs := [14]) (by kernel_rfl) (by simp) ?_
                refine AllReadyH.cons rfl (fun K hK => ?_) ?_
                rw [if_pos (by rfl)]
                refine wp_alloc_new 25 rfl (some 19) rfl _ (zeroEp _) ?_
                intro g10 w6 hg9 hN hbw
                simp only [Act.put, List.setIfInBounds_toArray, List.set_cons_zero, List.set_cons_succ]
                have Kg10 := Lib.hid hN
                have Hg10 := Lib.hid (Nat.le_trans hS.size hg9)
                replace HD9 := Lib.hid (HD9.out.bw hbw)
                replace Kg9 := Lib.hid (Kg9.out.bw hbw)
                clear hN
                refine hK.out _ _ (hS.trans hbw) (fun hS => ?_)
                clear hK K
                clear hbw hg9
                refine wpAnyH_ready (rs := [15]) (by kernel_rfl) (by simp) ?_
                refine AllReadyH.cons rfl (fun K hK => ?_) ?_
                rw [if_pos (by rfl)]
                refine wp_store_row0 43 _ _ rfl rfl g9 (ptV Q.h Q.is Q.pr D9) rfl rfl 43 #[.bool false, .bool false, .bool false, .int .i64 0, .int .i64 0, .slice none 0 0, .slice none 0 0, .slice none 0 0] Kg9.out (by kernel_rfl) rfl (HD9.out.one _ _ _) ?_
                replace HD9 := Lib.hid (HD9.out.row HBIG.out Kg9.out (by decide) (ptV Q.h Q.is Q.pr D9))
                replace Kg10 := Lib.hid (Kg10.out.row_other (g' := g9) (Blk.ne Kg10.out Kg9.out (by decide)) (ptV Q.h Q.is Q.pr D9))
                replace Kg9 := Lib.hid (Kg9.out.row (ptV Q.h Q.is Q.pr D9))
                refine hK.out _ _ (Bw.setRow hS Hg9.out (ptV Q.h Q.is Q.pr D9)) (fun hS => ?_)
                clear hK K
                refine wpAnyH_ready (rs := [16]) (by kernel_rfl) (by simp) ?_
                refine AllReadyH.cons rfl (fun K hK => ?_) ?_
                rw [if_pos (by rfl)]
                refine wp_store_row0 25 _ _ rfl rfl g10 (eV XR) rfl rfl 25 #[.int .i64 0, .int .i64 0, .int .i64 0, .int .i64 0, .int .i64 0, .int .i64 0, .int .i64 0, .int .i64 0, .int .i64 0, .int .i64 0, .int .i64 0, .int .i64 0, .int .i64 0, .int .i64 0, .int .i64 0, .int .i64 0, .int .i64 0, .int .i64 0, .int .i64 0] Kg10.out (by kernel_rfl) rfl (by simp [Value.oneCell', eV]) ?_
                replace HD9 := Lib.hid (HD9.out.row HBIG.out Kg10.out (by decide) (eV XR))
                replace Kg9 := Lib.hid (Kg9.out.row_other (g' := g10) (Blk.ne Kg9.out Kg10.out (by decide)) (eV XR))
                replace Kg10 := Lib.hid (Kg10.out.row (eV XR))
                refine hK.out _ _ (Bw.setRow hS Hg10.out (eV XR)) (fun hS => ?_)
                clear hK K
                refine take1 (i := 17) (some 20) rfl rfl (by kernel_rfl) (by kernel_rfl) (by kernel_rfl) (fun _ _ _ _ h => h) rfl hS ?_
                apply Exists.intro
                apply And.intro
                · intro W9 hW9; have y0 := hW9.cell' d0; have y1 := hW9.cell' d1; have y2 := hW9.cell' d2; have y3 := hW9.cell' d3; go_simp; try with_reducible rfl
                simp only [Act.put, List.setIfInBounds_toArray, List.set_cons_zero, List.set_cons_succ]
                refine take1 (i := 18) (some 21) rfl rfl (by kernel_rfl) (by kernel_rfl) (by kernel_rfl) (fun _ _ _ _ h => h) rfl hS ?_
                apply Exists.intro
                apply And.intro
                · intro W9 hW9; have y0 := hW9.cell' d0; have y1 := hW9.cell' d1; have y2 := hW9.cell' d2; have y3 := hW9.cell' d3; go_simp; try with_reducible rfl
                simp only [Act.put, List.setIfInBounds_toArray, List.set_cons_zero, List.set_cons_succ]
                refine wpAnyH_done (by kernel_rfl) ?_ _
                rotate_left
                exact AllReadyH.nil
                exact AllReadyH.nil
                exact AllReadyH.nil
                refine AllReadyH.cons rfl (fun K hK => ?_) ?_
                rw [if_pos (by rfl)]
                refine wp_alloc_new 25 rfl (some 19) rfl _ (zeroEp _) ?_
                intro g10 w6 hg9 hN hbw
                simp only [Act.put, List.setIfInBounds_toArray, List.set_cons_zero, List.set_cons_succ]
                have Kg10 := Lib.hid hN
                have Hg10 := Lib.hid (Nat.le_trans hS.size hg9)
                replace HD9 := Lib.hid (HD9.out.bw hbw)
                clear hN
                refine hK.out _ _ (hS.trans hbw) (fun hS => ?_)
                clear hK K
                clear hbw hg9
                refine wpAnyH_ready (rs := [13]) (by kernel_rfl) (by simp) ?_
                refine AllReadyH.cons rfl (fun K hK => ?_) ?_
                rw [if_pos (by rfl)]
                refine wp_alloc_new 43 rfl (some 18) rfl _ (zeroPt _) ?_
                intro g9 w5 hg9 hN hbw
                simp only [Act.put, List.setIfInBounds_toArray, List.set_cons_zero, List.set_cons_succ]
                have Kg9 := Lib.hid hN
                have Hg9 := Lib.hid (Nat.le_trans hS.size hg9)
                replace HD9 := Lib.hid (HD9.out.bw hbw)
                replace Kg10 := Lib.hid (Kg10.out.bw hbw)
                clear hN
                refine hK.out _ _ (hS.trans hbw) (fun hS => ?_)
                clear hK K
                clear hbw hg9
                refine wpAnyH_ready (rs := [15]) (by kernel_rfl) (by simp) ?_
                refine AllReadyH.cons rfl (fun K hK => ?_) ?_
                rw [if_pos (by rfl)]
                refine wp_store_row0 43 _ _ rfl rfl g9 (ptV Q.h Q.is Q.pr D9) rfl rfl 43 #[.bool false, .bool false, .bool false, .int .i64 0, .int .i64 0, .slice none 0 0, .slice none 0 0, .slice none 0 0] Kg9.out (by kernel_rfl) rfl (HD9.out.one _ _ _) ?_
                replace HD9 := Lib.hid (HD9.out.row HBIG.out Kg9.out (by decide) (ptV Q.h Q.is Q.pr D9))
                replace Kg10 := Lib.hid (Kg10.out.row_other (g' := g9) (Blk.ne Kg10.out Kg9.out (by decide)) (ptV Q.h Q.is Q.pr D9))
                replace Kg9 := Lib.hid (Kg9.out.row (ptV Q.h Q.is Q.pr D9))
                refine hK.out _ _ (Bw.setRow hS Hg9.out (ptV Q.h Q.is Q.pr D9)) (fun hS => ?_)
                clear hK K
                refine wpAnyH_ready (rs := [16]) (by kernel_rfl) (by simp) ?_
                refine AllReadyH.cons rfl (fun K hK => ?_) ?_
                rw [if_pos (by rfl)]
                refine wp_store_row0 25 _ _ rfl rfl g10 (eV XR) rfl rfl 25 #[.int .i64 0, .int .i64 0, .int .i64 0, .int .i64 0, .int .i64 0, .int .i64 0, .int .i64 0, .int .i64 0, .int .i64 0, .int .i64 0, .int .i64 0, .int .i64 0, .int .i64 0, .int .i64 0, .int .i64 0, .int .i64 0, .int .i64 0, .int .i64 0, .int .i64 0] Kg10.out (by kernel_rfl) rfl (by simp [Value.oneCell', eV]) ?_
                replace HD9 := Lib.hid (HD9.out.row HBIG.out Kg10.out (by decide) (eV XR))
                replace Kg9 := Lib.hid (Kg9.out.row_other (g' := g10) (Blk.ne Kg9.out Kg10.out (by decide)) (eV XR))
                replace Kg10 := Lib.hid (Kg10.out.row (eV XR))
                refine hK.out _ _ (Bw.setRow hS Hg10.out (eV XR)) (fun hS => ?_)
                clear hK K
                refine take1 (i := 17) (some 20) rfl rfl (by kernel_rfl) (by kernel_rfl) (by kernel_rfl) (fun _ _ _ _ h => h) rfl hS ?_
                apply Exists.intro
                apply And.intro
                · intro W9 hW9; have y0 := hW9.cell' d0; have y1 := hW9.cell' d1; have y2 := hW9.cell' d2; have y3 := hW9.cell' d3; go_simp; try with_reducible rfl
                simp only [Act.put, List.setIfInBounds_toArray, List.set_cons_zero, List.set_cons_succ]
                refine take1 (i := 18) (some 21) rfl rfl (by kernel_rfl) (by kernel_rfl) (by kernel_rfl) (fun _ _ _ _ h => h) rfl hS ?_
                apply Exists.intro
                apply And.intro
                · intro W9 hW9; have y0 := hW9.cell' d0; have y1 := hW9.cell' d1; have y2 := hW9.cell' d2; have y3 := hW9.cell' d3; go_simp; try with_reducible rfl
                simp only [Act.put, List.setIfInBounds_toArray, List.set_cons_zero, List.set_cons_succ]
                refine wpAnyH_done (by kernel_rfl) ?_ _
                rotate_left
                exact AllReadyH.nil
                exact AllReadyH.nil
                exact AllReadyH.nil
                exact AllReadyH.nil
                refine AllReadyH.cons rfl (fun K hK => ?_) ?_
                rw [if_pos (by rfl)]
                refine wp_alloc_new 43 rfl (some 18) rfl _ (zeroPt _) ?_
                intro g9 w5 hg9 hN hbw
                simp only [Act.put, List.setIfInBounds_toArray, List.set_cons_zero, List.set_cons_succ]
                have Kg9 := Lib.hid hN
                have Hg9 := Lib.hid (Nat.le_trans hS.size hg9)
                clear hN
                refine hK.out _ _ (hS.trans hbw) (fun hS => ?_)
                clear hK K
                clear hbw hg9
                refine wpAnyH_ready (rs := [7, 14]) (by kernel_rfl) (by simp) ?_
                refine AllReadyH.cons rfl (fun K hK => ?_) ?_
                go_simp
                go_wp2_with (go_at_call 20; (with_reducible refine Calls.mono (AD.out _ hS) ?_); rintro e1 w13 ⟨⟨D9, rfl, hd9⟩, hb13⟩)
                have HD9 := Lib.hid (show Dat3 w13 D9 Q.Z from hd9)
                clear hd9
                replace Kg9 := Lib.hid (Kg9.out.bw hb13)
                refine hK.out _ _ (hS.trans hb13) (fun hS => ?_)
                clear hK K
                clear hb13
                refine take1 (i := 8) (some 133) rfl rfl (by kernel_rfl) (by kernel_rfl) (by kernel_rfl) (fun _ _ _ _ h => h) rfl hS ?_
                apply Exists.intro
                apply And.intro
                · intro W9 hW9; have y0 := hW9.cell' d0; have y1 := hW9.cell' d1; have y2 := hW9.cell' d2; have y3 := hW9.cell' d3; go_simp; try with_reducible rfl
                simp only [Act.put, List.setIfInBounds_toArray, List.set_cons_zero, List.set_cons_succ]
                refine take1 (i := 9) (some 142) rfl rfl (by kernel_rfl) (by kernel_rfl) (by kernel_rfl) (fun _ _ _ _ h => h) rfl hS ?_
                apply Exists.intro
                apply And.intro
                · intro W9 hW9; have y0 := hW9.cell' d0; have y1 := hW9.cell' d1; have y2 := hW9.cell' d2; have y3 := hW9.cell' d3; go_simp; try with_reducible rfl
                simp only [Act.put, List.setIfInBounds_toArray, List.set_cons_zero, List.set_cons_succ]
                refine take1 (i := 10) (some 143) rfl rfl (by kernel_rfl) (by kernel_rfl) (by kernel_rfl) (fun _ _ _ _ h => h) rfl hS ?_
                apply Exists.intro
                apply And.intro
                · intro W9 hW9; have y0 := hW9.cell' d0; have y1 := hW9.cell' d1; have y2 := hW9.cell' d2; have y3 := hW9.cell' d3; go_simp; try with_reducible rfl
                simp only [Act.put, List.setIfInBounds_toArray, List.set_cons_zero, List.set_cons_succ]
                refine take1 (i := 11) (some 144) rfl rfl (by kernel_rfl) (by kernel_rfl) (by kernel_rfl) (fun _ _ _ _ h => h) rfl hS ?_
                apply Exists.intro
                apply And.intro
                · intro W9 hW9; have y0 := hW9.cell' d0; have y1 := hW9.cell' d1; have y2 := hW9.cell' d2; have y3 := hW9.cell' d3; go_simp; try with_reducible rfl
                simp only [Act.put, List.setIfInBounds_toArray, List.set_cons_zero, List.set_cons_succ]
                refine take1 (i := 12) (some 145) rfl rfl (by kernel_rfl) (by kernel_rfl) (by kernel_rfl) (fun _ _ _ _ h => h) rfl hS ?_
                apply Exists.intro
                apply And.intro
                · intro W9 hW9; have y0 := hW9.cell' d0; have y1 := hW9.cell' d1; have y2 := hW9.cell' d2; have y3 := hW9.cell' d3; go_simp; try with_reducible rfl
                simp only [Act.put, List.setIfInBounds_toArray, List.set_cons_zero, List.set_cons_succ]
                refine wpAnyH_ready (rs := [14]) (by kernel_rfl) (by simp) ?_
                refine AllReadyH.cons rfl (fun K hK => ?_) ?_
                rw [if_pos (by rfl)]
                refine wp_alloc_new 25 rfl (some 19) rfl _ (zeroEp _) ?_
                intro g10 w6 hg9 hN hbw
                simp only [Act.put, List.setIfInBounds_toArray, List.set_cons_zero, List.set_cons_succ]
                have Kg10 := Lib.hid hN
                have Hg10 := Lib.hid (Nat.le_trans hS.size hg9)
                replace HD9 := Lib.hid (HD9.out.bw hbw)
                replace Kg9 := Lib.hid (Kg9.out.bw hbw)
                clear hN
                refine hK.out _ _ (hS.trans hbw) (fun hS => ?_)
                clear hK K
                clear hbw hg9
                refine wpAnyH_ready (rs := [15]) (by kernel_rfl) (by simp) ?_
                refine AllReadyH.cons rfl (fun K hK => ?_) ?_
                rw [if_pos (by rfl)]
                refine wp_store_row0 43 _ _ rfl rfl g9 (ptV Q.h Q.is Q.pr D9) rfl rfl 43 #[.bool false, .bool false, .bool false, .int .i64 0, .int .i64 0, .slice none 0 0, .slice none 0 0, .slice none 0 0] Kg9.out (by kernel_rfl) rfl (HD9.out.one _ _ _) ?_
                replace HD9 := Lib.hid (HD9.out.row HBIG.out Kg9.out (by decide) (ptV Q.h Q.is Q.pr D9))
                replace Kg10 := Lib.hid (Kg10.out.row_other (g' := g9) (Blk.ne Kg10.out Kg9.out (by decide)) (ptV Q.h Q.is Q.pr D9))
                replace Kg9 := Lib.hid (Kg9.out.row (ptV Q.h Q.is Q.pr D9))
                refine hK.out _ _ (Bw.setRow hS Hg9.out (ptV Q.h Q.is Q.pr D9)) (fun hS => ?_)
                clear hK K
                refine wpAnyH_ready (rs := [16]) (by kernel_rfl) (by simp) ?_
                refine AllReadyH.cons rfl (fun K hK => ?_) ?_
                rw [if_pos (by rfl)]
                refine wp_store_row0 25 _ _ rfl rfl g10 (eV XR) rfl rfl 25 #[.int .i64 0, .int .i64 0, .int .i64 0, .int .i64 0, .int .i64 0, .int .i64 0, .int .i64 0, .int .i64 0, .int .i64 0, .int .i64 0, .int .i64 0, .int .i64 0, .int .i64 0, .int .i64 0, .int .i64 0, .int .i64 0, .int .i64 0, .int .i64 0, .int .i64 0] Kg10.out (by kernel_rfl) rfl (by simp [Value.oneCell', eV]) ?_
                replace HD9 := Lib.hid (HD9.out.row HBIG.out Kg10.out (by decide) (eV XR))
                replace Kg9 := Lib.hid (Kg9.out.row_other (g' := g10) (Blk.ne Kg9.out Kg10.out (by decide)) (eV XR))
                replace Kg10 := Lib.hid (Kg10.out.row (eV XR))
                refine hK.out _ _ (Bw.setRow hS Hg10.out (eV XR)) (fun hS => ?_)
                clear hK K
                refine take1 (i := 17) (some 20) rfl rfl (by kernel_rfl) (by kernel_rfl) (by kernel_rfl) (fun _ _ _ _ h => h) rfl hS ?_
                apply Exists.intro
                apply And.intro
                · intro W9 hW9; have y0 := hW9.cell' d0; have y1 := hW9.cell' d1; have y2 := hW9.cell' d2; have y3 := hW9.cell' d3; go_simp; try with_reducible rfl
                simp only [Act.put, List.setIfInBounds_toArray, List.set_cons_zero, List.set_cons_succ]
                refine take1 (i := 18) (some 21) rfl rfl (by kernel_rfl) (by kernel_rfl) (by kernel_rfl) (fun _ _ _ _ h => h) rfl hS ?_
                apply Exists.intro
                apply And.intro
                · intro W9 hW9; have y0 := hW9.cell' d0; have y1 := hW9.cell' d1; have y2 := hW9.cell' d2; have y3 := hW9.cell' d3; go_simp; try with_reducible rfl
                simp only [Act.put, List.setIfInBounds_toArray, List.set_cons_zero, List.set_cons_succ]
                refine wpAnyH_done (by kernel_rfl) ?_ _
                rotate_left
                exact AllReadyH.nil
                exact AllReadyH.nil
                exact AllReadyH.nil
                refine AllReadyH.cons rfl (fun K hK => ?_) ?_
                rw [if_pos (by rfl)]
                refine wp_alloc_new 25 rfl (some 19) rfl _ (zeroEp _) ?_
                intro g10 w6 hg9 hN hbw
                simp only [Act.put, List.setIfInBounds_toArray, List.set_cons_zero, List.set_cons_succ]
                have Kg10 := Lib.hid hN
                have Hg10 := Lib.hid (Nat.le_trans hS.size hg9)
                replace Kg9 := Lib.hid (Kg9.out.bw hbw)
                clear hN
                refine hK.out _ _ (hS.trans hbw) (fun hS => ?_)
                clear hK K
                clear hbw hg9
                refine wpAnyH_ready (rs := [7]) (by kernel_rfl) (by simp) ?_
                refine AllReadyH.cons rfl (fun K hK => ?_) ?_
                go_simp
                go_wp2_with (go_at_call 20; (with_reducible refine Calls.mono (AD.out _ hS) ?_); rintro e1 w13 ⟨⟨D9, rfl, hd9⟩, hb13⟩)
                have HD9 := Lib.hid (show Dat3 w13 D9 Q.Z from hd9)
                clear hd9
                replace Kg9 := Lib.hid (Kg9.out.bw hb13)
                replace Kg10 := Lib.hid (Kg10.out.bw hb13)
                refine hK.out _ _ (hS.trans hb13) (fun hS => ?_)
                clear hK K
                clear hb13
                refine take1 (i := 8) (some 133) rfl rfl (by kernel_rfl) (by kernel_rfl) (by kernel_rfl) (fun _ _ _ _ h => h) rfl hS ?_
                apply Exists.intro
                apply And.intro
                · intro W9 hW9; have y0 := hW9.cell' d0; have y1 := hW9.cell' d1; have y2 := hW9.cell' d2; have y3 := hW9.cell' d3; go_simp; try with_reducible rfl
                simp only [Act.put, List.setIfInBounds_toArray, List.set_cons_zero, List.set_cons_succ]
                refine take1 (i := 9) (some 142) rfl rfl (by kernel_rfl) (by kernel_rfl) (by kernel_rfl) (fun _ _ _ _ h => h) rfl hS ?_
                apply Exists.intro
                apply And.intro
                · intro W9 hW9; have y0 := hW9.cell' d0; have y1 := hW9.cell' d1; have y2 := hW9.cell' d2; have y3 := hW9.cell' d3; go_simp; try with_reducible rfl
                simp only [Act.put, List.setIfInBounds_toArray, List.set_cons_zero, List.set_cons_succ]
                refine take1 (i := 10) (some 143) rfl rfl (by kernel_rfl) (by kernel_rfl) (by kernel_rfl) (fun _ _ _ _ h => h) rfl hS ?_
                apply Exists.intro
                apply And.intro
                · intro W9 hW9; have y0 := hW9.cell' d0; have y1 := hW9.cell' d1; have y2 := hW9.cell' d2; have y3 := hW9.cell' d3; go_simp; try with_reducible rfl
                simp only [Act.put, List.setIfInBounds_toArray, List.set_cons_zero, List.set_cons_succ]
                refine take1 (i := 11) (some 144) rfl rfl (by kernel_rfl) (by kernel_rfl) (by kernel_rfl) (fun _ _ _ _ h => h) rfl hS ?_
                apply Exists.intro
                apply And.intro
                · intro W9 hW9; have y0 := hW9.cell' d0; have y1 := hW9.cell' d1; have y2 := hW9.cell' d2; have y3 := hW9.cell' d3; go_simp; try with_reducible rfl
                simp only [Act.put, List.setIfInBounds_toArray, List.set_cons_zero, List.set_cons_succ]
                refine take1 (i := 12) (some 145) rfl rfl (by kernel_rfl) (by kernel_rfl) (by kernel_rfl) (fun _ _ _ _ h => h) rfl hS ?_
                apply Exists.intro
                apply And.intro
                · intro W9 hW9; have y0 := hW9.cell' d0; have y1 := hW9.cell' d1; have y2 := hW9.cell' d2; have y3 := hW9.cell' d3; go_simp; try with_reducible rfl
                simp only [Act.put, List.setIfInBounds_toArray, List.set_cons_zero, List.set_cons_succ]
                refine wpAnyH_ready (rs := [15]) (by kernel_rfl) (by simp) ?_
                refine AllReadyH.cons rfl (fun K hK => ?_) ?_
                rw [if_pos (by rfl)]
                refine wp_store_row0 43 _ _ rfl rfl g9 (ptV Q.h Q.is Q.pr D9) rfl rfl 43 #[.bool false, .bool false, .bool false, .int .i64 0, .int .i64 0, .slice none 0 0, .slice none 0 0, .slice none 0 0] Kg9.out (by kernel_rfl) rfl (HD9.out.one _ _ _) ?_
                replace HD9 := Lib.hid (HD9.out.row HBIG.out Kg9.out (by decide) (ptV Q.h Q.is Q.pr D9))
                replace Kg10 := Lib.hid (Kg10.out.row_other (g' := g9) (Blk.ne Kg10.out Kg9.out (by decide)) (ptV Q.h Q.is Q.pr D9))
                replace Kg9 := Lib.hid (Kg9.out.row (ptV Q.h Q.is Q.pr D9))
                refine hK.out _ _ (Bw.setRow hS Hg9.out (ptV Q.h Q.is Q.pr D9)) (fun hS => ?_)
                clear hK K
                refine wpAnyH_ready (rs := [16]) (by kernel_rfl) (by simp) ?_
                refine AllReadyH.cons rfl (fun K hK => ?_) ?_
                rw [if_pos (by rfl)]
                refine wp_store_row0 25 _ _ rfl rfl g10 (eV XR) rfl rfl 25 #[.int .i64 0, .int .i64 0, .int .i64 0, .int .i64 0, .int .i64 0, .int .i64 0, .int .i64 0, .int .i64 0, .int .i64 0, .int .i64 0, .int .i64 0, .int .i64 0, .int .i64 0, .int .i64 0, .int .i64 0, .int .i64 0, .int .i64 0, .int .i64 0, .int .i64 0] Kg10.out (by kernel_rfl) rfl (by simp [Value.oneCell', eV]) ?_
                replace HD9 := Lib.hid (HD9.out.row HBIG.out Kg10.out (by decide) (eV XR))
                replace Kg9 := Lib.hid (Kg9.out.row_other (g' := g10) (Blk.ne Kg9.out Kg10.out (by decide)) (eV XR))
                replace Kg10 := Lib.hid (Kg10.out.row (eV XR))
                refine hK.out _ _ (Bw.setRow hS Hg10.out (eV XR)) (fun hS => ?_)
                clear hK K
                refine take1 (i := 17) (some 20) rfl rfl (by kernel_rfl) (by kernel_rfl) (by kernel_rfl) (fun _ _ _ _ h => h) rfl hS ?_
                apply Exists.intro
                apply And.intro
                · intro W9 hW9; have y0 := hW9.cell' d0; have y1 := hW9.cell' d1; have y2 := hW9.cell' d2; have y3 := hW9.cell' d3; go_simp; try with_reducible rfl
                simp only [Act.put, List.setIfInBounds_toArray, List.set_cons_zero, List.set_cons_succ]
                refine take1 (i := 18) (some 21) rfl rfl (by kernel_rfl) (by kernel_rfl) (by kernel_rfl) (fun _ _ _ _ h => h) rfl hS ?_
                apply Exists.intro
                apply And.intro
                · intro W9 hW9; have y0 := hW9.cell' d0; have y1 := hW9.cell' d1; have y2 := hW9.cell' d2; have y3 := hW9.cell' d3; go_simp; try with_reducible rfl
                simp only [Act.put, List.setIfInBounds_toArray, List.set_cons_zero, List.set_cons_succ]
                refine wpAnyH_done (by kernel_rfl) ?_ _
                rotate_left
                exact AllReadyH.nil
                exact AllReadyH.nil
                exact AllReadyH.nil
                exact AllReadyH.nil
                refine AllReadyH.cons rfl (fun K hK => ?_) ?_
                rw [if_pos (by rfl)]
                refine wp_alloc_new 25 rfl (some 19) rfl _ (zeroEp _) ?_
                intro g10 w6 hg9 hN hbw
                simp only [Act.put, List.setIfInBounds_toArray, List.set_cons_zero, List.set_cons_succ]
                have Kg10 := Lib.hid hN
                have Hg10 := Lib.hid (Nat.le_trans hS.size hg9)
                clear hN
                refine hK.out _ _ (hS.trans hbw) (fun hS => ?_)
                clear hK K
                clear hbw hg9
                refine wpAnyH_ready (rs := [7, 13]) (by kernel_rfl) (by simp) ?_
                refine AllReadyH.cons rfl (fun K hK => ?_) ?_
                go_simp
                go_wp2_with (go_at_call 20; (with_reducible refine Calls.mono (AD.out _ hS) ?_); rintro e1 w13 ⟨⟨D9, rfl, hd9⟩, hb13⟩)
                have HD9 := Lib.hid (show Dat3 w13 D9 Q.Z from hd9)
                clear hd9
                replace Kg10 := Lib.hid (Kg10.out.bw hb13)
                refine hK.out _ _ (hS.trans hb13) (fun hS => ?_)
                clear hK K
                clear hb13
                refine take1 (i := 8) (some 133) rfl rfl (by kernel_rfl) (by kernel_rfl) (by kernel_rfl) (fun _ _ _ _ h => h) rfl hS ?_
                apply Exists.intro
                apply And.intro
                · intro W9 hW9; have y0 := hW9.cell' d0; have y1 := hW9.cell' d1; have y2 := hW9.cell' d2; have y3 := hW9.cell' d3; go_simp; try with_reducible rfl
                simp only [Act.put, List.setIfInBounds_toArray, List.set_cons_zero, List.set_cons_succ]
                refine take1 (i := 9) (some 142) rfl rfl (by kernel_rfl) (by kernel_rfl) (by kernel_rfl) (fun _ _ _ _ h => h) rfl hS ?_
                apply Exists.intro
                apply And.intro
                · intro W9 hW9; have y0 := hW9.cell' d0; have y1 := hW9.cell' d1; have y2 := hW9.cell' d2; have y3 := hW9.cell' d3; go_simp; try with_reducible rfl
                simp only [Act.put, List.setIfInBounds_toArray, List.set_cons_zero, List.set_cons_succ]
                refine take1 (i := 10) (some 143) rfl rfl (by kernel_rfl) (by kernel_rfl) (by kernel_rfl) (fun _ _ _ _ h => h) rfl hS ?_
                apply Exists.intro
                apply And.intro
                · intro W9 hW9; have y0 := hW9.cell' d0; have y1 := hW9.cell' d1; have y2 := hW9.cell' d2; have y3 := hW9.cell' d3; go_simp; try with_reducible rfl
                simp only [Act.put, List.setIfInBounds_toArray, List.set_cons_zero, List.set_cons_succ]
                refine take1 (i := 11) (some 144) rfl rfl (by kernel_rfl) (by kernel_rfl) (by kernel_rfl) (fun _ _ _ _ h => h) rfl hS ?_
                apply Exists.intro
                apply And.intro
                · intro W9 hW9; have y0 := hW9.cell' d0; have y1 := hW9.cell' d1; have y2 := hW9.cell' d2; have y3 := hW9.cell' d3; go_simp; try with_reducible rfl
                simp only [Act.put, List.setIfInBounds_toArray, List.set_cons_zero, List.set_cons_succ]
                refine take1 (i := 12) (some 145) rfl rfl (by kernel_rfl) (by kernel_rfl) (by kernel_rfl) (fun _ _ _ _ h => h) rfl hS ?_
                apply Exists.intro
                apply And.intro
                · intro W9 hW9; have y0 := hW9.cell' d0; have y1 := hW9.cell' d1; have y2 := hW9.cell' d2; have y3 := hW9.cell' d3; go_simp; try with_reducible rfl
                simp only [Act.put, List.setIfInBounds_toArray, List.set_cons_zero, List.set_cons_succ]
                refine wpAnyH_ready (rs := [13]) (by kernel_rfl) (by simp) ?_
                refine AllReadyH.cons rfl (fun K hK => ?_) ?_
                rw [if_pos (by rfl)]
                refine wp_alloc_new 43 rfl (some 18) rfl _ (zeroPt _) ?_
                intro g9 w5 hg9 hN hbw
                simp only [Act.put, List.setIfInBounds_toArray, List.set_cons_zero, List.set_cons_succ]
                have Kg9 := Lib.hid hN
                have Hg9 := Lib.hid (Nat.le_trans hS.size hg9)
                replace HD9 := Lib.hid (HD9.out.bw hbw)
                replace Kg10 := Lib.hid (Kg10.out.bw hbw)
                clear hN
                refine hK.out _ _ (hS.trans hbw) (fun hS => ?_)
                clear hK K
                clear hbw hg9
                refine wpAnyH_ready (rs := [15]) (by kernel_rfl) (by simp) ?_
                refine AllReadyH.cons rfl (fun K hK => ?_) ?_
                rw [if_pos (by rfl)]
                refine wp_store_row0 43 _ _ rfl rfl g9 (ptV Q.h Q.is Q.pr D9) rfl rfl 43 #[.bool false, .bool false, .bool false, .int .i64 0, .int .i64 0, .slice none 0 0, .slice none 0 0, .slice none 0 0] Kg9.out (by kernel_rfl) rfl (HD9.out.one _ _ _) ?_
                replace HD9 := Lib.hid (HD9.out.row HBIG.out Kg9.out (by decide) (ptV Q.h Q.is Q.pr D9))
                replace Kg10 := Lib.hid (Kg10.out.row_other (g' := g9) (Blk.ne Kg10.out Kg9.out (by decide)) (ptV Q.h Q.is Q.pr D9))
                replace Kg9 := Lib.hid (Kg9.out.row (ptV Q.h Q.is Q.pr D9))
                refine hK.out _ _ (Bw.setRow hS Hg9.out (ptV Q.h Q.is Q.pr D9)) (fun hS => ?_)
                clear hK K
                refine wpAnyH_ready (rs := [16]) (by kernel_rfl) (by simp) ?_
                refine AllReadyH.cons rfl (fun K hK => ?_) ?_
                rw [if_pos (by rfl)]
                refine wp_store_row0 25 _ _ rfl rfl g10 (eV XR) rfl rfl 25 #[.int .i64 0, .int .i64 0, .int .i64 0, .int .i64 0, .int .i64 0, .int .i64 0, .int .i64 0, .int .i64 0, .int .i64 0, .int .i64 0, .int .i64 0, .int .i64 0, .int .i64 0, .int .i64 0, .int .i64 0, .int .i64 0, .int .i64 0, .int .i64 0, .int .i64 0] Kg10.out (by kernel_rfl) rfl (by simp [Value.oneCell', eV]) ?_
                replace HD9 := Lib.hid (HD9.out.row HBIG.out Kg10.out (by decide) (eV XR))
                replace Kg9 := Lib.hid (Kg9.out.row_other (g' := g10) (Blk.ne Kg9.out Kg10.out (by decide)) (eV XR))
                replace Kg10 := Lib.hid (Kg10.out.row (eV XR))
                refine hK.out _ _ (Bw.setRow hS Hg10.out (eV XR)) (fun hS => ?_)
                clear hK K
                refine take1 (i := 17) (some 20) rfl rfl (by kernel_rfl) (by kernel_rfl) (by kernel_rfl) (fun _ _ _ _ h => h) rfl hS ?_
                apply Exists.intro
                apply And.intro
                · intro W9 hW9; have y0 := hW9.cell' d0; have y1 := hW9.cell' d1; have y2 := hW9.cell' d2; have y3 := hW9.cell' d3; go_simp; try with_reducible rfl
                simp only [Act.put, List.setIfInBounds_toArray, List.set_cons_zero, List.set_cons_succ]
                refine take1 (i := 18) (some 21) rfl rfl (by kernel_rfl) (by kernel_rfl) (by kernel_rfl) (fun _ _ _ _ h => h) rfl hS ?_
                apply Exists.intro
                apply And.intro
                · intro W9 hW9; have y0 := hW9.cell' d0; have y1 := hW9.cell' d1; have y2 := hW9.cell' d2; have y3 := hW9.cell' d3; go_simp; try with_reducible rfl
                simp only [Act.put, List.setIfInBounds_toArray, List.set_cons_zero, List.set_cons_succ]
                refine wpAnyH_done (by kernel_rfl) ?_ _
                rotate_left
                exact AllReadyH.nil
                exact AllReadyH.nil
                exact AllReadyH.nil
                refine AllReadyH.cons rfl (fun K hK => ?_) ?_
                rw [if_pos (by rfl)]
                refine wp_alloc_new 43 rfl (some 18) rfl _ (zeroPt _) ?_
                intro g9 w5 hg9 hN hbw
                simp only [Act.put, List.setIfInBounds_toArray, List.set_cons_zero, List.set_cons_succ]
                have Kg9 := Lib.hid hN
                have Hg9 := Lib.hid (Nat.le_trans hS.size hg9)
                replace Kg10 := Lib.hid (Kg10.out.bw hbw)
                clear hN
                refine hK.out _ _ (hS.trans hbw) (fun hS => ?_)
                clear hK K
                clear hbw hg9
                refine wpAnyH_ready (rs := [7]) (by kernel_rfl) (by simp) ?_
                refine AllReadyH.cons rfl (fun K hK => ?_) ?_
                go_simp
                go_wp2_with (go_at_call 20; (with_reducible refine Calls.mono (AD.out _ hS) ?_); rintro e1 w13 ⟨⟨D9, rfl, hd9⟩, hb13⟩)
                have HD9 := Lib.hid (show Dat3 w13 D9 Q.Z from hd9)
                clear hd9
                replace Kg9 := Lib.hid (Kg9.out.bw hb13)
                replace Kg10 := Lib.hid (Kg10.out.bw hb13)
                refine hK.out _ _ (hS.trans hb13) (fun hS => ?_)
                clear hK K
                clear hb13
                refine take1 (i := 8) (some 133) rfl rfl (by kernel_rfl) (by kernel_rfl) (by kernel_rfl) (fun _ _ _ _ h => h) rfl hS ?_
                apply Exists.intro
                apply And.intro
                · intro W9 hW9; have y0 := hW9.cell' d0; have y1 := hW9.cell' d1; have y2 := hW9.cell' d2; have y3 := hW9.cell' d3; go_simp; try with_reducible rfl
                simp only [Act.put, List.setIfInBounds_toArray, List.set_cons_zero, List.set_cons_succ]
                refine take1 (i := 9) (some 142) rfl rfl (by kernel_rfl) (by kernel_rfl) (by kernel_rfl) (fun _ _ _ _ h => h) rfl hS ?_
                apply Exists.intro
                apply And.intro
                · intro W9 hW9; have y0 := hW9.cell' d0; have y1 := hW9.cell' d1; have y2 := hW9.cell' d2; have y3 := hW9.cell' d3; go_simp; try with_reducible rfl
                simp only [Act.put, List.setIfInBounds_toArray, List.set_cons_zero, List.set_cons_succ]
                refine take1 (i := 10) (some 143) rfl rfl (by kernel_rfl) (by kernel_rfl) (by kernel_rfl) (fun _ _ _ _ h => h) rfl hS ?_
                apply Exists.intro
                apply And.intro
                · intro W9 hW9; have y0 := hW9.cell' d0; have y1 := hW9.cell' d1; have y2 := hW9.cell' d2; have y3 := hW9.cell' d3; go_simp; try with_reducible rfl
                simp only [Act.put, List.setIfInBounds_toArray, List.set_cons_zero, List.set_cons_succ]
                refine take1 (i := 11) (some 144) rfl rfl (by kernel_rfl) (by kernel_rfl) (by kernel_rfl) (fun _ _ _ _ h => h) rfl hS ?_
                apply Exists.intro
                apply And.intro
                · intro W9 hW9; have y0 := hW9.cell' d0; have y1 := hW9.cell' d1; have y2 := hW9.cell' d2; have y3 := hW9.cell' d3; go_simp; try with_reducible rfl
                simp only [Act.put, List.setIfInBounds_toArray, List.set_cons_zero, List.set_cons_succ]
                refine take1 (i := 12) (some 145) rfl rfl (by kernel_rfl) (by kernel_rfl) (by kernel_rfl) (fun _ _ _ _ h => h) rfl hS ?_
                apply Exists.intro
                apply And.intro
                · intro W9 hW9; have y0 := hW9.cell' d0; have y1 := hW9.cell' d1; have y2 := hW9.cell' d2; have y3 := hW9.cell' d3; go_simp; try with_reducible rfl
                simp only [Act.put, List.setIfInBounds_toArray, List.set_cons_zero, List.set_cons_succ]
                refine wpAnyH_ready (rs := [15]) (by kernel_rfl) (by simp) ?_
                refine AllReadyH.cons rfl (fun K hK => ?_) ?_
                rw [if_pos (by rfl)]
                refine wp_store_row0 43 _ _ rfl rfl g9 (ptV Q.h Q.is Q.pr D9) rfl rfl 43 #[.bool false, .bool false, .bool false, .int .i64 0, .int .i64 0, .slice none 0 0, .slice none 0 0, .slice none 0 0] Kg9.out (by kernel_rfl) rfl (HD9.out.one _ _ _) ?_
                replace HD9 := Lib.hid (HD9.out.row HBIG.out Kg9.out (by decide) (ptV Q.h Q.is Q.pr D9))
                replace Kg10 := Lib.hid (Kg10.out.row_other (g' := g9) (Blk.ne Kg10.out Kg9.out (by decide)) (ptV Q.h Q.is Q.pr D9))
                replace Kg9 := Lib.hid (Kg9.out.row (ptV Q.h Q.is Q.pr D9))
                refine hK.out _ _ (Bw.setRow hS Hg9.out (ptV Q.h Q.is Q.pr D9)) (fun hS => ?_)
                clear hK K
                refine wpAnyH_ready (rs := [16]) (by kernel_rfl) (by simp) ?_
                refine AllReadyH.cons rfl (fun K hK => ?_) ?_
                rw [if_pos (by rfl)]
                refine wp_store_row0 25 _ _ rfl rfl g10 (eV XR) rfl rfl 25 #[.int .i64 0, .int .i64 0, .int .i64 0, .int .i64 0, .int .i64 0, .int .i64 0, .int .i64 0, .int .i64 0, .int .i64 0, .int .i64 0, .int .i64 0, .int .i64 0, .int .i64 0, .int .i64 0, .int .i64 0, .int .i64 0, .int .i64 0, .int .i64 0, .int .i64 0] Kg10.out (by kernel_rfl) rfl (by simp [Value.oneCell', eV]) ?_
                replace HD9 := Lib.hid (HD9.out.row HBIG.out Kg10.out (by decide) (eV XR))
                replace Kg9 := Lib.hid (Kg9.out.row_other (g' := g10) (Blk.ne Kg9.out Kg10.out (by decide)) (eV XR))
                replace Kg10 := Lib.hid (Kg10.out.row (eV XR))
                refine hK.out _ _ (Bw.setRow hS Hg10.out (eV XR)) (fun hS => ?_)
                clear hK K
                refine take1 (i := 17) (some 20) rfl rfl (by kernel_rfl) (by kernel_rfl) (by kernel_rfl) (fun _ _ _ _ h => h) rfl hS ?_
                apply Exists.intro
                apply And.intro
                · intro W9 hW9; have y0 := hW9.cell' d0; have y1 := hW9.cell' d1; have y2 := hW9.cell' d2; have y3 := hW9.cell' d3; go_simp; try with_reducible rfl
                simp only [Act.put, List.setIfInBounds_toArray, List.set_cons_zero, List.set_cons_succ]
                refine take1 (i := 18) (some 21) rfl rfl (by kernel_rfl) (by kernel_rfl) (by kernel_rfl) (fun _ _ _ _ h => h) rfl hS ?_
                apply Exists.intro
                apply And.intro
                · intro W9 hW9; have y0 := hW9.cell' d0; have y1 := hW9.cell' d1; have y2 := hW9.cell' d2; have y3 := hW9.cell' d3; go_simp; try with_reducible rfl
                simp only [Act.put, List.setIfInBounds_toArray, List.set_cons_zero, List.set_cons_succ]
                refine wpAnyH_done (by kernel_rfl) ?_ _
                rotate_left
                exact AllReadyH.nil
                exact AllReadyH.nil
                exact AllReadyH.nil
                exact AllReadyH.nil
                exact AllReadyH.nil
                all_goals
                  go_wp2
                  go_meet
                  exact ⟨g9, g10, D9, Hg9.out, Hg10.out, rfl, rfl, rfl, rfl, Lib.hid hS, Kg9, Kg10, HD9⟩
              case rest =>
                clear d0 d1 d2 d3 AD HDA HM
                obtain ⟨g9, g10, D9, h9, h10, rfl, rfl, rfl, rfl, hb9, Kg9, Kg10, HD9⟩ := hcut
                have HG9 := Lib.hid (show gp + 1 < g9 by have := KL.out.lt; omega)
                have hb9 := hb9.out
                replace HWD := Lib.hid (HWD.out.trans hb9)
                replace KN := Lib.hid (KN.out.bw hb9)
                replace KL := Lib.hid (KL.out.bw hb9)
                clear hb9 h9 h10 HRb HDK KMb
                obtain ⟨wf, hwf⟩ : ∃ wf, wf = wc := ⟨_, rfl⟩
                subst hwf
                go_upto_region 27 with fail
                have l0 := KL.out.cell (lsV_at LL 0 (by omega))
                have l1 := KL.out.cell (lsV_at LL 1 (by omega))
                have l2 := KL.out.cell (lsV_at LL 2 (by omega))
                go_cut [22] from 213 (fun s22 wx => s22 = .bool (allH (hL LL)) ∧ wx = wf)
                case first =>
                  by_cases p0 : 0 ≤ LL 0
                  · by_cases p1 : 0 ≤ LL 1
                    · by_cases p2 : 0 ≤ LL 2
                      · have HA := Lib.hid (show allH (hL LL) = true by rw [all_L, decide_eq_true p0, decide_eq_true p1, decide_eq_true p2]; rfl)
                        go_wp2
                        go_meet
                        exact ⟨by rw [HA.out], rfl⟩
                      · have HA := Lib.hid (show allH (hL LL) = false by rw [all_L, decide_eq_true p0, decide_eq_true p1, decide_eq_false p2]; rfl)
                        go_wp2
                        go_meet
                        exact ⟨by rw [HA.out], rfl⟩
                    · have HA := Lib.hid (show allH (hL LL) = false by rw [all_L, decide_eq_true p0, decide_eq_false p1]; rfl)
                      go_wp2
                      go_meet
                      exact ⟨by rw [HA.out], rfl⟩
                  · have HA := Lib.hid (show allH (hL LL) = false by rw [all_L, decide_eq_false p0]; rfl)
                    go_wp2
                    go_meet
                    exact ⟨by rw [HA.out], rfl⟩
                case rest =>
                  obtain ⟨rfl, hwx⟩ := hcut
                  obtain ⟨wg, hwg⟩ : ∃ wg, wg = wc := ⟨_, rfl⟩
                  subst hwg
                  subst hwx
                  rw [← HB2.out]
                  have hdd : (dn != dn) = false := by simp
                  cases dn with
                  | false =>
                    have HI2 := Lib.hid (HB4.out HB2.out.symm)
                    clear HB3' HB4 l0 l1 l2
                    go_upto_region 36 with fail
                    go_wp2_with (first | ((with_reducible refine at_load 43 (.tmp 18) ?_); refine wpList_load_roww 43 _ rfl g9 rfl 43 (ptV Q.h Q.is Q.pr D9) (0, 0) _ Kg9.out Try.underlying43 rfl (by kernel_rfl) (by rfl) ?_) | ((with_reducible refine at_store 43 (.tmp 12) (.tmp 211) ?_); refine wpList_store_row rfl 43 (.tmp 12) (.tmp 211) rfl gp (ptV Q.h Q.is Q.pr D9) rfl rfl 43 _ KN.out (by kernel_rfl) rfl (HD9.out.one _ _ _) ?_))
                    have hkx1 := Kx.row KN.out.lt (ptV Q.h Q.is Q.pr D9)
                    replace HD9 := Lib.hid (HD9.out.row HBIG.out KN.out (show (ptV P.h P.is P.pr Da).size ≤ 19 from (by decide : 8 ≤ 19)) (ptV Q.h Q.is Q.pr D9))
                    replace KL := Lib.hid (hkx1.blk KL.out (by omega))
                    replace HWD := Lib.hid (Bw.setRow HWD.out (show wm.heap.size ≤ gp by have := HGP.out; omega) (ptV Q.h Q.is Q.pr D9))
                    replace KN := Lib.hid (KN.out.row (ptV Q.h Q.is Q.pr D9))
                    clear hkx1
                    generalize World.setRow _ _ _ = wz at *
                    (try simp only [Act.put])
                    go_wp2
                    go_roundg (40 - (i + 1))
                    case measure => omega
                    case rel => exact ⟨i + 1, by omega, by omega, by go_num, HWD, Q, LL, c, D9, rfl, KN, KL, HD9, HI2⟩
                  | true =>
                    obtain ⟨e1, e2⟩ := HB3'.out HB2.out.symm
                    rw [e1] at Kg10
                    have HI2 := Lib.hid (show Mix E Q (fun _ => -1) (-1) from by rw [e2]; exact Mix.zero E)
                    clear e1 e2 HB3' HB4
                    have hall := (all_L LL).symm.trans HB2.out.symm
                    simp only [Bool.and_eq_true, decide_eq_true_eq] at hall
                    have h30 := HLL.out 0 (by omega)
                    have h31 := HLL.out 1 (by omega)
                    have h32 := HLL.out 2 (by omega)
                    obtain ⟨m0, hm0⟩ : ∃ m : Nat, LL 0 = (m : Int) := ⟨(LL 0).toNat, by omega⟩
                    obtain ⟨m1, hm1⟩ : ∃ m : Nat, LL 1 = (m : Int) := ⟨(LL 1).toNat, by omega⟩
                    obtain ⟨m2, hm2⟩ : ∃ m : Nat, LL 2 = (m : Int) := ⟨(LL 2).toNat, by omega⟩
                    rw [hm0, hm1, hm2] at Kg10
                    simp only [Int.toNat_natCast] at Kg10
                    rw [hm0] at l0
                    rw [hm1] at l1
                    rw [hm2] at l2
                    have C0 := Lib.hid (show m0 < 3 by omega)
                    have C1 := Lib.hid (show m1 < 3 by omega)
                    have C2 := Lib.hid (show m2 < 3 by omega)
                    clear hall h30 h31 h32 hm0 hm1 hm2
                    have HM3 := Lib.hid (show (0 : Int) ≤ m0 ∧ (m0 : Int) < 3 ∧ (0 : Int) ≤ m1 ∧ (m1 : Int) < 3 ∧ (0 : Int) ≤ m2 ∧ (m2 : Int) < 3 by have := C0.out; have := C1.out; have := C2.out; omega)
                    go_upto_region 31 with fail
                    have KEb := Lib.hid (KE.out.bw HWD.out)
                    go_cut [23, 24, 25] from 213 (fun s23 s24 s25 wx => ∃ q0 q1 q2, s23 = .pointer (some ⟨q0, 0, none⟩) ∧ s24 = .pointer (some ⟨q1, 0, none⟩) ∧ s25 = .pointer (some ⟨q2, 0, none⟩) ∧ Hid (Bw wg wx) ∧ Hid (Blk wx q0 25 (eV (E m0))) ∧ Hid (Blk wx q1 25 (eV (E m1))) ∧ Hid (Blk wx q2 25 (eV (E m2))))
                    case first =>
                      obtain ⟨z0, z1, z2, z3, z4, z5⟩ := HM3.out
                      refine wp_region_held_drew (S := Bw wg) (by kernel_rfl) (Bw.drew (Bw.refl _)) (fun hS => ?_)
                      generalize World.drew _ = wd at hS ⊢
                      refine take1 (i := 0) (some 167) rfl rfl (by kernel_rfl) (by kernel_rfl) (by kernel_rfl) (fun _ _ _ _ h => h) rfl hS ?_
                      apply Exists.intro
                      apply And.intro
                      · intro W9 hW9; have y0 := hW9.cell' l0; have y1 := hW9.cell' l1; have y2 := hW9.cell' l2; go_simp; try with_reducible rfl
                      simp only [Act.put, List.setIfInBounds_toArray, List.set_cons_zero, List.set_cons_succ]
                      refine take1 (i := 1) (some 168) rfl rfl (by kernel_rfl) (by kernel_rfl) (by kernel_rfl) (fun _ _ _ _ h => h) rfl hS ?_
                      refine Exists.intro (.int .i64 (m0 : Int)) ?_
                      apply And.intro
                      · intro W9 hW9; have y0 := hW9.cell' l0; have y1 := hW9.cell' l1; have y2 := hW9.cell' l2; go_simp; (try go_bits); (try with_reducible rfl); (try trivial)
                      simp only [Act.put, List.setIfInBounds_toArray, List.set_cons_zero, List.set_cons_succ]
                      refine take1 (i := 2) (some 169) rfl rfl (by kernel_rfl) (by kernel_rfl) (by kernel_rfl) (fun _ _ _ _ h => h) rfl hS ?_
                      apply Exists.intro
                      apply And.intro
                      · intro W9 hW9; have y0 := hW9.cell' l0; have y1 := hW9.cell' l1; have y2 := hW9.cell' l2; go_simp; try with_reducible rfl
                      simp only [Act.put, List.setIfInBounds_toArray, List.set_cons_zero, List.set_cons_succ]
                      refine take1 (i := 3) (some 170) rfl rfl (by kernel_rfl) (by kernel_rfl) (by kernel_rfl) (fun _ _ _ _ h => h) rfl hS ?_
                      refine Exists.intro (.agg (eV (E m0))) ?_
                      apply And.intro
                      · intro W9 hW9; have y0 := hW9.cell' l0; have y1 := hW9.cell' l1; have y2 := hW9.cell' l2; exact run_load_all _ rfl gE m0 rfl E (KEb.out.bw hW9) C0.out
                      simp only [Act.put, List.setIfInBounds_toArray, List.set_cons_zero, List.set_cons_succ]
                      refine take1 (i := 4) (some 171) rfl rfl (by kernel_rfl) (by kernel_rfl) (by kernel_rfl) (fun _ _ _ _ h => h) rfl hS ?_
                      apply Exists.intro
                      apply And.intro
                      · intro W9 hW9; have y0 := hW9.cell' l0; have y1 := hW9.cell' l1; have y2 := hW9.cell' l2; go_simp; try with_reducible rfl
                      simp only [Act.put, List.setIfInBounds_toArray, List.set_cons_zero, List.set_cons_succ]
                      refine take1 (i := 5) (some 172) rfl rfl (by kernel_rfl) (by kernel_rfl) (by kernel_rfl) (fun _ _ _ _ h => h) rfl hS ?_
                      refine Exists.intro (.int .i64 (m1 : Int)) ?_
                      apply And.intro
                      · intro W9 hW9; have y0 := hW9.cell' l0; have y1 := hW9.cell' l1; have y2 := hW9.cell' l2; go_simp; (try go_bits); (try with_reducible rfl); (try trivial)
                      simp only [Act.put, List.setIfInBounds_toArray, List.set_cons_zero, List.set_cons_succ]
                      refine take1 (i := 6) (some 173) rfl rfl (by kernel_rfl) (by kernel_rfl) (by kernel_rfl) (fun _ _ _ _ h => h) rfl hS ?_
                      apply Exists.intro
                      apply And.intro
                      · intro W9 hW9; have y0 := hW9.cell' l0; have y1 := hW9.cell' l1; have y2 := hW9.cell' l2; go_simp; try with_reducible rfl
                      simp only [Act.put, List.setIfInBounds_toArray, List.set_cons_zero, List.set_cons_succ]
                      refine take1 (i := 7) (some 174) rfl rfl (by kernel_rfl) (by kernel_rfl) (by kernel_rfl) (fun _ _ _ _ h => h) rfl hS ?_
                      refine Exists.intro (.agg (eV (E m1))) ?_
                      apply And.intro
                      · intro W9 hW9; have y0 := hW9.cell' l0; have y1 := hW9.cell' l1; have y2 := hW9.cell' l2; exact run_load_all _ rfl gE m1 rfl E (KEb.out.bw hW9) C1.out
                      simp only [Act.put, List.setIfInBounds_toArray, List.set_cons_zero, List.set_cons_succ]
                      refine take1 (i := 8) (some 175) rfl rfl (by kernel_rfl) (by kernel_rfl) (by kernel_rfl) (fun _ _ _ _ h => h) rfl hS ?_
                      apply Exists.intro
                      apply And.intro
                      · intro W9 hW9; have y0 := hW9.cell' l0; have y1 := hW9.cell' l1; have y2 := hW9.cell' l2; go_simp; try with_reducible rfl
                      simp only [Act.put, List.setIfInBounds_toArray, List.set_cons_zero, List.set_cons_succ]
                      refine take1 (i := 9) (some 176) rfl rfl (by kernel_rfl) (by kernel_rfl) (by kernel_rfl) (fun _ _ _ _ h => h) rfl hS ?_
                      refine Exists.intro (.int .i64 (m2 : Int)) ?_
                      apply And.intro
                      · intro W9 hW9; have y0 := hW9.cell' l0; have y1 := hW9.cell' l1; have y2 := hW9.cell' l2; go_simp; (try go_bits); (try with_reducible rfl); (try trivial)
                      simp only [Act.put, List.setIfInBounds_toArray, List.set_cons_zero, List.set_cons_succ]
                      refine take1 (i := 10) (some 177) rfl rfl (by kernel_rfl) (by kernel_rfl) (by kernel_rfl) (fun _ _ _ _ h => h) rfl hS ?_
                      apply Exists.intro
                      apply And.intro
                      · intro W9 hW9; have y0 := hW9.cell' l0; have y1 := hW9.cell' l1; have y2 := hW9.cell' l2; go_simp; try with_reducible rfl
                      simp only [Act.put, List.setIfInBounds_toArray, List.set_cons_zero, List.set_cons_succ]
                      refine take1 (i := 11) (some 178) rfl rfl (by kernel_rfl) (by kernel_rfl) (by kernel_rfl) (fun _ _ _ _ h => h) rfl hS ?_
                      refine Exists.intro (.agg (eV (E m2))) ?_
                      apply And.intro
                      · intro W9 hW9; have y0 := hW9.cell' l0; have y1 := hW9.cell' l1; have y2 := hW9.cell' l2; exact run_load_all _ rfl gE m2 rfl E (KEb.out.bw hW9) C2.out
                      simp only [Act.put, List.setIfInBounds_toArray, List.set_cons_zero, List.set_cons_succ]
                      refine wpAnyH_ready (rs := [12, 13, 14]) (by kernel_rfl) (by simp) ?_
                      refine AllReadyH.cons rfl (fun K hK => ?_) ?_
                      rw [if_pos (by rfl)]
                      refine wp_alloc_new 25 rfl (some 23) rfl _ (zeroEp _) ?_
                      intro q0 w5 hg9 hN hbw
                      simp only [Act.put, List.setIfInBounds_toArray, List.set_cons_zero, List.set_cons_succ]
                      have Kq0 := Lib.hid hN
                      have Hq0 := Lib.hid (Nat.le_trans hS.size hg9)
                      clear hN
                      refine hK.out _ _ (hS.trans hbw) (fun hS => ?_)
                      clear hK K
                      clear hbw hg9
                      refine wpAnyH_ready (rs := [13, 14]) (by kernel_rfl) (by simp) ?_
                      refine AllReadyH.cons rfl (fun K hK => ?_) ?_
                      rw [if_pos (by rfl)]
                      refine wp_alloc_new 25 rfl (some 24) rfl _ (zeroEp _) ?_
                      intro q1 w6 hg9 hN hbw
                      simp only [Act.put, List.setIfInBounds_toArray, List.set_cons_zero, List.set_cons_succ]
                      have Kq1 := Lib.hid hN
                      have Hq1 := Lib.hid (Nat.le_trans hS.size hg9)
                      have N01 := Lib.hid (show q0 ≠ q1 by have := Kq0.out.lt; omega)
                      have N10 := Lib.hid (show q1 ≠ q0 by have := Kq0.out.lt; omega)
                      replace Kq0 := Lib.hid (Kq0.out.bw hbw)
                      clear hN
                      refine hK.out _ _ (hS.trans hbw) (fun hS => ?_)
                      clear hK K
                      clear hbw hg9
                      refine wpAnyH_ready (rs := [14]) (by kernel_rfl) (by simp) ?_
                      refine AllReadyH.cons rfl (fun K hK => ?_) ?_
                      rw [if_pos (by rfl)]
                      refine wp_alloc_new 25 rfl (some 25) rfl _ (zeroEp _) ?_
                      intro q2 w7 hg9 hN hbw
                      simp only [Act.put, List.setIfInBounds_toArray, List.set_cons_zero, List.set_cons_succ]
                      have Kq2 := Lib.hid hN
                      have Hq2 := Lib.hid (Nat.le_trans hS.size hg9)
                      have N02 := Lib.hid (show q0 ≠ q2 by have := Kq0.out.lt; omega)
                      have N20 := Lib.hid (show q2 ≠ q0 by have := Kq0.out.lt; omega)
                      replace Kq0 := Lib.hid (Kq0.out.bw hbw)
                      have N12 := Lib.hid (show q1 ≠ q2 by have := Kq1.out.lt; omega)
                      have N21 := Lib.hid (show q2 ≠ q1 by have := Kq1.out.lt; omega)
                      replace Kq1 := Lib.hid (Kq1.out.bw hbw)
                      clear hN
                      refine hK.out _ _ (hS.trans hbw) (fun hS => ?_)
                      clear hK K
                      clear hbw hg9
                      refine wpAnyH_ready (rs := [15]) (by kernel_rfl) (by simp) ?_
                      refine AllReadyH.cons rfl (fun K hK => ?_) ?_
                      rw [if_pos (by rfl)]
                      refine wp_store_row0 25 _ _ rfl rfl q0 (eV (E m0)) rfl rfl 25 #[.int .i64 0, .int .i64 0, .int .i64 0, .int .i64 0, .int .i64 0, .int .i64 0, .int .i64 0, .int .i64 0, .int .i64 0, .int .i64 0, .int .i64 0, .int .i64 0, .int .i64 0, .int .i64 0, .int .i64 0, .int .i64 0, .int .i64 0, .int .i64 0, .int .i64 0] Kq0.out (by kernel_rfl) rfl (by simp [Value.oneCell', eV]) ?_
                      replace Kq1 := Lib.hid (Kq1.out.row_other (g' := q0) N10.out (eV (E m0)))
                      replace Kq2 := Lib.hid (Kq2.out.row_other (g' := q0) N20.out (eV (E m0)))
                      replace Kq0 := Lib.hid (Kq0.out.row (eV (E m0)))
                      refine hK.out _ _ (Bw.setRow hS Hq0.out (eV (E m0))) (fun hS => ?_)
                      clear hK K
                      refine wpAnyH_ready (rs := [16]) (by kernel_rfl) (by simp) ?_
                      refine AllReadyH.cons rfl (fun K hK => ?_) ?_
                      rw [if_pos (by rfl)]
                      refine wp_store_row0 25 _ _ rfl rfl q1 (eV (E m1)) rfl rfl 25 #[.int .i64 0, .int .i64 0, .int .i64 0, .int .i64 0, .int .i64 0, .int .i64 0, .int .i64 0, .int .i64 0, .int .i64 0, .int .i64 0, .int .i64 0, .int .i64 0, .int .i64 0, .int .i64 0, .int .i64 0, .int .i64 0, .int .i64 0, .int .i64 0, .int .i64 0] Kq1.out (by kernel_rfl) rfl (by simp [Value.oneCell', eV]) ?_
                      replace Kq0 := Lib.hid (Kq0.out.row_other (g' := q1) N01.out (eV (E m1)))
                      replace Kq2 := Lib.hid (Kq2.out.row_other (g' := q1) N21.out (eV (E m1)))
                      replace Kq1 := Lib.hid (Kq1.out.row (eV (E m1)))
                      refine hK.out _ _ (Bw.setRow hS Hq1.out (eV (E m1))) (fun hS => ?_)
                      clear hK K
                      refine wpAnyH_ready (rs := [17]) (by kernel_rfl) (by simp) ?_
                      refine AllReadyH.cons rfl (fun K hK => ?_) ?_
                      rw [if_pos (by rfl)]
                      refine wp_store_row0 25 _ _ rfl rfl q2 (eV (E m2)) rfl rfl 25 #[.int .i64 0, .int .i64 0, .int .i64 0, .int .i64 0, .int .i64 0, .int .i64 0, .int .i64 0, .int .i64 0, .int .i64 0, .int .i64 0, .int .i64 0, .int .i64 0, .int .i64 0, .int .i64 0, .int .i64 0, .int .i64 0, .int .i64 0, .int .i64 0, .int .i64 0] Kq2.out (by kernel_rfl) rfl (by simp [Value.oneCell', eV]) ?_
                      replace Kq0 := Lib.hid (Kq0.out.row_other (g' := q2) N02.out (eV (E m2)))
                      replace Kq1 := Lib.hid (Kq1.out.row_other (g' := q2) N12.out (eV (E m2)))
                      replace Kq2 := Lib.hid (Kq2.out.row (eV (E m2)))
                      refine hK.out _ _ (Bw.setRow hS Hq2.out (eV (E m2))) (fun hS => ?_)
                      clear hK K
                      refine wpAnyH_done (by kernel_rfl) ?_ _
                      rotate_left
                      exact AllReadyH.nil
                      exact AllReadyH.nil
                      exact AllReadyH.nil
                      exact AllReadyH.nil
                      refine AllReadyH.cons rfl (fun K hK => ?_) ?_
                      rw [if_pos (by rfl)]
                      refine wp_alloc_new 25 rfl (some 25) rfl _ (zeroEp _) ?_
                      intro q2 w7 hg9 hN hbw
                      simp only [Act.put, List.setIfInBounds_toArray, List.set_cons_zero, List.set_cons_succ]
                      have Kq2 := Lib.hid hN
                      have Hq2 := Lib.hid (Nat.le_trans hS.size hg9)
                      have N02 := Lib.hid (show q0 ≠ q2 by have := Kq0.out.lt; omega)
                      have N20 := Lib.hid (show q2 ≠ q0 by have := Kq0.out.lt; omega)
                      replace Kq0 := Lib.hid (Kq0.out.bw hbw)
                      clear hN
                      refine hK.out _ _ (hS.trans hbw) (fun hS => ?_)
                      clear hK K
                      clear hbw hg9
                      refine wpAnyH_ready (rs := [13]) (by kernel_rfl) (by simp) ?_
                      refine AllReadyH.cons rfl (fun K hK => ?_) ?_
                      rw [if_pos (by rfl)]
                      refine wp_alloc_new 25 rfl (some 24) rfl _ (zeroEp _) ?_
                      intro q1 w6 hg9 hN hbw
                      simp only [Act.put, List.setIfInBounds_toArray, List.set_cons_zero, List.set_cons_succ]
                      have Kq1 := Lib.hid hN
                      have Hq1 := Lib.hid (Nat.le_trans hS.size hg9)
                      have N01 := Lib.hid (show q0 ≠ q1 by have := Kq0.out.lt; omega)
                      have N10 := Lib.hid (show q1 ≠ q0 by have := Kq0.out.lt; omega)
                      replace Kq0 := Lib.hid (Kq0.out.bw hbw)
                      have N21 := Lib.hid (show q2 ≠ q1 by have := Kq2.out.lt; omega)
                      have N12 := Lib.hid (show q1 ≠ q2 by have := Kq2.out.lt; omega)
                      replace Kq2 := Lib.hid (Kq2.out.bw hbw)
                      clear hN
                      refine hK.out _ _ (hS.trans hbw) (fun hS => ?_)
                      clear hK K
                      clear hbw hg9
                      refine wpAnyH_ready (rs := [15]) (by kernel_rfl) (by simp) ?_
                      refine AllReadyH.cons rfl (fun K hK => ?_) ?_
                      rw [if_pos (by rfl)]
                      refine wp_store_row0 25 _ _ rfl rfl q0 (eV (E m0)) rfl rfl 25 #[.int .i64 0, .int .i64 0, .int .i64 0, .int .i64 0, .int .i64 0, .int .i64 0, .int .i64 0, .int .i64 0, .int .i64 0, .int .i64 0, .int .i64 0, .int .i64 0, .int .i64 0, .int .i64 0, .int .i64 0, .int .i64 0, .int .i64 0, .int .i64 0, .int .i64 0] Kq0.out (by kernel_rfl) rfl (by simp [Value.oneCell', eV]) ?_
                      replace Kq1 := Lib.hid (Kq1.out.row_other (g' := q0) N10.out (eV (E m0)))
                      replace Kq2 := Lib.hid (Kq2.out.row_other (g' := q0) N20.out (eV (E m0)))
                      replace Kq0 := Lib.hid (Kq0.out.row (eV (E m0)))
                      refine hK.out _ _ (Bw.setRow hS Hq0.out (eV (E m0))) (fun hS => ?_)
                      clear hK K
                      refine wpAnyH_ready (rs := [16]) (by kernel_rfl) (by simp) ?_
                      refine AllReadyH.cons rfl (fun K hK => ?_) ?_
                      rw [if_pos (by rfl)]
                      refine wp_store_row0 25 _ _ rfl rfl q1 (eV (E m1)) rfl rfl 25 #[.int .i64 0, .int .i64 0, .int .i64 0, .int .i64 0, .int .i64 0, .int .i64 0, .int .i64 0, .int .i64 0, .int .i64 0, .int .i64 0, .int .i64 0, .int .i64 0, .int .i64 0, .int .i64 0, .int .i64 0, .int .i64 0, .int .i64 0, .int .i64 0, .int .i64 0] Kq1.out (by kernel_rfl) rfl (by simp [Value.oneCell', eV]) ?_
                      replace Kq0 := Lib.hid (Kq0.out.row_other (g' := q1) N01.out (eV (E m1)))
                      replace Kq2 := Lib.hid (Kq2.out.row_other (g' := q1) N21.out (eV (E m1)))
                      replace Kq1 := Lib.hid (Kq1.out.row (eV (E m1)))
                      refine hK.out _ _ (Bw.setRow hS Hq1.out (eV (E m1))) (fun hS => ?_)
                      clear hK K
                      refine wpAnyH_ready (rs := [17]) (by kernel_rfl) (by simp) ?_
                      refine AllReadyH.cons rfl (fun K hK => ?_) ?_
                      rw [if_pos (by rfl)]
                      refine wp_store_row0 25 _ _ rfl rfl q2 (eV (E m2)) rfl rfl 25 #[.int .i64 0, .int .i64 0, .int .i64 0, .int .i64 0, .int .i64 0, .int .i64 0, .int .i64 0, .int .i64 0, .int .i64 0, .int .i64 0, .int .i64 0, .int .i64 0, .int .i64 0, .int .i64 0, .int .i64 0, .int .i64 0, .int .i64 0, .int .i64 0, .int .i64 0] Kq2.out (by kernel_rfl) rfl (by simp [Value.oneCell', eV]) ?_
                      replace Kq0 := Lib.hid (Kq0.out.row_other (g' := q2) N02.out (eV (E m2)))
                      replace Kq1 := Lib.hid (Kq1.out.row_other (g' := q2) N12.out (eV (E m2)))
                      replace Kq2 := Lib.hid (Kq2.out.row (eV (E m2)))
                      refine hK.out _ _ (Bw.setRow hS Hq2.out (eV (E m2))) (fun hS => ?_)
                      clear hK K
                      refine wpAnyH_done (by kernel_rfl) ?_ _
                      rotate_left
                      exact AllReadyH.nil
                      exact AllReadyH.nil
                      exact AllReadyH.nil
                      exact AllReadyH.nil
                      exact AllReadyH.nil
                      refine AllReadyH.cons rfl (fun K hK => ?_) ?_
                      rw [if_pos (by rfl)]
                      refine wp_alloc_new 25 rfl (some 24) rfl _ (zeroEp _) ?_
                      intro q1 w6 hg9 hN hbw
                      simp only [Act.put, List.setIfInBounds_toArray, List.set_cons_zero, List.set_cons_succ]
                      have Kq1 := Lib.hid hN
                      have Hq1 := Lib.hid (Nat.le_trans hS.size hg9)
                      clear hN
                      refine hK.out _ _ (hS.trans hbw) (fun hS => ?_)
                      clear hK K
                      clear hbw hg9
                      refine wpAnyH_ready (rs := [12, 14]) (by kernel_rfl) (by simp) ?_
                      refine AllReadyH.cons rfl (fun K hK => ?_) ?_
                      rw [if_pos (by rfl)]
                      refine wp_alloc_new 25 rfl (some 23) rfl _ (zeroEp _) ?_
                      intro q0 w5 hg9 hN hbw
                      simp only [Act.put, List.setIfInBounds_toArray, List.set_cons_zero, List.set_cons_succ]
                      have Kq0 := Lib.hid hN
                      have Hq0 := Lib.hid (Nat.le_trans hS.size hg9)
                      have N10 := Lib.hid (show q1 ≠ q0 by have := Kq1.out.lt; omega)
                      have N01 := Lib.hid (show q0 ≠ q1 by have := Kq1.out.lt; omega)
                      replace Kq1 := Lib.hid (Kq1.out.bw hbw)
                      clear hN
                      refine hK.out _ _ (hS.trans hbw) (fun hS => ?_)
                      clear hK K
                      clear hbw hg9
                      refine wpAnyH_ready (rs := [14]) (by kernel_rfl) (by simp) ?_
                      refine AllReadyH.cons rfl (fun K hK => ?_) ?_
                      rw [if_pos (by rfl)]
                      refine wp_alloc_new 25 rfl (some 25) rfl _ (zeroEp _) ?_
                      intro q2 w7 hg9 hN hbw
                      simp only [Act.put, List.setIfInBounds_toArray, List.set_cons_zero, List.set_cons_succ]
                      have Kq2 := Lib.hid hN
                      have Hq2 := Lib.hid (Nat.le_trans hS.size hg9)
                      have N02 := Lib.hid (show q0 ≠ q2 by have := Kq0.out.lt; omega)
                      have N20 := Lib.hid (show q2 ≠ q0 by have := Kq0.out.lt; omega)
                      replace Kq0 := Lib.hid (Kq0.out.bw hbw)
                      have N12 := Lib.hid (show q1 ≠ q2 by have := Kq1.out.lt; omega)
                      have N21 := Lib.hid (show q2 ≠ q1 by have := Kq1.out.lt; omega)
                      replace Kq1 := Lib.hid (Kq1.out.bw hbw)
                      clear hN
                      refine hK.out _ _ (hS.trans hbw) (fun hS => ?_)
                      clear hK K
                      clear hbw hg9
                      refine wpAnyH_ready (rs := [15]) (by kernel_rfl) (by simp) ?_
                      refine AllReadyH.cons rfl (fun K hK => ?_) ?_
                      rw [if_pos (by rfl)]
                      refine wp_store_row0 25 _ _ rfl rfl q0 (eV (E m0)) rfl rfl 25 #[.int .i64 0, .int .i64 0, .int .i64 0, .int .i64 0, .int .i64 0, .int .i64 0, .int .i64 0, .int .i64 0, .int .i64 0, .int .i64 0, .int .i64 0, .int .i64 0, .int .i64 0, .int .i64 0, .int .i64 0, .int .i64 0, .int .i64 0, .int .i64 0, .int .i64 0] Kq0.out (by kernel_rfl) rfl (by simp [Value.oneCell', eV]) ?_
                      replace Kq1 := Lib.hid (Kq1.out.row_other (g' := q0) N10.out (eV (E m0)))
                      replace Kq2 := Lib.hid (Kq2.out.row_other (g' := q0) N20.out (eV (E m0)))
                      replace Kq0 := Lib.hid (Kq0.out.row (eV (E m0)))
                      refine hK.out _ _ (Bw.setRow hS Hq0.out (eV (E m0))) (fun hS => ?_)
                      clear hK K
                      refine wpAnyH_ready (rs := [16]) (by kernel_rfl) (by simp) ?_
                      refine AllReadyH.cons rfl (fun K hK => ?_) ?_
                      rw [if_pos (by rfl)]
                      refine wp_store_row0 25 _ _ rfl rfl q1 (eV (E m1)) rfl rfl 25 #[.int .i64 0, .int .i64 0, .int .i64 0, .int .i64 0, .int .i64 0, .int .i64 0, .int .i64 0, .int .i64 0, .int .i64 0, .int .i64 0, .int .i64 0, .int .i64 0, .int .i64 0, .int .i64 0, .int .i64 0, .int .i64 0, .int .i64 0, .int .i64 0, .int .i64 0] Kq1.out (by kernel_rfl) rfl (by simp [Value.oneCell', eV]) ?_
                      replace Kq0 := Lib.hid (Kq0.out.row_other (g' := q1) N01.out (eV (E m1)))
                      replace Kq2 := Lib.hid (Kq2.out.row_other (g' := q1) N21.out (eV (E m1)))
                      replace Kq1 := Lib.hid (Kq1.out.row (eV (E m1)))
                      refine hK.out _ _ (Bw.setRow hS Hq1.out (eV (E m1))) (fun hS => ?_)
                      clear hK K
                      refine wpAnyH_ready (rs := [17]) (by kernel_rfl) (by simp) ?_
                      refine AllReadyH.cons rfl (fun K hK => ?_) ?_
                      rw [if_pos (by rfl)]
                      refine wp_store_row0 25 _ _ rfl rfl q2 (eV (E m2)) rfl rfl 25 #[.int .i64 0, .int .i64 0, .int .i64 0, .int .i64 0, .int .i64 0, .int .i64 0, .int .i64 0, .int .i64 0, .int .i64 0, .int .i64 0, .int .i64 0, .int .i64 0, .int .i64 0, .int .i64 0, .int .i64 0, .int .i64 0, .int .i64 0, .int .i64 0, .int .i64 0] Kq2.out (by kernel_rfl) rfl (by simp [Value.oneCell', eV]) ?_
                      replace Kq0 := Lib.hid (Kq0.out.row_other (g' := q2) N02.out (eV (E m2)))
                      replace Kq1 := Lib.hid (Kq1.out.row_other (g' := q2) N12.out (eV (E m2)))
                      replace Kq2 := Lib.hid (Kq2.out.row (eV (E m2)))
                      refine hK.out _ _ (Bw.setRow hS Hq2.out (eV (E m2))) (fun hS => ?_)
                      clear hK K
                      refine wpAnyH_done (by kernel_rfl) ?_ _
                      rotate_left
                      exact AllReadyH.nil
                      exact AllReadyH.nil
                      exact AllReadyH.nil
                      exact AllReadyH.nil
                      refine AllReadyH.cons rfl (fun K hK => ?_) ?_
                      rw [if_pos (by rfl)]
                      refine wp_alloc_new 25 rfl (some 25) rfl _ (zeroEp _) ?_
                      intro q2 w7 hg9 hN hbw
                      simp only [Act.put, List.setIfInBounds_toArray, List.set_cons_zero, List.set_cons_succ]
                      have Kq2 := Lib.hid hN
                      have Hq2 := Lib.hid (Nat.le_trans hS.size hg9)
                      have N12 := Lib.hid (show q1 ≠ q2 by have := Kq1.out.lt; omega)
                      have N21 := Lib.hid (show q2 ≠ q1 by have := Kq1.out.lt; omega)
                      replace Kq1 := Lib.hid (Kq1.out.bw hbw)
                      clear hN
                      refine hK.out _ _ (hS.trans hbw) (fun hS => ?_)
                      clear hK K
                      clear hbw hg9
                      refine wpAnyH_ready (rs := [12]) (by kernel_rfl) (by simp) ?_
                      refine AllReadyH.cons rfl (fun K hK => ?_) ?_
                      rw [if_pos (by rfl)]
                      refine wp_alloc_new 25 rfl (some 23) rfl _ (zeroEp _) ?_
                      intro q0 w5 hg9 hN hbw
                      simp only [Act.put, List.setIfInBounds_toArray, List.set_cons_zero, List.set_cons_succ]
                      have Kq0 := Lib.hid hN
                      have Hq0 := Lib.hid (Nat.le_trans hS.size hg9)
                      have N10 := Lib.hid (show q1 ≠ q0 by have := Kq1.out.lt; omega)
                      have N01 := Lib.hid (show q0 ≠ q1 by have := Kq1.out.lt; omega)
                      replace Kq1 := Lib.hid (Kq1.out.bw hbw)
                      have N20 := Lib.hid (show q2 ≠ q0 by have := Kq2.out.lt; omega)
                      have N02 := Lib.hid (show q0 ≠ q2 by have := Kq2.out.lt; omega)
                      replace Kq2 := Lib.hid (Kq2.out.bw hbw)
                      clear hN
                      refine hK.out _ _ (hS.trans hbw) (fun hS => ?_)
                      clear hK K
                      clear hbw hg9
                      refine wpAnyH_ready (rs := [15]) (by kernel_rfl) (by simp) ?_
                      refine AllReadyH.cons rfl (fun K hK => ?_) ?_
                      rw [if_pos (by rfl)]
                      refine wp_store_row0 25 _ _ rfl rfl q0 (eV (E m0)) rfl rfl 25 #[.int .i64 0, .int .i64 0, .int .i64 0, .int .i64 0, .int .i64 0, .int .i64 0, .int .i64 0, .int .i64 0, .int .i64 0, .int .i64 0, .int .i64 0, .int .i64 0, .int .i64 0, .int .i64 0, .int .i64 0, .int .i64 0, .int .i64 0, .int .i64 0, .int .i64 0] Kq0.out (by kernel_rfl) rfl (by simp [Value.oneCell', eV]) ?_
                      replace Kq1 := Lib.hid (Kq1.out.row_other (g' := q0) N10.out (eV (E m0)))
                      replace Kq2 := Lib.hid (Kq2.out.row_other (g' := q0) N20.out (eV (E m0)))
                      replace Kq0 := Lib.hid (Kq0.out.row (eV (E m0)))
                      refine hK.out _ _ (Bw.setRow hS Hq0.out (eV (E m0))) (fun hS => ?_)
                      clear hK K
                      refine wpAnyH_ready (rs := [16]) (by kernel_rfl) (by simp) ?_
                      refine AllReadyH.cons rfl (fun K hK => ?_) ?_
                      rw [if_pos (by rfl)]
                      refine wp_store_row0 25 _ _ rfl rfl q1 (eV (E m1)) rfl rfl 25 #[.int .i64 0, .int .i64 0, .int .i64 0, .int .i64 0, .int .i64 0, .int .i64 0, .int .i64 0, .int .i64 0, .int .i64 0, .int .i64 0, .int .i64 0, .int .i64 0, .int .i64 0, .int .i64 0, .int .i64 0, .int .i64 0, .int .i64 0, .int .i64 0, .int .i64 0] Kq1.out (by kernel_rfl) rfl (by simp [Value.oneCell', eV]) ?_
                      replace Kq0 := Lib.hid (Kq0.out.row_other (g' := q1) N01.out (eV (E m1)))
                      replace Kq2 := Lib.hid (Kq2.out.row_other (g' := q1) N21.out (eV (E m1)))
                      replace Kq1 := Lib.hid (Kq1.out.row (eV (E m1)))
                      refine hK.out _ _ (Bw.setRow hS Hq1.out (eV (E m1))) (fun hS => ?_)
                      clear hK K
                      refine wpAnyH_ready (rs := [17]) (by kernel_rfl) (by simp) ?_
                      refine AllReadyH.cons rfl (fun K hK => ?_) ?_
                      rw [if_pos (by rfl)]
                      refine wp_store_row0 25 _ _ rfl rfl q2 (eV (E m2)) rfl rfl 25 #[.int .i64 0, .int .i64 0, .int .i64 0, .int .i64 0, .int .i64 0, .int .i64 0, .int .i64 0, .int .i64 0, .int .i64 0, .int .i64 0, .int .i64 0, .int .i64 0, .int .i64 0, .int .i64 0, .int .i64 0, .int .i64 0, .int .i64 0, .int .i64 0, .int .i64 0] Kq2.out (by kernel_rfl) rfl (by simp [Value.oneCell', eV]) ?_
                      replace Kq0 := Lib.hid (Kq0.out.row_other (g' := q2) N02.out (eV (E m2)))
                      replace Kq1 := Lib.hid (Kq1.out.row_other (g' := q2) N12.out (eV (E m2)))
                      replace Kq2 := Lib.hid (Kq2.out.row (eV (E m2)))
                      refine hK.out _ _ (Bw.setRow hS Hq2.out (eV (E m2))) (fun hS => ?_)
                      clear hK K
                      refine wpAnyH_done (by kernel_rfl) ?_ _
                      rotate_left
                      exact AllReadyH.nil
                      exact AllReadyH.nil
                      exact AllReadyH.nil
                      exact AllReadyH.nil
                      exact AllReadyH.nil
                      refine AllReadyH.cons rfl (fun K hK => ?_) ?_
                      rw [if_pos (by rfl)]
                      refine wp_alloc_new 25 rfl (some 25) rfl _ (zeroEp _) ?_
                      intro q2 w7 hg9 hN hbw
                      simp only [Act.put, List.setIfInBounds_toArray, List.set_cons_zero, List.set_cons_succ]
                      have Kq2 := Lib.hid hN
                      have Hq2 := Lib.hid (Nat.le_trans hS.size hg9)
                      clear hN
                      refine hK.out _ _ (hS.trans hbw) (fun hS => ?_)
                      clear hK K
                      clear hbw hg9
                      refine wpAnyH_ready (rs := [12, 13]) (by kernel_rfl) (by simp) ?_
                      refine AllReadyH.cons rfl (fun K hK => ?_) ?_
                      rw [if_pos (by rfl)]
                      refine wp_alloc_new 25 rfl (some 23) rfl _ (zeroEp _) ?_
                      intro q0 w5 hg9 hN hbw
                      simp only [Act.put, List.setIfInBounds_toArray, List.set_cons_zero, List.set_cons_succ]
                      have Kq0 := Lib.hid hN
                      have Hq0 := Lib.hid (Nat.le_trans hS.size hg9)
                      have N20 := Lib.hid (show q2 ≠ q0 by have := Kq2.out.lt; omega)
                      have N02 := Lib.hid (show q0 ≠ q2 by have := Kq2.out.lt; omega)
                      replace Kq2 := Lib.hid (Kq2.out.bw hbw)
                      clear hN
                      refine hK.out _ _ (hS.trans hbw) (fun hS => ?_)
                      clear hK K
                      clear hbw hg9
                      refine wpAnyH_ready (rs := [13]) (by kernel_rfl) (by simp) ?_
                      refine AllReadyH.cons rfl (fun K hK => ?_) ?_
                      rw [if_pos (by rfl)]
                      refine wp_alloc_new 25 rfl (some 24) rfl _ (zeroEp _) ?_
                      intro q1 w6 hg9 hN hbw
                      simp only [Act.put, List.setIfInBounds_toArray, List.set_cons_zero, List.set_cons_succ]
                      have Kq1 := Lib.hid hN
                      have Hq1 := Lib.hid (Nat.le_trans hS.size hg9)
                      have N01 := Lib.hid (show q0 ≠ q1 by have := Kq0.out.lt; omega)
                      have N10 := Lib.hid (show q1 ≠ q0 by have := Kq0.out.lt; omega)
                      replace Kq0 := Lib.hid (Kq0.out.bw hbw)
                      have N21 := Lib.hid (show q2 ≠ q1 by have := Kq2.out.lt; omega)
                      have N12 := Lib.hid (show q1 ≠ q2 by have := Kq2.out.lt; omega)
                      replace Kq2 := Lib.hid (Kq2.out.bw hbw)
                      clear hN
                      refine hK.out _ _ (hS.trans hbw) (fun hS => ?_)
                      clear hK K
                      clear hbw hg9
                      refine wpAnyH_ready (rs := [15]) (by kernel_rfl) (by simp) ?_
                      refine AllReadyH.cons rfl (fun K hK => ?_) ?_
                      rw [if_pos (by rfl)]
                      refine wp_store_row0 25 _ _ rfl rfl q0 (eV (E m0)) rfl rfl 25 #[.int .i64 0, .int .i64 0, .int .i64 0, .int .i64 0, .int .i64 0, .int .i64 0, .int .i64 0, .int .i64 0, .int .i64 0, .int .i64 0, .int .i64 0, .int .i64 0, .int .i64 0, .int .i64 0, .int .i64 0, .int .i64 0, .int .i64 0, .int .i64 0, .int .i64 0] Kq0.out (by kernel_rfl) rfl (by simp [Value.oneCell', eV]) ?_
                      replace Kq1 := Lib.hid (Kq1.out.row_other (g' := q0) N10.out (eV (E m0)))
                      replace Kq2 := Lib.hid (Kq2.out.row_other (g' := q0) N20.out (eV (E m0)))
                      replace Kq0 := Lib.hid (Kq0.out.row (eV (E m0)))
                      refine hK.out _ _ (Bw.setRow hS Hq0.out (eV (E m0))) (fun hS => ?_)
                      clear hK K
                      refine wpAnyH_ready (rs := [16]) (by kernel_rfl) (by simp) ?_
                      refine AllReadyH.cons rfl (fun K hK => ?_) ?_
                      rw [if_pos (by rfl)]
                      refine wp_store_row0 25 _ _ rfl rfl q1 (eV (E m1)) rfl rfl 25 #[.int .i64 0, .int .i64 0, .int .i64 0, .int .i64 0, .int .i64 0, .int .i64 0, .int .i64 0, .int .i64 0, .int .i64 0, .int .i64 0, .int .i64 0, .int .i64 0, .int .i64 0, .int .i64 0, .int .i64 0, .int .i64 0, .int .i64 0, .int .i64 0, .int .i64 0] Kq1.out (by kernel_rfl) rfl (by simp [Value.oneCell', eV]) ?_
                      replace Kq0 := Lib.hid (Kq0.out.row_other (g' := q1) N01.out (eV (E m1)))
                      replace Kq2 := Lib.hid (Kq2.out.row_other (g' := q1) N21.out (eV (E m1)))
                      replace Kq1 := Lib.hid (Kq1.out.row (eV (E m1)))
                      refine hK.out _ _ (Bw.setRow hS Hq1.out (eV (E m1))) (fun hS => ?_)
                      clear hK K
                      refine wpAnyH_ready (rs := [17]) (by kernel_rfl) (by simp) ?_
                      refine AllReadyH.cons rfl (fun K hK => ?_) ?_
                      rw [if_pos (by rfl)]
                      refine wp_store_row0 25 _ _ rfl rfl q2 (eV (E m2)) rfl rfl 25 #[.int .i64 0, .int .i64 0, .int .i64 0, .int .i64 0, .int .i64 0, .int .i64 0, .int .i64 0, .int .i64 0, .int .i64 0, .int .i64 0, .int .i64 0, .int .i64 0, .int .i64 0, .int .i64 0, .int .i64 0, .int .i64 0, .int .i64 0, .int .i64 0, .int .i64 0] Kq2.out (by kernel_rfl) rfl (by simp [Value.oneCell', eV]) ?_
                      replace Kq0 := Lib.hid (Kq0.out.row_other (g' := q2) N02.out (eV (E m2)))
                      replace Kq1 := Lib.hid (Kq1.out.row_other (g' := q2) N12.out (eV (E m2)))
                      replace Kq2 := Lib.hid (Kq2.out.row (eV (E m2)))
                      refine hK.out _ _ (Bw.setRow hS Hq2.out (eV (E m2))) (fun hS => ?_)
                      clear hK K
                      refine wpAnyH_done (by kernel_rfl) ?_ _
                      rotate_left
                      exact AllReadyH.nil
                      exact AllReadyH.nil
                      exact AllReadyH.nil
                      exact AllReadyH.nil
                      refine AllReadyH.cons rfl (fun K hK => ?_) ?_
                      rw [if_pos (by rfl)]
                      refine wp_alloc_new 25 rfl (some 24) rfl _ (zeroEp _) ?_
                      intro q1 w6 hg9 hN hbw
                      simp only [Act.put, List.setIfInBounds_toArray, List.set_cons_zero, List.set_cons_succ]
                      have Kq1 := Lib.hid hN
                      have Hq1 := Lib.hid (Nat.le_trans hS.size hg9)
                      have N21 := Lib.hid (show q2 ≠ q1 by have := Kq2.out.lt; omega)
                      have N12 := Lib.hid (show q1 ≠ q2 by have := Kq2.out.lt; omega)
                      replace Kq2 := Lib.hid (Kq2.out.bw hbw)
                      clear hN
                      refine hK.out _ _ (hS.trans hbw) (fun hS => ?_)
                      clear hK K
                      clear hbw hg9
                      refine wpAnyH_ready (rs := [12]) (by kernel_rfl) (by simp) ?_
                      refine AllReadyH.cons rfl (fun K hK => ?_) ?_
                      rw [if_pos (by rfl)]
                      refine wp_alloc_new 25 rfl (some 23) rfl _ (zeroEp _) ?_
                      intro q0 w5 hg9 hN hbw
                      simp only [Act.put, List.setIfInBounds_toArray, List.set_cons_zero, List.set_cons_succ]
                      have Kq0 := Lib.hid hN
                      have Hq0 := Lib.hid (Nat.le_trans hS.size hg9)
                      have N10 := Lib.hid (show q1 ≠ q0 by have := Kq1.out.lt; omega)
                      have N01 := Lib.hid (show q0 ≠ q1 by have := Kq1.out.lt; omega)
                      replace Kq1 := Lib.hid (Kq1.out.bw hbw)
                      have N20 := Lib.hid (show q2 ≠ q0 by have := Kq2.out.lt; omega)
                      have N02 := Lib.hid (show q0 ≠ q2 by have := Kq2.out.lt; omega)
                      replace Kq2 := Lib.hid (Kq2.out.bw hbw)
                      clear hN
                      refine hK.out _ _ (hS.trans hbw) (fun hS => ?_)
                      clear hK K
                      clear hbw hg9
                      refine wpAnyH_ready (rs := [15]) (by kernel_rfl) (by simp) ?_
                      refine AllReadyH.cons rfl (fun K hK => ?_) ?_
                      rw [if_pos (by rfl)]
                      refine wp_store_row0 25 _ _ rfl rfl q0 (eV (E m0)) rfl rfl 25 #[.int .i64 0, .int .i64 0, .int .i64 0, .int .i64 0, .int .i64 0, .int .i64 0, .int .i64 0, .int .i64 0, .int .i64 0, .int .i64 0, .int .i64 0, .int .i64 0, .int .i64 0, .int .i64 0, .int .i64 0, .int .i64 0, .int .i64 0, .int .i64 0, .int .i64 0] Kq0.out (by kernel_rfl) rfl (by simp [Value.oneCell', eV]) ?_
                      replace Kq1 := Lib.hid (Kq1.out.row_other (g' := q0) N10.out (eV (E m0)))
                      replace Kq2 := Lib.hid (Kq2.out.row_other (g' := q0) N20.out (eV (E m0)))
                      replace Kq0 := Lib.hid (Kq0.out.row (eV (E m0)))
                      refine hK.out _ _ (Bw.setRow hS Hq0.out (eV (E m0))) (fun hS => ?_)
                      clear hK K
                      refine wpAnyH_ready (rs := [16]) (by kernel_rfl) (by simp) ?_
                      refine AllReadyH.cons rfl (fun K hK => ?_) ?_
                      rw [if_pos (by rfl)]
                      refine wp_store_row0 25 _ _ rfl rfl q1 (eV (E m1)) rfl rfl 25 #[.int .i64 0, .int .i64 0, .int .i64 0, .int .i64 0, .int .i64 0, .int .i64 0, .int .i64 0, .int .i64 0, .int .i64 0, .int .i64 0, .int .i64 0, .int .i64 0, .int .i64 0, .int .i64 0, .int .i64 0, .int .i64 0, .int .i64 0, .int .i64 0, .int .i64 0] Kq1.out (by kernel_rfl) rfl (by simp [Value.oneCell', eV]) ?_
                      replace Kq0 := Lib.hid (Kq0.out.row_other (g' := q1) N01.out (eV (E m1)))
                      replace Kq2 := Lib.hid (Kq2.out.row_other (g' := q1) N21.out (eV (E m1)))
                      replace Kq1 := Lib.hid (Kq1.out.row (eV (E m1)))
                      refine hK.out _ _ (Bw.setRow hS Hq1.out (eV (E m1))) (fun hS => ?_)
                      clear hK K
                      refine wpAnyH_ready (rs := [17]) (by kernel_rfl) (by simp) ?_
                      refine AllReadyH.cons rfl (fun K hK => ?_) ?_
                      rw [if_pos (by rfl)]
                      refine wp_store_row0 25 _ _ rfl rfl q2 (eV (E m2)) rfl rfl 25 #[.int .i64 0, .int .i64 0, .int .i64 0, .int .i64 0, .int .i64 0, .int .i64 0, .int .i64 0, .int .i64 0, .int .i64 0, .int .i64 0, .int .i64 0, .int .i64 0, .int .i64 0, .int .i64 0, .int .i64 0, .int .i64 0, .int .i64 0, .int .i64 0, .int .i64 0] Kq2.out (by kernel_rfl) rfl (by simp [Value.oneCell', eV]) ?_
                      replace Kq0 := Lib.hid (Kq0.out.row_other (g' := q2) N02.out (eV (E m2)))
                      replace Kq1 := Lib.hid (Kq1.out.row_other (g' := q2) N12.out (eV (E m2)))
                      replace Kq2 := Lib.hid (Kq2.out.row (eV (E m2)))
                      refine hK.out _ _ (Bw.setRow hS Hq2.out (eV (E m2))) (fun hS => ?_)
                      clear hK K
                      refine wpAnyH_done (by kernel_rfl) ?_ _
                      rotate_left
                      exact AllReadyH.nil
                      exact AllReadyH.nil
                      exact AllReadyH.nil
                      exact AllReadyH.nil
                      exact AllReadyH.nil
                      exact AllReadyH.nil
                      all_goals
                        go_wp2
                        go_meet
                        exact ⟨q0, q1, q2, rfl, rfl, rfl, Lib.hid hS, Kq0, Kq1, Kq2⟩
                    case rest =>
                      clear KEb l0 l1 l2
                      obtain ⟨q0, q1, q2, rfl, rfl, rfl, hb9, Kq0, Kq1, Kq2⟩ := hcut
                      have hb9 := hb9.out
                      replace HWD := Lib.hid (HWD.out.trans hb9)
                      replace KN := Lib.hid (KN.out.bw hb9)
                      replace KL := Lib.hid (KL.out.bw hb9)
                      replace Kg9 := Lib.hid (Kg9.out.bw hb9)
                      replace Kg10 := Lib.hid (Kg10.out.bw hb9)
                      replace HD9 := Lib.hid (HD9.out.bw hb9)
                      clear hb9
                      obtain ⟨wh, hwh⟩ : ∃ wh, wh = wc := ⟨_, rfl⟩
                      subst hwh
                      have a0 := Kq0.out.cell (j := 0) (v := .int .i64 (E m0 0)) rfl
                      have a1 := Kq0.out.cell (j := 1) (v := .int .i64 (E m0 1)) rfl
                      have a2 := Kq0.out.cell (j := 2) (v := .int .i64 (E m0 2)) rfl
                      have a3 := Kq0.out.cell (j := 3) (v := .int .i64 (E m0 3)) rfl
                      have a11 := Kq1.out.cell (j := 11) (v := .int .i64 (E m1 11)) rfl
                      have a12 := Kq1.out.cell (j := 12) (v := .int .i64 (E m1 12)) rfl
                      have a13 := Kq2.out.cell (j := 13) (v := .int .i64 (E m2 13)) rfl
                      have a14 := Kq2.out.cell (j := 14) (v := .int .i64 (E m2 14)) rfl
                      go_upto_region 33 with (first | ((with_reducible refine at_load 22 (.tmp 187) ?_); refine wpList_load_mid rfl 22 (.tmp 187) rfl q0 4 rfl _ _ (eV_r4 Kq0.out) Try.underlying22 rfl (by kernel_rfl) ?_) | ((with_reducible refine at_load 23 (.tmp 189) ?_); refine wpList_load_mid rfl 23 (.tmp 189) rfl q1 7 rfl _ _ (eV_r7 Kq1.out) Try.underlying23 rfl (by kernel_rfl) ?_) | ((with_reducible refine at_load 23 (.tmp 204) ?_); refine wpList_load_mid rfl 23 (.tmp 204) rfl q2 15 rfl _ _ (eV_r15 Kq2.out) Try.underlying23 rfl (by kernel_rfl) ?_) | ((with_reducible refine at_store 25 (.tmp 26) (.tmp 206) ?_); refine wpList_store_row rfl 25 (.tmp 26) (.tmp 206) rfl wh.heap.size (eV (mixE (E m0) (E m1) (E m2))) rfl rfl 25 #[.int .i64 0, .int .i64 0, .int .i64 0, .int .i64 0, .int .i64 0, .int .i64 0, .int .i64 0, .int .i64 0, .int .i64 0, .int .i64 0, .int .i64 0, .int .i64 0, .int .i64 0, .int .i64 0, .int .i64 0, .int .i64 0, .int .i64 0, .int .i64 0, .int .i64 0] (Blk.new wh 25 #[.int .i64 0, .int .i64 0, .int .i64 0, .int .i64 0, .int .i64 0, .int .i64 0, .int .i64 0, .int .i64 0, .int .i64 0, .int .i64 0, .int .i64 0, .int .i64 0, .int .i64 0, .int .i64 0, .int .i64 0, .int .i64 0, .int .i64 0, .int .i64 0, .int .i64 0]) (by kernel_rfl) rfl (by simp [Value.oneCell', eV]) ?_))
                      clear a0 a1 a2 a3 a11 a12 a13 a14 Kq0 Kq1 Kq2
                      obtain ⟨g26, hg26⟩ : ∃ g26, wh.heap.size = g26 := ⟨_, rfl⟩
                      have hb9 := Bw.setRow (Bw.alloc (Bw.refl wh) (.cells #[.int .i64 0, .int .i64 0, .int .i64 0, .int .i64 0, .int .i64 0, .int .i64 0, .int .i64 0, .int .i64 0, .int .i64 0, .int .i64 0, .int .i64 0, .int .i64 0, .int .i64 0, .int .i64 0, .int .i64 0, .int .i64 0, .int .i64 0, .int .i64 0, .int .i64 0] 25)) (Nat.le_of_eq hg26) (eV (mixE (E m0) (E m1) (E m2)))
                      have K26 := Lib.hid ((Blk.new wh 25 #[.int .i64 0, .int .i64 0, .int .i64 0, .int .i64 0, .int .i64 0, .int .i64 0, .int .i64 0, .int .i64 0, .int .i64 0, .int .i64 0, .int .i64 0, .int .i64 0, .int .i64 0, .int .i64 0, .int .i64 0, .int .i64 0, .int .i64 0, .int .i64 0, .int .i64 0]).row (eV (mixE (E m0) (E m1) (E m2))))
                      rw [hg26] at K26 ⊢
                      replace HWD := Lib.hid (HWD.out.trans hb9)
                      replace KN := Lib.hid (KN.out.bw hb9)
                      replace KL := Lib.hid (KL.out.bw hb9)
                      replace Kg9 := Lib.hid (Kg9.out.bw hb9)
                      replace Kg10 := Lib.hid (Kg10.out.bw hb9)
                      replace HD9 := Lib.hid (HD9.out.bw hb9)
                      clear hb9
                      generalize World.setRow (World.alloc wh _) _ _ = wi at *
                      clear hg26
                      have hq1 := fun W => eqE_self (mixE (E m0) (E m1) (E m2)) W
                      have hq2 := fun W op x y => eqE_guard (mixE (E m0) (E m1) (E m2)) (mixE (E m0) (E m1) (E m2)) op x y W
                      have HSZ : Hid ((Try.prog.info? 25).map (·.size) = some (eV (mixE (E m0) (E m1) (E m2))).size) := Lib.hid (by kernel_rfl)
                      obtain ⟨A, hA⟩ : ∃ A, A = eV (mixE (E m0) (E m1) (E m2)) := ⟨_, rfl⟩
                      rw [← hA] at Kg10 K26 hq1 hq2 HSZ
                      clear hA
                      (try simp only [Act.put])
                      go_upto_region 35 with (first | ((with_reducible refine at_load 25 (.tmp 19) ?_); refine wpList_load_roww 25 _ rfl g10 rfl 25 A (0, 0) _ Kg10.out Try.underlying25 rfl HSZ.out (by rfl) ?_) | ((with_reducible refine at_load 25 (.tmp 26) ?_); refine wpList_load_roww 25 _ rfl g26 rfl 25 A (0, 0) _ K26.out Try.underlying25 rfl HSZ.out (by rfl) ?_))
                      clear hq1 hq2 K26 Kg10 HSZ
                      go_upto_region 36 with ((with_reducible refine at_store 22 (.tmp 13) (.tmp 210) ?_); refine wpList_store_row rfl 22 (.tmp 13) (.tmp 210) rfl (gp + 1) (lsV (fun _ => -1)) rfl rfl 22 _ KL.out (by kernel_rfl) rfl (by simp [Value.oneCell', lsV]) ?_)
                      replace KN := Lib.hid (KN.out.row_other (g' := gp + 1) (by omega) (lsV (fun _ => -1)))
                      replace Kg9 := Lib.hid (Kg9.out.row_other (g' := gp + 1) (by have := HG9.out; omega) (lsV (fun _ => -1)))
                      replace HWD := Lib.hid (Bw.setRow HWD.out (show wm.heap.size ≤ gp + 1 by have := HGP.out; omega) (lsV (fun _ => -1)))
                      replace HD9 := Lib.hid (HD9.out.row HBIG.out KL.out (show (lsV LL).size ≤ 19 from (by decide : 3 ≤ 19)) (lsV (fun _ => -1)))
                      replace KL := Lib.hid (KL.out.row (lsV (fun _ => -1)))
                      generalize World.setRow wi _ _ = wj at *
                      (try simp only [Act.put])
                      go_wp2_with (first | ((with_reducible refine at_load 43 (.tmp 18) ?_); refine wpList_load_roww 43 _ rfl g9 rfl 43 (ptV Q.h Q.is Q.pr D9) (0, 0) _ Kg9.out Try.underlying43 rfl (by kernel_rfl) (by rfl) ?_) | ((with_reducible refine at_store 43 (.tmp 12) (.tmp 211) ?_); refine wpList_store_row rfl 43 (.tmp 12) (.tmp 211) rfl gp (ptV Q.h Q.is Q.pr D9) rfl rfl 43 _ KN.out (by kernel_rfl) rfl (HD9.out.one _ _ _) ?_))
                      have hkx1 := Kx.row KN.out.lt (ptV Q.h Q.is Q.pr D9)
                      replace HD9 := Lib.hid (HD9.out.row HBIG.out KN.out (show (ptV P.h P.is P.pr Da).size ≤ 19 from (by decide : 8 ≤ 19)) (ptV Q.h Q.is Q.pr D9))
                      replace KL := Lib.hid (hkx1.blk KL.out (by omega))
                      replace HWD := Lib.hid (Bw.setRow HWD.out (show wm.heap.size ≤ gp by have := HGP.out; omega) (ptV Q.h Q.is Q.pr D9))
                      replace KN := Lib.hid (KN.out.row (ptV Q.h Q.is Q.pr D9))
                      clear hkx1
                      generalize World.setRow _ _ _ = wz at *
                      (try simp only [Act.put])
                      go_wp2
                      go_roundg (40 - (i + 1))
                      case measure => omega
                      case rel => exact ⟨i + 1, by omega, by omega, by go_num, HWD, Q, fun _ => -1, -1, D9, rfl, KN, KL, HD9, HI2⟩
end Go.Proofs.Sky
