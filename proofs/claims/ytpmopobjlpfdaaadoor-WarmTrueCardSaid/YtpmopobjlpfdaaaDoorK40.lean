/-
  lemmas for the theorems of this claim. No conditions beyond those written in the statements.
-/
import Derived.Test.YtpmopobjlpfdaaaDoorJ40
set_option linter.unusedVariables false
set_option linter.unusedSimpArgs false
set_option linter.unnecessarySimpa false
namespace Go.Proofs.Sky
open Go Go.RowKit Go.Shelf
attribute [local go_sem] Oper.semAt_some
set_option maxHeartbeats 4000000
set_option maxRecDepth 8000
/-! chapter 40: WarmNarrows -/
theorem zeroHN (w : World) : (zeroValue 23).run Tryd.prog w = .ok (.agg #[.int .i64 0, .int .i64 0, .int .i64 0, .int .i64 0, .int .i64 0, .int .i64 0]) w := by kernel_rfl
theorem q_ok (zs : List Int) (u0 u1 u2 r t l c m : Int) (h0 : -100000000 ≤ u0 ∧ u0 ≤ 100000000) (h1 : -100000000 ≤ u1 ∧ u1 ≤ 100000000) (h2 : -100000000 ≤ u2 ∧ u2 ≤ 100000000) (hr : 0 ≤ r ∧ r ≤ 10000000) (ht : 0 ≤ t ∧ t ≤ 604799) (hl : 0 ≤ l ∧ l ≤ 600) (hc : 0 ≤ c ∧ c ≤ 1000000000) (hm : 1 ≤ m ∧ m ≤ 8192) : prE (X0p (pg4 zs t) u0 u1 u2 r t l c m) = 0 := by
  have hp : errPg (X0p (pg4 zs t) u0 u1 u2 r t l c m) = 0 := by rw [X0_pg]; exact pg4_ok zs t
  have hg : rgB (X0p (pg4 zs t) u0 u1 u2 r t l c m) = true := by
    show ((szOk u0 && szOk u1 && szOk u2) && (inR r 0 10000000 && inR t 0 604799 && inR l 0 600 && inR c 0 1000000000 && inR m 1 8192)) = true
    unfold szOk inR szW
    rw [decide_eq_true (show (u0.natAbs : Int) ≤ 100000000 by omega), decide_eq_true (show (u1.natAbs : Int) ≤ 100000000 by omega), decide_eq_true (show (u2.natAbs : Int) ≤ 100000000 by omega), decide_eq_true hr, decide_eq_true ht, decide_eq_true hl, decide_eq_true hc, decide_eq_true hm]; rfl
  have ha : ageQ (X0p (pg4 zs t) u0 u1 u2 r t l c m) ≤ 14400 := by
    show szW (arQ (t - bel (t + sgW (nth zs 1) 13800) 604800)) + l ≤ 14400
    have hs := sgW_bd (nth zs 1) 13800 (by decide)
    unfold bel
    rw [if_neg (by decide)]
    unfold arQ szW
    omega
  have he : erQ (X0p (pg4 zs t) u0 u1 u2 r t l c m) = 0 := by unfold erQ; rw [if_neg (by rw [hp]; decide), if_pos hg]
  unfold prE
  rw [if_neg (by rw [he]; decide), if_neg (by omega)]
theorem less_X0 (x : Nat → Int) (u0 u1 u2 r r' t l l' c c' m : Int) (hr : 0 ≤ r' ∧ r' ≤ r) (hl : 0 ≤ l' ∧ l' ≤ l) (hc : 0 ≤ c' ∧ c' ≤ c) : Less (X0p x u0 u1 u2 r t l c m) (X0p x u0 u1 u2 r' t l' c' m) :=
  ⟨fun i hi => by
    by_cases h : i < 13
    · unfold X0p; rw [if_pos h, if_pos h]
    · rcases (by omega : i = 13 ∨ i = 14 ∨ i = 15) with rfl | rfl | rfl <;> rfl, rfl, rfl, hr, hl, hc⟩
theorem law_narrows40 (zs qs ls : List Int) (v0 v1 v2 : Value) (w : World) (h0 : RdI w v0 zs) (h1 : RdI w v1 qs) (h2 : RdI w v2 ls) (hw : WdAt w) : Calls Tryd.prog 4 #[v0, v1, v2] w fun e w' => e = .returned (.bool true) ∧ Bw w w' := by
  have HWD := Lib.hid hw
  have HZV := Lib.hid h0
  have HV := Lib.hid h1
  have HLV := Lib.hid h2
  have AW := Lib.hid (fun W h => awake40_any W h)
  have NT := Lib.hid (fun i W h => Nth_any qs v1 i W h)
  have NTL := Lib.hid (fun i W h => Nth_any ls v2 i W h)
  have BE := Lib.hid (fun n k W (h : 1 ≤ k ∧ k ≤ 4611686018427387904) => Below_any n k W h.1 h.2)
  have SG := Lib.hid (fun n k W (h : 0 ≤ k ∧ k ≤ 1000000000) => signed40_any n k h W)
  clear h0 h1 h2 hw
  have bt := bel_bd (nth qs 0) 604800 (by decide)
  have b0 := sgW_bd (nth qs 1) 10000000 (by decide)
  have b1 := sgW_bd (nth qs 2) 10000000 (by decide)
  have b2 := sgW_bd (nth qs 3) 10000000 (by decide)
  have br := bel_bd (nth qs 4) 3000001 (by decide)
  have bl := bel_bd (nth qs 5) 601 (by decide)
  have bc := bel_bd (nth qs 6) 1000001 (by decide)
  have bm := bel_bd (nth qs 7) 8192 (by decide)
  have PG := Lib.hid (fun W h => page40_any zs v0 (bel (nth qs 0) 604800) (by omega) W h)
  obtain ⟨t, et⟩ : ∃ t, bel (nth qs 0) 604800 = t := ⟨_, rfl⟩
  obtain ⟨u0, e0⟩ : ∃ t, sgW (nth qs 1) 10000000 = t := ⟨_, rfl⟩
  obtain ⟨u1, e1⟩ : ∃ t, sgW (nth qs 2) 10000000 = t := ⟨_, rfl⟩
  obtain ⟨u2, e2⟩ : ∃ t, sgW (nth qs 3) 10000000 = t := ⟨_, rfl⟩
  obtain ⟨r, er⟩ : ∃ t, bel (nth qs 4) 3000001 = t := ⟨_, rfl⟩
  obtain ⟨l, el⟩ : ∃ t, bel (nth qs 5) 601 = t := ⟨_, rfl⟩
  obtain ⟨c, ec⟩ : ∃ t, bel (nth qs 6) 1000001 = t := ⟨_, rfl⟩
  obtain ⟨m, em⟩ : ∃ t, 1 + bel (nth qs 7) 8192 = t := ⟨_, rfl⟩
  rw [et] at bt PG
  rw [e0] at b0
  rw [e1] at b1
  rw [e2] at b2
  rw [er] at br
  rw [el] at bl
  rw [ec] at bc
  have hm : 1 ≤ m ∧ m ≤ 8192 := by omega
  have hwm : IntKind.i64.wrap (1 + bel (nth qs 7) 8192) = m := by rw [IntKind.wrap_i64]; omega
  have c0 := bel_bd (nth ls 0) (r + 1) (by omega)
  have c1 := bel_bd (nth ls 1) (l + 1) (by omega)
  have c2 := bel_bd (nth ls 2) (c + 1) (by omega)
  have hok := q_ok zs u0 u1 u2 r t l c m (by omega) (by omega) (by omega) (by omega) (by omega) (by omega) (by omega) hm
  have hok2 := q_ok zs u0 u1 u2 (bel (nth ls 0) (r + 1)) t (bel (nth ls 1) (l + 1)) (bel (nth ls 2) (c + 1)) m (by omega) (by omega) (by omega) (by omega) (by omega) (by omega) (by omega) hm
  obtain ⟨r', er'⟩ : ∃ t, bel (nth ls 0) (r + 1) = t := ⟨_, rfl⟩
  obtain ⟨l', el'⟩ : ∃ t, bel (nth ls 1) (l + 1) = t := ⟨_, rfl⟩
  obtain ⟨c', ec'⟩ : ∃ t, bel (nth ls 2) (c + 1) = t := ⟨_, rfl⟩
  rw [er'] at c0 hok2
  rw [el'] at c1 hok2
  rw [ec'] at c2 hok2
  have hle := less_X0 (pg4 zs t) u0 u1 u2 r r' t l l' c c' m (by omega) (by omega) (by omega)
  obtain ⟨q, hq0, hq1, hq2⟩ := root_ex (sK40 (pr3 (X0p (pg4 zs t) u0 u1 u2 r t l c m)) 3) (sK_bd (mid3 (mid2 (er_ok hok).2.1 (er_ok hok).2.2.1 (er_ok hok).2.2.2)) 3 (by omega)).1
  have hu : ∀ k, k < 3 → -4000000000000000000 ≤ [u0, u1, u2].getD k 0 ∧ [u0, u1, u2].getD k 0 ≤ 4000000000000000000 := fun k hk => by
    match k, hk with
    | 0, _ => exact (show -4000000000000000000 ≤ u0 ∧ u0 ≤ 4000000000000000000 by omega)
    | 1, _ => exact (show -4000000000000000000 ≤ u1 ∧ u1 ≤ 4000000000000000000 by omega)
    | 2, _ => exact (show -4000000000000000000 ≤ u2 ∧ u2 ≤ 4000000000000000000 by omega)
  have PA := Lib.hid (fun W h => Predict_ok (pg4 zs t) u0 u1 u2 r t l c m q W h hok hu hq0 hq1 hq2)
  have PB := Lib.hid (fun W h => Predict_ok (pg4 zs t) u0 u1 u2 r' t l' c' m q W h hok2 hu hq0 (by rw [hle.sum]; exact hq1) (by rw [hle.sum]; exact hq2))
  have hx3 : 0 ≤ (X0p (pg4 zs t) u0 u1 u2 r t l c m) 3 := (pg_lim (pg4_ok zs t)).2.2.2.1.1
  have ha : 0 ≤ ageQ (X0p (pg4 zs t) u0 u1 u2 r' t l' c' m) := by
    have h9 : 0 ≤ szW (arQ (t - pg4 zs t 1)) + l' := by have := szW_nn (arQ (t - pg4 zs t 1)); omega
    exact h9
  have hwn := (sprQ_bd (er_ok hok2).2.1 (er_ok hok2).2.2.1 (er_ok hok2).2.2.2).1
  obtain ⟨n1, n2, n3, n4⟩ := hle.narrow hx3 ha hwn hm.1 q
  unfold hV at PA PB
  generalize pr4 (X0p (pg4 zs t) u0 u1 u2 r t l c m) q = XA at *
  generalize pr4 (X0p (pg4 zs t) u0 u1 u2 r' t l' c' m) q = XB at *
  generalize XA 26 = a0 at *
  generalize XB 26 = b0 at *
  generalize XA 27 = a1 at *
  generalize XB 27 = b1 at *
  generalize XA 28 = a2 at *
  generalize XB 28 = b2 at *
  generalize XA 29 = a3 at *
  generalize XB 29 = b3 at *
  generalize XA 30 = a4 at *
  generalize XB 30 = b4 at *
  generalize XA 31 = a5 at *
  generalize XB 31 = b5 at *
  clear hok hok2 hle hq0 hq1 hq2 hu hx3 ha hwn
  have HSZA : Hid ((Tryd.prog.info? 29).map (·.size) = some (pgV (pg4 zs t)).size) := Lib.hid (by kernel_rfl)
  have HPXA : Hid ((pgV (pg4 zs t)).all (·.oneCell') = true) := Lib.hid (by simp [Value.oneCell', pgV])
  have HN13 : Hid ((#[.int .i64 0, .int .i64 0, .int .i64 0, .int .i64 0, .int .i64 0, .int .i64 0, .int .i64 0, .int .i64 0, .int .i64 0, .int .i64 0, .int .i64 0, .int .i64 0, .int .i64 0] : Array Value).size = (pgV (pg4 zs t)).size) := Lib.hid rfl
  obtain ⟨A, hA⟩ : ∃ A, A = pgV (pg4 zs t) := ⟨_, rfl⟩
  rw [← hA] at PG PA PB HSZA HPXA HN13
  clear hA
  have HW := Lib.hid (Bw.refl w)
  have HZ13 := Lib.hid (fun (W : World) => Blk.new W 29 #[.int .i64 0, .int .i64 0, .int .i64 0, .int .i64 0, .int .i64 0, .int .i64 0, .int .i64 0, .int .i64 0, .int .i64 0, .int .i64 0, .int .i64 0, .int .i64 0, .int .i64 0])
  have HZ3 := Lib.hid (fun (W : World) => Blk.new W 32 #[.int .i64 0, .int .i64 0, .int .i64 0])
  have HZ6 := Lib.hid (fun (W : World) => Blk.new W 23 #[.int .i64 0, .int .i64 0, .int .i64 0, .int .i64 0, .int .i64 0, .int .i64 0])
  have hwr : IntKind.i64.wrap (r + 1) = r + 1 := by rw [IntKind.wrap_i64]; omega
  have hwl : IntKind.i64.wrap (l + 1) = l + 1 := by rw [IntKind.wrap_i64]; omega
  have hwc : IntKind.i64.wrap (c + 1) = c + 1 := by rw [IntKind.wrap_i64]; omega
  obtain ⟨w1, hw1e⟩ : ∃ w1, w1 = w := ⟨_, rfl⟩
  have HE1 := Lib.hid hw1e
  replace HW := Lib.hid (show Bw w w1 by rw [hw1e]; exact Bw.refl w)
  go_enter Tryd.func4, Tryd.ntmps4
  (try rw [← HE1.out])
  clear hw1e
  go_upto_region 3 with (first | (go_at_call 16; (with_reducible refine Calls.mono (NT.out _ _ (HV.out.mono HW.out)) ?_); rintro e1 w1 ⟨rfl, hb1⟩; replace HW := Lib.hid (HW.out.trans hb1); clear hb1) | (go_at_call 15; (with_reducible refine Calls.mono (BE.out _ _ _ ?_) ?_); exact ⟨by omega, by omega⟩; rintro e1 w1 ⟨rfl, hb1⟩; replace HW := Lib.hid (HW.out.trans hb1); clear hb1) | (go_at_call 18; (with_reducible refine Calls.mono (SG.out _ _ _ ?_) ?_); exact ⟨by omega, by omega⟩; rintro e1 w1 ⟨rfl, hb1⟩; replace HW := Lib.hid (HW.out.trans hb1); clear hb1) | (go_at_call 17; (with_reducible refine Calls.mono (PG.out _ (HZV.out.mono HW.out)) ?_); rintro e1 w1 ⟨rfl, hb1⟩; replace HW := Lib.hid (HW.out.trans hb1); clear hb1) | ((with_reducible refine at_store 29 (.tmp 8) (.tmp 23) ?_); refine wpList_store_row rfl 29 (.tmp 8) (.tmp 23) rfl w1.heap.size A rfl rfl 29 #[.int .i64 0, .int .i64 0, .int .i64 0, .int .i64 0, .int .i64 0, .int .i64 0, .int .i64 0, .int .i64 0, .int .i64 0, .int .i64 0, .int .i64 0, .int .i64 0, .int .i64 0] (HZ13.out w1) HSZA.out HN13.out HPXA.out ?_))
  obtain ⟨g8, hg8⟩ : ∃ g8, w1.heap.size = g8 := ⟨_, rfl⟩
  have hb2 := Bw.setRow (Bw.alloc (Bw.refl w1) (.cells #[.int .i64 0, .int .i64 0, .int .i64 0, .int .i64 0, .int .i64 0, .int .i64 0, .int .i64 0, .int .i64 0, .int .i64 0, .int .i64 0, .int .i64 0, .int .i64 0, .int .i64 0] 29)) (Nat.le_of_eq hg8) A
  have K8 := Lib.hid ((HZ13.out w1).row A)
  rw [hg8] at K8 ⊢
  replace HW := Lib.hid (HW.out.trans hb2)
  generalize World.setRow (World.alloc w1 _) _ _ = w1 at *
  clear hb2 hg8
  (try simp only [Act.put])
  go_upto_region 4 with (first | (go_at_call 16; (with_reducible refine Calls.mono (NT.out _ _ (HV.out.mono HW.out)) ?_); rintro e1 w1 ⟨rfl, hb1⟩; replace K8 := Lib.hid (K8.out.bw hb1); replace HW := Lib.hid (HW.out.trans hb1); clear hb1) | (go_at_call 15; (with_reducible refine Calls.mono (BE.out _ _ _ ?_) ?_); exact ⟨by omega, by omega⟩; rintro e1 w1 ⟨rfl, hb1⟩; replace K8 := Lib.hid (K8.out.bw hb1); replace HW := Lib.hid (HW.out.trans hb1); clear hb1) | (go_at_call 18; (with_reducible refine Calls.mono (SG.out _ _ _ ?_) ?_); exact ⟨by omega, by omega⟩; rintro e1 w1 ⟨rfl, hb1⟩; replace K8 := Lib.hid (K8.out.bw hb1); replace HW := Lib.hid (HW.out.trans hb1); clear hb1) | ((with_reducible refine at_store 32 (.tmp 9) (.tmp 33) ?_); refine wpList_store_row rfl 32 (.tmp 9) (.tmp 33) rfl w1.heap.size #[.int .i64 u0, .int .i64 u1, .int .i64 u2] rfl rfl 32 #[.int .i64 0, .int .i64 0, .int .i64 0] (HZ3.out w1) (by kernel_rfl) rfl (by simp [Value.oneCell']) ?_))
  obtain ⟨g9, hg9⟩ : ∃ g9, w1.heap.size = g9 := ⟨_, rfl⟩
  have hb2 := Bw.setRow (Bw.alloc (Bw.refl w1) (.cells #[.int .i64 0, .int .i64 0, .int .i64 0] 32)) (Nat.le_of_eq hg9) #[.int .i64 u0, .int .i64 u1, .int .i64 u2]
  have K9 := Lib.hid ((HZ3.out w1).row #[.int .i64 u0, .int .i64 u1, .int .i64 u2])
  rw [hg9] at K9 ⊢
  replace HW := Lib.hid (HW.out.trans hb2)
  replace K8 := Lib.hid (K8.out.bw hb2)
  generalize World.setRow (World.alloc w1 _) _ _ = w1 at *
  clear hb2 hg9
  (try simp only [Act.put])
  go_upto_region 5 with (first | (go_at_call 16; (with_reducible refine Calls.mono (NT.out _ _ (HV.out.mono HW.out)) ?_); rintro e1 w1 ⟨rfl, hb1⟩; replace K8 := Lib.hid (K8.out.bw hb1); replace K9 := Lib.hid (K9.out.bw hb1); replace HW := Lib.hid (HW.out.trans hb1); clear hb1) | (go_at_call 15; (with_reducible refine Calls.mono (BE.out _ _ _ ?_) ?_); exact ⟨by omega, by omega⟩; rintro e1 w1 ⟨rfl, hb1⟩; replace K8 := Lib.hid (K8.out.bw hb1); replace K9 := Lib.hid (K9.out.bw hb1); replace HW := Lib.hid (HW.out.trans hb1); clear hb1) | (go_at_call 18; (with_reducible refine Calls.mono (SG.out _ _ _ ?_) ?_); exact ⟨by omega, by omega⟩; rintro e1 w1 ⟨rfl, hb1⟩; replace K8 := Lib.hid (K8.out.bw hb1); replace K9 := Lib.hid (K9.out.bw hb1); replace HW := Lib.hid (HW.out.trans hb1); clear hb1))
  go_upto_region 6 with (first | ((with_reducible refine at_load 29 (.tmp 8) ?_); refine wpList_load_row rfl 29 _ rfl g8 rfl 29 A (0, 0) _ K8.out Tryd.underlying29 rfl HSZA.out ?_) | ((with_reducible refine at_load 32 (.tmp 9) ?_); refine wpList_load_row rfl 32 _ rfl g9 rfl 32 #[.int .i64 u0, .int .i64 u1, .int .i64 u2] (0, 0) _ K9.out Tryd.underlying32 rfl (by kernel_rfl) ?_) | (go_at_call 7; (with_reducible refine Calls.mono (PA.out _ (HWD.out.bw HW.out)) ?_); rintro e1 w1 ⟨rfl, hb1⟩; replace HW := Lib.hid (HW.out.trans hb1); replace K8 := Lib.hid (K8.out.bw hb1); replace K9 := Lib.hid (K9.out.bw hb1); clear hb1) | ((with_reducible refine at_store 23 (.tmp 14) (.tmp 56) ?_); refine wpList_store_row rfl 23 (.tmp 14) (.tmp 56) rfl w1.heap.size #[.int .i64 a0, .int .i64 a1, .int .i64 a2, .int .i64 a3, .int .i64 a4, .int .i64 a5] rfl rfl 23 #[.int .i64 0, .int .i64 0, .int .i64 0, .int .i64 0, .int .i64 0, .int .i64 0] (HZ6.out w1) (by kernel_rfl) rfl (by simp [Value.oneCell']) ?_))
  obtain ⟨g14, hg14⟩ : ∃ g14, w1.heap.size = g14 := ⟨_, rfl⟩
  have hb2 := Bw.setRow (Bw.alloc (Bw.refl w1) (.cells #[.int .i64 0, .int .i64 0, .int .i64 0, .int .i64 0, .int .i64 0, .int .i64 0] 23)) (Nat.le_of_eq hg14) #[.int .i64 a0, .int .i64 a1, .int .i64 a2, .int .i64 a3, .int .i64 a4, .int .i64 a5]
  have K14 := Lib.hid ((HZ6.out w1).row #[.int .i64 a0, .int .i64 a1, .int .i64 a2, .int .i64 a3, .int .i64 a4, .int .i64 a5])
  rw [hg14] at K14 ⊢
  replace HW := Lib.hid (HW.out.trans hb2)
  replace K8 := Lib.hid (K8.out.bw hb2)
  replace K9 := Lib.hid (K9.out.bw hb2)
  generalize World.setRow (World.alloc w1 _) _ _ = w1 at *
  clear hb2 hg14
  (try simp only [Act.put])
  obtain ⟨WZ, hWZ⟩ : ∃ WZ, WZ = w1 := ⟨_, rfl⟩
  subst hWZ
  clear HV NT SG PG HZV PA
  go_cut [16, 17] from 59 (fun s16 s17 wc => ∃ g16, s16 = .pointer (some ⟨g16, 0, none⟩) ∧ s17 = .int .i64 0 ∧ Hid (Bw WZ wc) ∧ Hid (Blk wc g16 23 #[.int .i64 b0, .int .i64 b1, .int .i64 b2, .int .i64 b3, .int .i64 b4, .int .i64 b5]))
  case first =>
    refine wp_region_held_drew (S := Bw WZ) (by kernel_rfl) (Bw.drew (Bw.refl _)) (fun hS => ?_)
    generalize World.drew _ = wd at hS ⊢
    refine take1 (i := 0) (some 59) rfl rfl (by kernel_rfl) (by kernel_rfl) (by kernel_rfl) (fun _ _ _ _ h => h) rfl hS ?_
    refine Exists.intro (.agg A) ?_
    apply And.intro
    · intro W9 hW9; skip; exact run_load_row 29 _ rfl g8 rfl 29 A _ (K8.out.bw hW9) Tryd.underlying29 rfl HSZA.out
    simp only [Act.put, List.setIfInBounds_toArray, List.set_cons_zero, List.set_cons_succ]
    refine take1 (i := 1) (some 60) rfl rfl (by kernel_rfl) (by kernel_rfl) (by kernel_rfl) (fun _ _ _ _ h => h) rfl hS ?_
    refine Exists.intro (.agg #[.int .i64 u0, .int .i64 u1, .int .i64 u2]) ?_
    apply And.intro
    · intro W9 hW9; skip; exact run_load_row 32 _ rfl g9 rfl 32 #[.int .i64 u0, .int .i64 u1, .int .i64 u2] _ (K9.out.bw hW9) Tryd.underlying32 rfl (by kernel_rfl)
    simp only [Act.put, List.setIfInBounds_toArray, List.set_cons_zero, List.set_cons_succ]
    refine take1 (i := 2) (some 61) rfl rfl (by kernel_rfl) (by kernel_rfl) (by kernel_rfl) (fun _ _ _ _ h => h) rfl hS ?_
    apply Exists.intro
    apply And.intro
    · intro W9 hW9; skip; go_simp; try with_reducible rfl
    simp only [Act.put, List.setIfInBounds_toArray, List.set_cons_zero, List.set_cons_succ]
    refine take1 (i := 4) (some 63) rfl rfl (by kernel_rfl) (by kernel_rfl) (by kernel_rfl) (fun _ _ _ _ h => h) rfl hS ?_
    apply Exists.intro
    apply And.intro
    · intro W9 hW9; skip; go_simp; try with_reducible rfl
    simp only [Act.put, List.setIfInBounds_toArray, List.set_cons_zero, List.set_cons_succ]
    refine take1 (i := 5) (some 64) rfl rfl (by kernel_rfl) (by kernel_rfl) (by kernel_rfl) (fun _ _ _ _ h => h) rfl hS ?_
    apply Exists.intro
    apply And.intro
    · intro W9 hW9; skip; go_simp; try with_reducible rfl
    simp only [Act.put, List.setIfInBounds_toArray, List.set_cons_zero, List.set_cons_succ]
    refine take1 (i := 7) (some 66) rfl rfl (by kernel_rfl) (by kernel_rfl) (by kernel_rfl) (fun _ _ _ _ h => h) rfl hS ?_
    apply Exists.intro
    apply And.intro
    · intro W9 hW9; skip; go_simp; try with_reducible rfl
    simp only [Act.put, List.setIfInBounds_toArray, List.set_cons_zero, List.set_cons_succ]
    refine take1 (i := 8) (some 67) rfl rfl (by kernel_rfl) (by kernel_rfl) (by kernel_rfl) (fun _ _ _ _ h => h) rfl hS ?_
    apply Exists.intro
    apply And.intro
    · intro W9 hW9; skip; go_simp; try with_reducible rfl
    simp only [Act.put, List.setIfInBounds_toArray, List.set_cons_zero, List.set_cons_succ]
    refine take1 (i := 10) (some 69) rfl rfl (by kernel_rfl) (by kernel_rfl) (by kernel_rfl) (fun _ _ _ _ h => h) rfl hS ?_
    apply Exists.intro
    apply And.intro
    · intro W9 hW9; skip; go_simp; try with_reducible rfl
    simp only [Act.put, List.setIfInBounds_toArray, List.set_cons_zero, List.set_cons_succ]
    refine take1 (i := 11) (some 70) rfl rfl (by kernel_rfl) (by kernel_rfl) (by kernel_rfl) (fun _ _ _ _ h => h) rfl hS ?_
    apply Exists.intro
    apply And.intro
    · intro W9 hW9; skip; go_simp; try with_reducible rfl
    simp only [Act.put, List.setIfInBounds_toArray, List.set_cons_zero, List.set_cons_succ]
    refine take1 (i := 13) (some 72) rfl rfl (by kernel_rfl) (by kernel_rfl) (by kernel_rfl) (fun _ _ _ _ h => h) rfl hS ?_
    apply Exists.intro
    apply And.intro
    · intro W9 hW9; skip; go_simp; try with_reducible rfl
    simp only [Act.put, List.setIfInBounds_toArray, List.set_cons_zero, List.set_cons_succ]
    refine take1 (i := 15) (some 74) rfl rfl (by kernel_rfl) (by kernel_rfl) (by kernel_rfl) (fun _ _ _ _ h => h) rfl hS ?_
    apply Exists.intro
    apply And.intro
    · intro W9 hW9; skip; go_simp; try with_reducible rfl
    simp only [Act.put, List.setIfInBounds_toArray, List.set_cons_zero, List.set_cons_succ]
    refine take1 (i := 16) (some 75) rfl rfl (by kernel_rfl) (by kernel_rfl) (by kernel_rfl) (fun _ _ _ _ h => h) rfl hS ?_
    apply Exists.intro
    apply And.intro
    · intro W9 hW9; skip; go_simp; try with_reducible rfl
    simp only [Act.put, List.setIfInBounds_toArray, List.set_cons_zero, List.set_cons_succ]
    refine take1 (i := 18) (some 77) rfl rfl (by kernel_rfl) (by kernel_rfl) (by kernel_rfl) (fun _ _ _ _ h => h) rfl hS ?_
    apply Exists.intro
    apply And.intro
    · intro W9 hW9; skip; go_simp; try with_reducible rfl
    simp only [Act.put, List.setIfInBounds_toArray, List.set_cons_zero, List.set_cons_succ]
    refine wpAnyH_ready (rs := [3, 23]) (by kernel_rfl) (by simp) ?_
    refine AllReadyH.cons rfl (fun K hK => ?_) ?_
    go_simp
    go_wp2_with (go_at_call 16; (with_reducible refine Calls.mono (NTL.out _ _ (HLV.out.mono (HW.out.trans hS))) ?_); rintro e1 wd ⟨rfl, hbw⟩)
    refine hK.out _ _ (hS.trans hbw) (fun hS => ?_)
    clear hK K
    clear hbw
    refine wpAnyH_ready (rs := [6, 23]) (by kernel_rfl) (by simp) ?_
    refine AllReadyH.cons rfl (fun K hK => ?_) ?_
    go_simp
    go_wp2_with (go_at_call 15; (with_reducible refine Calls.mono (BE.out _ _ _ ?_) ?_); exact ⟨by omega, by omega⟩; rintro e1 wd ⟨rfl, hbw⟩)
    refine hK.out _ _ (hS.trans hbw) (fun hS => ?_)
    clear hK K
    clear hbw
    refine wpAnyH_ready (rs := [9, 23]) (by kernel_rfl) (by simp) ?_
    refine AllReadyH.cons rfl (fun K hK => ?_) ?_
    go_simp
    go_wp2_with (go_at_call 16; (with_reducible refine Calls.mono (NTL.out _ _ (HLV.out.mono (HW.out.trans hS))) ?_); rintro e1 wd ⟨rfl, hbw⟩)
    refine hK.out _ _ (hS.trans hbw) (fun hS => ?_)
    clear hK K
    clear hbw
    refine wpAnyH_ready (rs := [12, 23]) (by kernel_rfl) (by simp) ?_
    refine AllReadyH.cons rfl (fun K hK => ?_) ?_
    go_simp
    go_wp2_with (go_at_call 15; (with_reducible refine Calls.mono (BE.out _ _ _ ?_) ?_); exact ⟨by omega, by omega⟩; rintro e1 wd ⟨rfl, hbw⟩)
    refine hK.out _ _ (hS.trans hbw) (fun hS => ?_)
    clear hK K
    clear hbw
    refine wpAnyH_ready (rs := [14, 23]) (by kernel_rfl) (by simp) ?_
    refine AllReadyH.cons rfl (fun K hK => ?_) ?_
    go_simp
    go_wp2_with (go_at_call 16; (with_reducible refine Calls.mono (NTL.out _ _ (HLV.out.mono (HW.out.trans hS))) ?_); rintro e1 wd ⟨rfl, hbw⟩)
    refine hK.out _ _ (hS.trans hbw) (fun hS => ?_)
    clear hK K
    clear hbw
    refine wpAnyH_ready (rs := [17, 23]) (by kernel_rfl) (by simp) ?_
    refine AllReadyH.cons rfl (fun K hK => ?_) ?_
    go_simp
    go_wp2_with (go_at_call 15; (with_reducible refine Calls.mono (BE.out _ _ _ ?_) ?_); exact ⟨by omega, by omega⟩; rintro e1 wd ⟨rfl, hbw⟩)
    refine hK.out _ _ (hS.trans hbw) (fun hS => ?_)
    clear hK K
    clear hbw
    refine wpAnyH_ready (rs := [19, 23]) (by kernel_rfl) (by simp) ?_
    refine AllReadyH.cons rfl (fun K hK => ?_) ?_
    go_simp
    go_wp2_with (go_at_call 7; (with_reducible refine Calls.mono (PB.out _ (HWD.out.bw (HW.out.trans hS))) ?_); rintro e1 wd ⟨rfl, hbw⟩)
    refine hK.out _ _ (hS.trans hbw) (fun hS => ?_)
    clear hK K
    clear hbw
    refine take1 (i := 20) (some 58) rfl rfl (by kernel_rfl) (by kernel_rfl) (by kernel_rfl) (fun _ _ _ _ h => h) rfl hS ?_
    apply Exists.intro
    apply And.intro
    · intro W9 hW9; skip; go_simp; try with_reducible rfl
    simp only [Act.put, List.setIfInBounds_toArray, List.set_cons_zero, List.set_cons_succ]
    refine take1 (i := 21) (some 79) rfl rfl (by kernel_rfl) (by kernel_rfl) (by kernel_rfl) (fun _ _ _ _ h => h) rfl hS ?_
    apply Exists.intro
    apply And.intro
    · intro W9 hW9; skip; go_simp; try with_reducible rfl
    simp only [Act.put, List.setIfInBounds_toArray, List.set_cons_zero, List.set_cons_succ]
    refine take1 (i := 22) (some 80) rfl rfl (by kernel_rfl) (by kernel_rfl) (by kernel_rfl) (fun _ _ _ _ h => h) rfl hS ?_
    apply Exists.intro
    apply And.intro
    · intro W9 hW9; skip; go_simp; try with_reducible rfl
    simp only [Act.put, List.setIfInBounds_toArray, List.set_cons_zero, List.set_cons_succ]
    refine wpAnyH_ready (rs := [23]) (by kernel_rfl) (by simp) ?_
    refine AllReadyH.cons rfl (fun K hK => ?_) ?_
    rw [if_pos (by rfl)]
    refine wp_alloc_agg 23 rfl (some 16) rfl #[.int .i64 0, .int .i64 0, .int .i64 0, .int .i64 0, .int .i64 0, .int .i64 0] (zeroHN _) ?_
    have K16 := Lib.hid (Blk.new wd 23 #[.int .i64 0, .int .i64 0, .int .i64 0, .int .i64 0, .int .i64 0, .int .i64 0])
    have hba := Bw.alloc (Bw.refl wd) (.cells #[.int .i64 0, .int .i64 0, .int .i64 0, .int .i64 0, .int .i64 0, .int .i64 0] 23)
    have HG16 := Lib.hid (show WZ.heap.size ≤ wd.heap.size from hS.size)
    obtain ⟨g16, hg16⟩ : ∃ g16, wd.heap.size = g16 := ⟨_, rfl⟩
    rw [hg16] at K16 HG16 ⊢
    simp only [Act.put, List.setIfInBounds_toArray, List.set_cons_zero, List.set_cons_succ]
    have hS9 := hS.trans hba
    clear hba hS hg16
    generalize World.alloc wd _ = wd at *
    refine hK.out _ _ hS9 (fun hS => ?_)
    clear hK K
    clear hS9
    refine wpAnyH_ready (rs := [24]) (by kernel_rfl) (by simp) ?_
    refine AllReadyH.cons rfl (fun K hK => ?_) ?_
    rw [if_pos (by rfl)]
    refine wp_store_row0 23 _ _ rfl rfl g16 #[.int .i64 b0, .int .i64 b1, .int .i64 b2, .int .i64 b3, .int .i64 b4, .int .i64 b5] rfl rfl 23 #[.int .i64 0, .int .i64 0, .int .i64 0, .int .i64 0, .int .i64 0, .int .i64 0] K16.out (by kernel_rfl) rfl (by simp [Value.oneCell']) ?_
    replace K16 := Lib.hid (K16.out.row #[.int .i64 b0, .int .i64 b1, .int .i64 b2, .int .i64 b3, .int .i64 b4, .int .i64 b5])
    have hS9 := Bw.setRow hS HG16.out #[.int .i64 b0, .int .i64 b1, .int .i64 b2, .int .i64 b3, .int .i64 b4, .int .i64 b5]
    clear hS
    refine hK.out _ _ hS9 (fun hS => ?_)
    clear hK K
    clear hS9
    refine take1 (i := 25) (some 17) rfl rfl (by kernel_rfl) (by kernel_rfl) (by kernel_rfl) (fun _ _ _ _ h => h) rfl hS ?_
    apply Exists.intro
    apply And.intro
    · intro W9 hW9; skip; go_simp; try with_reducible rfl
    simp only [Act.put, List.setIfInBounds_toArray, List.set_cons_zero, List.set_cons_succ]
    refine wpAnyH_done (by kernel_rfl) ?_ _
    rotate_left
    exact AllReadyH.nil
    exact AllReadyH.nil
    refine AllReadyH.cons rfl (fun K hK => ?_) ?_
    rw [if_pos (by rfl)]
    refine wp_alloc_agg 23 rfl (some 16) rfl #[.int .i64 0, .int .i64 0, .int .i64 0, .int .i64 0, .int .i64 0, .int .i64 0] (zeroHN _) ?_
    have K16 := Lib.hid (Blk.new wd 23 #[.int .i64 0, .int .i64 0, .int .i64 0, .int .i64 0, .int .i64 0, .int .i64 0])
    have hba := Bw.alloc (Bw.refl wd) (.cells #[.int .i64 0, .int .i64 0, .int .i64 0, .int .i64 0, .int .i64 0, .int .i64 0] 23)
    have HG16 := Lib.hid (show WZ.heap.size ≤ wd.heap.size from hS.size)
    obtain ⟨g16, hg16⟩ : ∃ g16, wd.heap.size = g16 := ⟨_, rfl⟩
    rw [hg16] at K16 HG16 ⊢
    simp only [Act.put, List.setIfInBounds_toArray, List.set_cons_zero, List.set_cons_succ]
    have hS9 := hS.trans hba
    clear hba hS hg16
    generalize World.alloc wd _ = wd at *
    refine hK.out _ _ hS9 (fun hS => ?_)
    clear hK K
    clear hS9
    refine wpAnyH_ready (rs := [19]) (by kernel_rfl) (by simp) ?_
    refine AllReadyH.cons rfl (fun K hK => ?_) ?_
    go_simp
    go_wp2_with (go_at_call 7; (with_reducible refine Calls.mono (PB.out _ (HWD.out.bw (HW.out.trans hS))) ?_); rintro e1 wd ⟨rfl, hbw⟩)
    replace K16 := Lib.hid (K16.out.bw hbw)
    refine hK.out _ _ (hS.trans hbw) (fun hS => ?_)
    clear hK K
    clear hbw
    refine take1 (i := 20) (some 58) rfl rfl (by kernel_rfl) (by kernel_rfl) (by kernel_rfl) (fun _ _ _ _ h => h) rfl hS ?_
    apply Exists.intro
    apply And.intro
    · intro W9 hW9; skip; go_simp; try with_reducible rfl
    simp only [Act.put, List.setIfInBounds_toArray, List.set_cons_zero, List.set_cons_succ]
    refine take1 (i := 21) (some 79) rfl rfl (by kernel_rfl) (by kernel_rfl) (by kernel_rfl) (fun _ _ _ _ h => h) rfl hS ?_
    apply Exists.intro
    apply And.intro
    · intro W9 hW9; skip; go_simp; try with_reducible rfl
    simp only [Act.put, List.setIfInBounds_toArray, List.set_cons_zero, List.set_cons_succ]
    refine take1 (i := 22) (some 80) rfl rfl (by kernel_rfl) (by kernel_rfl) (by kernel_rfl) (fun _ _ _ _ h => h) rfl hS ?_
    apply Exists.intro
    apply And.intro
    · intro W9 hW9; skip; go_simp; try with_reducible rfl
    simp only [Act.put, List.setIfInBounds_toArray, List.set_cons_zero, List.set_cons_succ]
    refine wpAnyH_ready (rs := [24]) (by kernel_rfl) (by simp) ?_
    refine AllReadyH.cons rfl (fun K hK => ?_) ?_
    rw [if_pos (by rfl)]
    refine wp_store_row0 23 _ _ rfl rfl g16 #[.int .i64 b0, .int .i64 b1, .int .i64 b2, .int .i64 b3, .int .i64 b4, .int .i64 b5] rfl rfl 23 #[.int .i64 0, .int .i64 0, .int .i64 0, .int .i64 0, .int .i64 0, .int .i64 0] K16.out (by kernel_rfl) rfl (by simp [Value.oneCell']) ?_
    replace K16 := Lib.hid (K16.out.row #[.int .i64 b0, .int .i64 b1, .int .i64 b2, .int .i64 b3, .int .i64 b4, .int .i64 b5])
    have hS9 := Bw.setRow hS HG16.out #[.int .i64 b0, .int .i64 b1, .int .i64 b2, .int .i64 b3, .int .i64 b4, .int .i64 b5]
    clear hS
    refine hK.out _ _ hS9 (fun hS => ?_)
    clear hK K
    clear hS9
    refine take1 (i := 25) (some 17) rfl rfl (by kernel_rfl) (by kernel_rfl) (by kernel_rfl) (fun _ _ _ _ h => h) rfl hS ?_
    apply Exists.intro
    apply And.intro
    · intro W9 hW9; skip; go_simp; try with_reducible rfl
    simp only [Act.put, List.setIfInBounds_toArray, List.set_cons_zero, List.set_cons_succ]
    refine wpAnyH_done (by kernel_rfl) ?_ _
    rotate_left
    exact AllReadyH.nil
    exact AllReadyH.nil
    exact AllReadyH.nil
    refine AllReadyH.cons rfl (fun K hK => ?_) ?_
    rw [if_pos (by rfl)]
    refine wp_alloc_agg 23 rfl (some 16) rfl #[.int .i64 0, .int .i64 0, .int .i64 0, .int .i64 0, .int .i64 0, .int .i64 0] (zeroHN _) ?_
    have K16 := Lib.hid (Blk.new wd 23 #[.int .i64 0, .int .i64 0, .int .i64 0, .int .i64 0, .int .i64 0, .int .i64 0])
    have hba := Bw.alloc (Bw.refl wd) (.cells #[.int .i64 0, .int .i64 0, .int .i64 0, .int .i64 0, .int .i64 0, .int .i64 0] 23)
    have HG16 := Lib.hid (show WZ.heap.size ≤ wd.heap.size from hS.size)
    obtain ⟨g16, hg16⟩ : ∃ g16, wd.heap.size = g16 := ⟨_, rfl⟩
    rw [hg16] at K16 HG16 ⊢
    simp only [Act.put, List.setIfInBounds_toArray, List.set_cons_zero, List.set_cons_succ]
    have hS9 := hS.trans hba
    clear hba hS hg16
    generalize World.alloc wd _ = wd at *
    refine hK.out _ _ hS9 (fun hS => ?_)
    clear hK K
    clear hS9
    refine wpAnyH_ready (rs := [17]) (by kernel_rfl) (by simp) ?_
    refine AllReadyH.cons rfl (fun K hK => ?_) ?_
    go_simp
    go_wp2_with (go_at_call 15; (with_reducible refine Calls.mono (BE.out _ _ _ ?_) ?_); exact ⟨by omega, by omega⟩; rintro e1 wd ⟨rfl, hbw⟩)
    replace K16 := Lib.hid (K16.out.bw hbw)
    refine hK.out _ _ (hS.trans hbw) (fun hS => ?_)
    clear hK K
    clear hbw
    refine wpAnyH_ready (rs := [19]) (by kernel_rfl) (by simp) ?_
    refine AllReadyH.cons rfl (fun K hK => ?_) ?_
    go_simp
    go_wp2_with (go_at_call 7; (with_reducible refine Calls.mono (PB.out _ (HWD.out.bw (HW.out.trans hS))) ?_); rintro e1 wd ⟨rfl, hbw⟩)
    replace K16 := Lib.hid (K16.out.bw hbw)
    refine hK.out _ _ (hS.trans hbw) (fun hS => ?_)
    clear hK K
    clear hbw
    refine take1 (i := 20) (some 58) rfl rfl (by kernel_rfl) (by kernel_rfl) (by kernel_rfl) (fun _ _ _ _ h => h) rfl hS ?_
    apply Exists.intro
    apply And.intro
    · intro W9 hW9; skip; go_simp; try with_reducible rfl
    simp only [Act.put, List.setIfInBounds_toArray, List.set_cons_zero, List.set_cons_succ]
    refine take1 (i := 21) (some 79) rfl rfl (by kernel_rfl) (by kernel_rfl) (by kernel_rfl) (fun _ _ _ _ h => h) rfl hS ?_
    apply Exists.intro
    apply And.intro
    · intro W9 hW9; skip; go_simp; try with_reducible rfl
    simp only [Act.put, List.setIfInBounds_toArray, List.set_cons_zero, List.set_cons_succ]
    refine take1 (i := 22) (some 80) rfl rfl (by kernel_rfl) (by kernel_rfl) (by kernel_rfl) (fun _ _ _ _ h => h) rfl hS ?_
    apply Exists.intro
    apply And.intro
    · intro W9 hW9; skip; go_simp; try with_reducible rfl
    simp only [Act.put, List.setIfInBounds_toArray, List.set_cons_zero, List.set_cons_succ]
    refine wpAnyH_ready (rs := [24]) (by kernel_rfl) (by simp) ?_
    refine AllReadyH.cons rfl (fun K hK => ?_) ?_
    rw [if_pos (by rfl)]
    refine wp_store_row0 23 _ _ rfl rfl g16 #[.int .i64 b0, .int .i64 b1, .int .i64 b2, .int .i64 b3, .int .i64 b4, .int .i64 b5] rfl rfl 23 #[.int .i64 0, .int .i64 0, .int .i64 0, .int .i64 0, .int .i64 0, .int .i64 0] K16.out (by kernel_rfl) rfl (by simp [Value.oneCell']) ?_
    replace K16 := Lib.hid (K16.out.row #[.int .i64 b0, .int .i64 b1, .int .i64 b2, .int .i64 b3, .int .i64 b4, .int .i64 b5])
    have hS9 := Bw.setRow hS HG16.out #[.int .i64 b0, .int .i64 b1, .int .i64 b2, .int .i64 b3, .int .i64 b4, .int .i64 b5]
    clear hS
    refine hK.out _ _ hS9 (fun hS => ?_)
    clear hK K
    clear hS9
    refine take1 (i := 25) (some 17) rfl rfl (by kernel_rfl) (by kernel_rfl) (by kernel_rfl) (fun _ _ _ _ h => h) rfl hS ?_
    apply Exists.intro
    apply And.intro
    · intro W9 hW9; skip; go_simp; try with_reducible rfl
    simp only [Act.put, List.setIfInBounds_toArray, List.set_cons_zero, List.set_cons_succ]
    refine wpAnyH_done (by kernel_rfl) ?_ _
    rotate_left
    exact AllReadyH.nil
    exact AllReadyH.nil
    exact AllReadyH.nil
    exact AllReadyH.nil
    refine AllReadyH.cons rfl (fun K hK => ?_) ?_
    rw [if_pos (by rfl)]
    refine wp_alloc_agg 23 rfl (some 16) rfl #[.int .i64 0, .int .i64 0, .int .i64 0, .int .i64 0, .int .i64 0, .int .i64 0] (zeroHN _) ?_
    have K16 := Lib.hid (Blk.new wd 23 #[.int .i64 0, .int .i64 0, .int .i64 0, .int .i64 0, .int .i64 0, .int .i64 0])
    have hba := Bw.alloc (Bw.refl wd) (.cells #[.int .i64 0, .int .i64 0, .int .i64 0, .int .i64 0, .int .i64 0, .int .i64 0] 23)
    have HG16 := Lib.hid (show WZ.heap.size ≤ wd.heap.size from hS.size)
    obtain ⟨g16, hg16⟩ : ∃ g16, wd.heap.size = g16 := ⟨_, rfl⟩
    rw [hg16] at K16 HG16 ⊢
    simp only [Act.put, List.setIfInBounds_toArray, List.set_cons_zero, List.set_cons_succ]
    have hS9 := hS.trans hba
    clear hba hS hg16
    generalize World.alloc wd _ = wd at *
    refine hK.out _ _ hS9 (fun hS => ?_)
    clear hK K
    clear hS9
    refine wpAnyH_ready (rs := [14]) (by kernel_rfl) (by simp) ?_
    refine AllReadyH.cons rfl (fun K hK => ?_) ?_
    go_simp
    go_wp2_with (go_at_call 16; (with_reducible refine Calls.mono (NTL.out _ _ (HLV.out.mono (HW.out.trans hS))) ?_); rintro e1 wd ⟨rfl, hbw⟩)
    replace K16 := Lib.hid (K16.out.bw hbw)
    refine hK.out _ _ (hS.trans hbw) (fun hS => ?_)
    clear hK K
    clear hbw
    refine wpAnyH_ready (rs := [17]) (by kernel_rfl) (by simp) ?_
    refine AllReadyH.cons rfl (fun K hK => ?_) ?_
    go_simp
    go_wp2_with (go_at_call 15; (with_reducible refine Calls.mono (BE.out _ _ _ ?_) ?_); exact ⟨by omega, by omega⟩; rintro e1 wd ⟨rfl, hbw⟩)
    replace K16 := Lib.hid (K16.out.bw hbw)
    refine hK.out _ _ (hS.trans hbw) (fun hS => ?_)
    clear hK K
    clear hbw
    refine wpAnyH_ready (rs := [19]) (by kernel_rfl) (by simp) ?_
    refine AllReadyH.cons rfl (fun K hK => ?_) ?_
    go_simp
    go_wp2_with (go_at_call 7; (with_reducible refine Calls.mono (PB.out _ (HWD.out.bw (HW.out.trans hS))) ?_); rintro e1 wd ⟨rfl, hbw⟩)
    replace K16 := Lib.hid (K16.out.bw hbw)
    refine hK.out _ _ (hS.trans hbw) (fun hS => ?_)
    clear hK K
    clear hbw
    refine take1 (i := 20) (some 58) rfl rfl (by kernel_rfl) (by kernel_rfl) (by kernel_rfl) (fun _ _ _ _ h => h) rfl hS ?_
    apply Exists.intro
    apply And.intro
    · intro W9 hW9; skip; go_simp; try with_reducible rfl
    simp only [Act.put, List.setIfInBounds_toArray, List.set_cons_zero, List.set_cons_succ]
    refine take1 (i := 21) (some 79) rfl rfl (by kernel_rfl) (by kernel_rfl) (by kernel_rfl) (fun _ _ _ _ h => h) rfl hS ?_
    apply Exists.intro
    apply And.intro
    · intro W9 hW9; skip; go_simp; try with_reducible rfl
    simp only [Act.put, List.setIfInBounds_toArray, List.set_cons_zero, List.set_cons_succ]
    refine take1 (i := 22) (some 80) rfl rfl (by kernel_rfl) (by kernel_rfl) (by kernel_rfl) (fun _ _ _ _ h => h) rfl hS ?_
    apply Exists.intro
    apply And.intro
    · intro W9 hW9; skip; go_simp; try with_reducible rfl
    simp only [Act.put, List.setIfInBounds_toArray, List.set_cons_zero, List.set_cons_succ]
    refine wpAnyH_ready (rs := [24]) (by kernel_rfl) (by simp) ?_
    refine AllReadyH.cons rfl (fun K hK => ?_) ?_
    rw [if_pos (by rfl)]
    refine wp_store_row0 23 _ _ rfl rfl g16 #[.int .i64 b0, .int .i64 b1, .int .i64 b2, .int .i64 b3, .int .i64 b4, .int .i64 b5] rfl rfl 23 #[.int .i64 0, .int .i64 0, .int .i64 0, .int .i64 0, .int .i64 0, .int .i64 0] K16.out (by kernel_rfl) rfl (by simp [Value.oneCell']) ?_
    replace K16 := Lib.hid (K16.out.row #[.int .i64 b0, .int .i64 b1, .int .i64 b2, .int .i64 b3, .int .i64 b4, .int .i64 b5])
    have hS9 := Bw.setRow hS HG16.out #[.int .i64 b0, .int .i64 b1, .int .i64 b2, .int .i64 b3, .int .i64 b4, .int .i64 b5]
    clear hS
    refine hK.out _ _ hS9 (fun hS => ?_)
    clear hK K
    clear hS9
    refine take1 (i := 25) (some 17) rfl rfl (by kernel_rfl) (by kernel_rfl) (by kernel_rfl) (fun _ _ _ _ h => h) rfl hS ?_
    apply Exists.intro
    apply And.intro
    · intro W9 hW9; skip; go_simp; try with_reducible rfl
    simp only [Act.put, List.setIfInBounds_toArray, List.set_cons_zero, List.set_cons_succ]
    refine wpAnyH_done (by kernel_rfl) ?_ _
    rotate_left
    exact AllReadyH.nil
    exact AllReadyH.nil
    exact AllReadyH.nil
    exact AllReadyH.nil
    exact AllReadyH.nil
    refine AllReadyH.cons rfl (fun K hK => ?_) ?_
    rw [if_pos (by rfl)]
    refine wp_alloc_agg 23 rfl (some 16) rfl #[.int .i64 0, .int .i64 0, .int .i64 0, .int .i64 0, .int .i64 0, .int .i64 0] (zeroHN _) ?_
    have K16 := Lib.hid (Blk.new wd 23 #[.int .i64 0, .int .i64 0, .int .i64 0, .int .i64 0, .int .i64 0, .int .i64 0])
    have hba := Bw.alloc (Bw.refl wd) (.cells #[.int .i64 0, .int .i64 0, .int .i64 0, .int .i64 0, .int .i64 0, .int .i64 0] 23)
    have HG16 := Lib.hid (show WZ.heap.size ≤ wd.heap.size from hS.size)
    obtain ⟨g16, hg16⟩ : ∃ g16, wd.heap.size = g16 := ⟨_, rfl⟩
    rw [hg16] at K16 HG16 ⊢
    simp only [Act.put, List.setIfInBounds_toArray, List.set_cons_zero, List.set_cons_succ]
    have hS9 := hS.trans hba
    clear hba hS hg16
    generalize World.alloc wd _ = wd at *
    refine hK.out _ _ hS9 (fun hS => ?_)
    clear hK K
    clear hS9
    refine wpAnyH_ready (rs := [12]) (by kernel_rfl) (by simp) ?_
    refine AllReadyH.cons rfl (fun K hK => ?_) ?_
    go_simp
    go_wp2_with (go_at_call 15; (with_reducible refine Calls.mono (BE.out _ _ _ ?_) ?_); exact ⟨by omega, by omega⟩; rintro e1 wd ⟨rfl, hbw⟩)
    replace K16 := Lib.hid (K16.out.bw hbw)
    refine hK.out _ _ (hS.trans hbw) (fun hS => ?_)
    clear hK K
    clear hbw
    refine wpAnyH_ready (rs := [14]) (by kernel_rfl) (by simp) ?_
    refine AllReadyH.cons rfl (fun K hK => ?_) ?_
    go_simp
    go_wp2_with (go_at_call 16; (with_reducible refine Calls.mono (NTL.out _ _ (HLV.out.mono (HW.out.trans hS))) ?_); rintro e1 wd ⟨rfl, hbw⟩)
    replace K16 := Lib.hid (K16.out.bw hbw)
    refine hK.out _ _ (hS.trans hbw) (fun hS => ?_)
    clear hK K
    clear hbw
    refine wpAnyH_ready (rs := [17]) (by kernel_rfl) (by simp) ?_
    refine AllReadyH.cons rfl (fun K hK => ?_) ?_
    go_simp
    go_wp2_with (go_at_call 15; (with_reducible refine Calls.mono (BE.out _ _ _ ?_) ?_); exact ⟨by omega, by omega⟩; rintro e1 wd ⟨rfl, hbw⟩)
    replace K16 := Lib.hid (K16.out.bw hbw)
    refine hK.out _ _ (hS.trans hbw) (fun hS => ?_)
    clear hK K
    clear hbw
    refine wpAnyH_ready (rs := [19]) (by kernel_rfl) (by simp) ?_
    refine AllReadyH.cons rfl (fun K hK => ?_) ?_
    go_simp
    go_wp2_with (go_at_call 7; (with_reducible refine Calls.mono (PB.out _ (HWD.out.bw (HW.out.trans hS))) ?_); rintro e1 wd ⟨rfl, hbw⟩)
    replace K16 := Lib.hid (K16.out.bw hbw)
    refine hK.out _ _ (hS.trans hbw) (fun hS => ?_)
    clear hK K
    clear hbw
    refine take1 (i := 20) (some 58) rfl rfl (by kernel_rfl) (by kernel_rfl) (by kernel_rfl) (fun _ _ _ _ h => h) rfl hS ?_
    apply Exists.intro
    apply And.intro
    · intro W9 hW9; skip; go_simp; try with_reducible rfl
    simp only [Act.put, List.setIfInBounds_toArray, List.set_cons_zero, List.set_cons_succ]
    refine take1 (i := 21) (some 79) rfl rfl (by kernel_rfl) (by kernel_rfl) (by kernel_rfl) (fun _ _ _ _ h => h) rfl hS ?_
    apply Exists.intro
    apply And.intro
    · intro W9 hW9; skip; go_simp; try with_reducible rfl
    simp only [Act.put, List.setIfInBounds_toArray, List.set_cons_zero, List.set_cons_succ]
    refine take1 (i := 22) (some 80) rfl rfl (by kernel_rfl) (by kernel_rfl) (by kernel_rfl) (fun _ _ _ _ h => h) rfl hS ?_
    apply Exists.intro
    apply And.intro
    · intro W9 hW9; skip; go_simp; try with_reducible rfl
    simp only [Act.put, List.setIfInBounds_toArray, List.set_cons_zero, List.set_cons_succ]
    refine wpAnyH_ready (rs := [24]) (by kernel_rfl) (by simp) ?_
    refine AllReadyH.cons rfl (fun K hK => ?_) ?_
    rw [if_pos (by rfl)]
    refine wp_store_row0 23 _ _ rfl rfl g16 #[.int .i64 b0, .int .i64 b1, .int .i64 b2, .int .i64 b3, .int .i64 b4, .int .i64 b5] rfl rfl 23 #[.int .i64 0, .int .i64 0, .int .i64 0, .int .i64 0, .int .i64 0, .int .i64 0] K16.out (by kernel_rfl) rfl (by simp [Value.oneCell']) ?_
    replace K16 := Lib.hid (K16.out.row #[.int .i64 b0, .int .i64 b1, .int .i64 b2, .int .i64 b3, .int .i64 b4, .int .i64 b5])
    have hS9 := Bw.setRow hS HG16.out #[.int .i64 b0, .int .i64 b1, .int .i64 b2, .int .i64 b3, .int .i64 b4, .int .i64 b5]
    clear hS
    refine hK.out _ _ hS9 (fun hS => ?_)
    clear hK K
    clear hS9
    refine take1 (i := 25) (some 17) rfl rfl (by kernel_rfl) (by kernel_rfl) (by kernel_rfl) (fun _ _ _ _ h => h) rfl hS ?_
    apply Exists.intro
    apply And.intro
    · intro W9 hW9; skip; go_simp; try with_reducible rfl
    simp only [Act.put, List.setIfInBounds_toArray, List.set_cons_zero, List.set_cons_succ]
    refine wpAnyH_done (by kernel_rfl) ?_ _
    rotate_left
    exact AllReadyH.nil
    exact AllReadyH.nil
    exact AllReadyH.nil
    exact AllReadyH.nil
    exact AllReadyH.nil
    exact AllReadyH.nil
    refine AllReadyH.cons rfl (fun K hK => ?_) ?_
    rw [if_pos (by rfl)]
    refine wp_alloc_agg 23 rfl (some 16) rfl #[.int .i64 0, .int .i64 0, .int .i64 0, .int .i64 0, .int .i64 0, .int .i64 0] (zeroHN _) ?_
    have K16 := Lib.hid (Blk.new wd 23 #[.int .i64 0, .int .i64 0, .int .i64 0, .int .i64 0, .int .i64 0, .int .i64 0])
    have hba := Bw.alloc (Bw.refl wd) (.cells #[.int .i64 0, .int .i64 0, .int .i64 0, .int .i64 0, .int .i64 0, .int .i64 0] 23)
    have HG16 := Lib.hid (show WZ.heap.size ≤ wd.heap.size from hS.size)
    obtain ⟨g16, hg16⟩ : ∃ g16, wd.heap.size = g16 := ⟨_, rfl⟩
    rw [hg16] at K16 HG16 ⊢
    simp only [Act.put, List.setIfInBounds_toArray, List.set_cons_zero, List.set_cons_succ]
    have hS9 := hS.trans hba
    clear hba hS hg16
    generalize World.alloc wd _ = wd at *
    refine hK.out _ _ hS9 (fun hS => ?_)
    clear hK K
    clear hS9
    refine wpAnyH_ready (rs := [9]) (by kernel_rfl) (by simp) ?_
    refine AllReadyH.cons rfl (fun K hK => ?_) ?_
    go_simp
    go_wp2_with (go_at_call 16; (with_reducible refine Calls.mono (NTL.out _ _ (HLV.out.mono (HW.out.trans hS))) ?_); rintro e1 wd ⟨rfl, hbw⟩)
    replace K16 := Lib.hid (K16.out.bw hbw)
    refine hK.out _ _ (hS.trans hbw) (fun hS => ?_)
    clear hK K
    clear hbw
    refine wpAnyH_ready (rs := [12]) (by kernel_rfl) (by simp) ?_
    refine AllReadyH.cons rfl (fun K hK => ?_) ?_
    go_simp
    go_wp2_with (go_at_call 15; (with_reducible refine Calls.mono (BE.out _ _ _ ?_) ?_); exact ⟨by omega, by omega⟩; rintro e1 wd ⟨rfl, hbw⟩)
    replace K16 := Lib.hid (K16.out.bw hbw)
    refine hK.out _ _ (hS.trans hbw) (fun hS => ?_)
    clear hK K
    clear hbw
    refine wpAnyH_ready (rs := [14]) (by kernel_rfl) (by simp) ?_
    refine AllReadyH.cons rfl (fun K hK => ?_) ?_
    go_simp
    go_wp2_with (go_at_call 16; (with_reducible refine Calls.mono (NTL.out _ _ (HLV.out.mono (HW.out.trans hS))) ?_); rintro e1 wd ⟨rfl, hbw⟩)
    replace K16 := Lib.hid (K16.out.bw hbw)
    refine hK.out _ _ (hS.trans hbw) (fun hS => ?_)
    clear hK K
    clear hbw
    refine wpAnyH_ready (rs := [17]) (by kernel_rfl) (by simp) ?_
    refine AllReadyH.cons rfl (fun K hK => ?_) ?_
    go_simp
    go_wp2_with (go_at_call 15; (with_reducible refine Calls.mono (BE.out _ _ _ ?_) ?_); exact ⟨by omega, by omega⟩; rintro e1 wd ⟨rfl, hbw⟩)
    replace K16 := Lib.hid (K16.out.bw hbw)
    refine hK.out _ _ (hS.trans hbw) (fun hS => ?_)
    clear hK K
    clear hbw
    refine wpAnyH_ready (rs := [19]) (by kernel_rfl) (by simp) ?_
    refine AllReadyH.cons rfl (fun K hK => ?_) ?_
    go_simp
    go_wp2_with (go_at_call 7; (with_reducible refine Calls.mono (PB.out _ (HWD.out.bw (HW.out.trans hS))) ?_); rintro e1 wd ⟨rfl, hbw⟩)
    replace K16 := Lib.hid (K16.out.bw hbw)
    refine hK.out _ _ (hS.trans hbw) (fun hS => ?_)
    clear hK K
    clear hbw
    refine take1 (i := 20) (some 58) rfl rfl (by kernel_rfl) (by kernel_rfl) (by kernel_rfl) (fun _ _ _ _ h => h) rfl hS ?_
    apply Exists.intro
    apply And.intro
    · intro W9 hW9; skip; go_simp; try with_reducible rfl
    simp only [Act.put, List.setIfInBounds_toArray, List.set_cons_zero, List.set_cons_succ]
    refine take1 (i := 21) (some 79) rfl rfl (by kernel_rfl) (by kernel_rfl) (by kernel_rfl) (fun _ _ _ _ h => h) rfl hS ?_
    apply Exists.intro
    apply And.intro
    · intro W9 hW9; skip; go_simp; try with_reducible rfl
    simp only [Act.put, List.setIfInBounds_toArray, List.set_cons_zero, List.set_cons_succ]
    refine take1 (i := 22) (some 80) rfl rfl (by kernel_rfl) (by kernel_rfl) (by kernel_rfl) (fun _ _ _ _ h => h) rfl hS ?_
    apply Exists.intro
    apply And.intro
    · intro W9 hW9; skip; go_simp; try with_reducible rfl
    simp only [Act.put, List.setIfInBounds_toArray, List.set_cons_zero, List.set_cons_succ]
    refine wpAnyH_ready (rs := [24]) (by kernel_rfl) (by simp) ?_
    refine AllReadyH.cons rfl (fun K hK => ?_) ?_
    rw [if_pos (by rfl)]
    refine wp_store_row0 23 _ _ rfl rfl g16 #[.int .i64 b0, .int .i64 b1, .int .i64 b2, .int .i64 b3, .int .i64 b4, .int .i64 b5] rfl rfl 23 #[.int .i64 0, .int .i64 0, .int .i64 0, .int .i64 0, .int .i64 0, .int .i64 0] K16.out (by kernel_rfl) rfl (by simp [Value.oneCell']) ?_
    replace K16 := Lib.hid (K16.out.row #[.int .i64 b0, .int .i64 b1, .int .i64 b2, .int .i64 b3, .int .i64 b4, .int .i64 b5])
    have hS9 := Bw.setRow hS HG16.out #[.int .i64 b0, .int .i64 b1, .int .i64 b2, .int .i64 b3, .int .i64 b4, .int .i64 b5]
    clear hS
    refine hK.out _ _ hS9 (fun hS => ?_)
    clear hK K
    clear hS9
    refine take1 (i := 25) (some 17) rfl rfl (by kernel_rfl) (by kernel_rfl) (by kernel_rfl) (fun _ _ _ _ h => h) rfl hS ?_
    apply Exists.intro
    apply And.intro
    · intro W9 hW9; skip; go_simp; try with_reducible rfl
    simp only [Act.put, List.setIfInBounds_toArray, List.set_cons_zero, List.set_cons_succ]
    refine wpAnyH_done (by kernel_rfl) ?_ _
    rotate_left
    exact AllReadyH.nil
    exact AllReadyH.nil
    exact AllReadyH.nil
    exact AllReadyH.nil
    exact AllReadyH.nil
    exact AllReadyH.nil
    exact AllReadyH.nil
    refine AllReadyH.cons rfl (fun K hK => ?_) ?_
    rw [if_pos (by rfl)]
    refine wp_alloc_agg 23 rfl (some 16) rfl #[.int .i64 0, .int .i64 0, .int .i64 0, .int .i64 0, .int .i64 0, .int .i64 0] (zeroHN _) ?_
    have K16 := Lib.hid (Blk.new wd 23 #[.int .i64 0, .int .i64 0, .int .i64 0, .int .i64 0, .int .i64 0, .int .i64 0])
    have hba := Bw.alloc (Bw.refl wd) (.cells #[.int .i64 0, .int .i64 0, .int .i64 0, .int .i64 0, .int .i64 0, .int .i64 0] 23)
    have HG16 := Lib.hid (show WZ.heap.size ≤ wd.heap.size from hS.size)
    obtain ⟨g16, hg16⟩ : ∃ g16, wd.heap.size = g16 := ⟨_, rfl⟩
    rw [hg16] at K16 HG16 ⊢
    simp only [Act.put, List.setIfInBounds_toArray, List.set_cons_zero, List.set_cons_succ]
    have hS9 := hS.trans hba
    clear hba hS hg16
    generalize World.alloc wd _ = wd at *
    refine hK.out _ _ hS9 (fun hS => ?_)
    clear hK K
    clear hS9
    refine wpAnyH_ready (rs := [6]) (by kernel_rfl) (by simp) ?_
    refine AllReadyH.cons rfl (fun K hK => ?_) ?_
    go_simp
    go_wp2_with (go_at_call 15; (with_reducible refine Calls.mono (BE.out _ _ _ ?_) ?_); exact ⟨by omega, by omega⟩; rintro e1 wd ⟨rfl, hbw⟩)
    replace K16 := Lib.hid (K16.out.bw hbw)
    refine hK.out _ _ (hS.trans hbw) (fun hS => ?_)
    clear hK K
    clear hbw
    refine wpAnyH_ready (rs := [9]) (by kernel_rfl) (by simp) ?_
    refine AllReadyH.cons rfl (fun K hK => ?_) ?_
    go_simp
    go_wp2_with (go_at_call 16; (with_reducible refine Calls.mono (NTL.out _ _ (HLV.out.mono (HW.out.trans hS))) ?_); rintro e1 wd ⟨rfl, hbw⟩)
    replace K16 := Lib.hid (K16.out.bw hbw)
    refine hK.out _ _ (hS.trans hbw) (fun hS => ?_)
    clear hK K
    clear hbw
    refine wpAnyH_ready (rs := [12]) (by kernel_rfl) (by simp) ?_
    refine AllReadyH.cons rfl (fun K hK => ?_) ?_
    go_simp
    go_wp2_with (go_at_call 15; (with_reducible refine Calls.mono (BE.out _ _ _ ?_) ?_); exact ⟨by omega, by omega⟩; rintro e1 wd ⟨rfl, hbw⟩)
    replace K16 := Lib.hid (K16.out.bw hbw)
    refine hK.out _ _ (hS.trans hbw) (fun hS => ?_)
    clear hK K
    clear hbw
    refine wpAnyH_ready (rs := [14]) (by kernel_rfl) (by simp) ?_
    refine AllReadyH.cons rfl (fun K hK => ?_) ?_
    go_simp
    go_wp2_with (go_at_call 16; (with_reducible refine Calls.mono (NTL.out _ _ (HLV.out.mono (HW.out.trans hS))) ?_); rintro e1 wd ⟨rfl, hbw⟩)
    replace K16 := Lib.hid (K16.out.bw hbw)
    refine hK.out _ _ (hS.trans hbw) (fun hS => ?_)
    clear hK K
    clear hbw
    refine wpAnyH_ready (rs := [17]) (by kernel_rfl) (by simp) ?_
    refine AllReadyH.cons rfl (fun K hK => ?_) ?_
    go_simp
    go_wp2_with (go_at_call 15; (with_reducible refine Calls.mono (BE.out _ _ _ ?_) ?_); exact ⟨by omega, by omega⟩; rintro e1 wd ⟨rfl, hbw⟩)
    replace K16 := Lib.hid (K16.out.bw hbw)
    refine hK.out _ _ (hS.trans hbw) (fun hS => ?_)
    clear hK K
    clear hbw
    refine wpAnyH_ready (rs := [19]) (by kernel_rfl) (by simp) ?_
    refine AllReadyH.cons rfl (fun K hK => ?_) ?_
    go_simp
    go_wp2_with (go_at_call 7; (with_reducible refine Calls.mono (PB.out _ (HWD.out.bw (HW.out.trans hS))) ?_); rintro e1 wd ⟨rfl, hbw⟩)
    replace K16 := Lib.hid (K16.out.bw hbw)
    refine hK.out _ _ (hS.trans hbw) (fun hS => ?_)
    clear hK K
    clear hbw
    refine take1 (i := 20) (some 58) rfl rfl (by kernel_rfl) (by kernel_rfl) (by kernel_rfl) (fun _ _ _ _ h => h) rfl hS ?_
    apply Exists.intro
    apply And.intro
    · intro W9 hW9; skip; go_simp; try with_reducible rfl
    simp only [Act.put, List.setIfInBounds_toArray, List.set_cons_zero, List.set_cons_succ]
    refine take1 (i := 21) (some 79) rfl rfl (by kernel_rfl) (by kernel_rfl) (by kernel_rfl) (fun _ _ _ _ h => h) rfl hS ?_
    apply Exists.intro
    apply And.intro
    · intro W9 hW9; skip; go_simp; try with_reducible rfl
    simp only [Act.put, List.setIfInBounds_toArray, List.set_cons_zero, List.set_cons_succ]
    refine take1 (i := 22) (some 80) rfl rfl (by kernel_rfl) (by kernel_rfl) (by kernel_rfl) (fun _ _ _ _ h => h) rfl hS ?_
    apply Exists.intro
    apply And.intro
    · intro W9 hW9; skip; go_simp; try with_reducible rfl
    simp only [Act.put, List.setIfInBounds_toArray, List.set_cons_zero, List.set_cons_succ]
    refine wpAnyH_ready (rs := [24]) (by kernel_rfl) (by simp) ?_
    refine AllReadyH.cons rfl (fun K hK => ?_) ?_
    rw [if_pos (by rfl)]
    refine wp_store_row0 23 _ _ rfl rfl g16 #[.int .i64 b0, .int .i64 b1, .int .i64 b2, .int .i64 b3, .int .i64 b4, .int .i64 b5] rfl rfl 23 #[.int .i64 0, .int .i64 0, .int .i64 0, .int .i64 0, .int .i64 0, .int .i64 0] K16.out (by kernel_rfl) rfl (by simp [Value.oneCell']) ?_
    replace K16 := Lib.hid (K16.out.row #[.int .i64 b0, .int .i64 b1, .int .i64 b2, .int .i64 b3, .int .i64 b4, .int .i64 b5])
    have hS9 := Bw.setRow hS HG16.out #[.int .i64 b0, .int .i64 b1, .int .i64 b2, .int .i64 b3, .int .i64 b4, .int .i64 b5]
    clear hS
    refine hK.out _ _ hS9 (fun hS => ?_)
    clear hK K
    clear hS9
    refine take1 (i := 25) (some 17) rfl rfl (by kernel_rfl) (by kernel_rfl) (by kernel_rfl) (fun _ _ _ _ h => h) rfl hS ?_
    apply Exists.intro
    apply And.intro
    · intro W9 hW9; skip; go_simp; try with_reducible rfl
    simp only [Act.put, List.setIfInBounds_toArray, List.set_cons_zero, List.set_cons_succ]
    refine wpAnyH_done (by kernel_rfl) ?_ _
    rotate_left
    exact AllReadyH.nil
    exact AllReadyH.nil
    exact AllReadyH.nil
    exact AllReadyH.nil
    exact AllReadyH.nil
    exact AllReadyH.nil
    exact AllReadyH.nil
    exact AllReadyH.nil
    refine AllReadyH.cons rfl (fun K hK => ?_) ?_
    rw [if_pos (by rfl)]
    refine wp_alloc_agg 23 rfl (some 16) rfl #[.int .i64 0, .int .i64 0, .int .i64 0, .int .i64 0, .int .i64 0, .int .i64 0] (zeroHN _) ?_
    have K16 := Lib.hid (Blk.new wd 23 #[.int .i64 0, .int .i64 0, .int .i64 0, .int .i64 0, .int .i64 0, .int .i64 0])
    have hba := Bw.alloc (Bw.refl wd) (.cells #[.int .i64 0, .int .i64 0, .int .i64 0, .int .i64 0, .int .i64 0, .int .i64 0] 23)
    have HG16 := Lib.hid (show WZ.heap.size ≤ wd.heap.size from hS.size)
    obtain ⟨g16, hg16⟩ : ∃ g16, wd.heap.size = g16 := ⟨_, rfl⟩
    rw [hg16] at K16 HG16 ⊢
    simp only [Act.put, List.setIfInBounds_toArray, List.set_cons_zero, List.set_cons_succ]
    have hS9 := hS.trans hba
    clear hba hS hg16
    generalize World.alloc wd _ = wd at *
    refine hK.out _ _ hS9 (fun hS => ?_)
    clear hK K
    clear hS9
    refine wpAnyH_ready (rs := [3]) (by kernel_rfl) (by simp) ?_
    refine AllReadyH.cons rfl (fun K hK => ?_) ?_
    go_simp
    go_wp2_with (go_at_call 16; (with_reducible refine Calls.mono (NTL.out _ _ (HLV.out.mono (HW.out.trans hS))) ?_); rintro e1 wd ⟨rfl, hbw⟩)
    replace K16 := Lib.hid (K16.out.bw hbw)
    refine hK.out _ _ (hS.trans hbw) (fun hS => ?_)
    clear hK K
    clear hbw
    refine wpAnyH_ready (rs := [6]) (by kernel_rfl) (by simp) ?_
    refine AllReadyH.cons rfl (fun K hK => ?_) ?_
    go_simp
    go_wp2_with (go_at_call 15; (with_reducible refine Calls.mono (BE.out _ _ _ ?_) ?_); exact ⟨by omega, by omega⟩; rintro e1 wd ⟨rfl, hbw⟩)
    replace K16 := Lib.hid (K16.out.bw hbw)
    refine hK.out _ _ (hS.trans hbw) (fun hS => ?_)
    clear hK K
    clear hbw
    refine wpAnyH_ready (rs := [9]) (by kernel_rfl) (by simp) ?_
    refine AllReadyH.cons rfl (fun K hK => ?_) ?_
    go_simp
    go_wp2_with (go_at_call 16; (with_reducible refine Calls.mono (NTL.out _ _ (HLV.out.mono (HW.out.trans hS))) ?_); rintro e1 wd ⟨rfl, hbw⟩)
    replace K16 := Lib.hid (K16.out.bw hbw)
    refine hK.out _ _ (hS.trans hbw) (fun hS => ?_)
    clear hK K
    clear hbw
    refine wpAnyH_ready (rs := [12]) (by kernel_rfl) (by simp) ?_
    refine AllReadyH.cons rfl (fun K hK => ?_) ?_
    go_simp
    go_wp2_with (go_at_call 15; (with_reducible refine Calls.mono (BE.out _ _ _ ?_) ?_); exact ⟨by omega, by omega⟩; rintro e1 wd ⟨rfl, hbw⟩)
    replace K16 := Lib.hid (K16.out.bw hbw)
    refine hK.out _ _ (hS.trans hbw) (fun hS => ?_)
    clear hK K
    clear hbw
    refine wpAnyH_ready (rs := [14]) (by kernel_rfl) (by simp) ?_
    refine AllReadyH.cons rfl (fun K hK => ?_) ?_
    go_simp
    go_wp2_with (go_at_call 16; (with_reducible refine Calls.mono (NTL.out _ _ (HLV.out.mono (HW.out.trans hS))) ?_); rintro e1 wd ⟨rfl, hbw⟩)
    replace K16 := Lib.hid (K16.out.bw hbw)
    refine hK.out _ _ (hS.trans hbw) (fun hS => ?_)
    clear hK K
    clear hbw
    refine wpAnyH_ready (rs := [17]) (by kernel_rfl) (by simp) ?_
    refine AllReadyH.cons rfl (fun K hK => ?_) ?_
    go_simp
    go_wp2_with (go_at_call 15; (with_reducible refine Calls.mono (BE.out _ _ _ ?_) ?_); exact ⟨by omega, by omega⟩; rintro e1 wd ⟨rfl, hbw⟩)
    replace K16 := Lib.hid (K16.out.bw hbw)
    refine hK.out _ _ (hS.trans hbw) (fun hS => ?_)
    clear hK K
    clear hbw
    refine wpAnyH_ready (rs := [19]) (by kernel_rfl) (by simp) ?_
    refine AllReadyH.cons rfl (fun K hK => ?_) ?_
    go_simp
    go_wp2_with (go_at_call 7; (with_reducible refine Calls.mono (PB.out _ (HWD.out.bw (HW.out.trans hS))) ?_); rintro e1 wd ⟨rfl, hbw⟩)
    replace K16 := Lib.hid (K16.out.bw hbw)
    refine hK.out _ _ (hS.trans hbw) (fun hS => ?_)
    clear hK K
    clear hbw
    refine take1 (i := 20) (some 58) rfl rfl (by kernel_rfl) (by kernel_rfl) (by kernel_rfl) (fun _ _ _ _ h => h) rfl hS ?_
    apply Exists.intro
    apply And.intro
    · intro W9 hW9; skip; go_simp; try with_reducible rfl
    simp only [Act.put, List.setIfInBounds_toArray, List.set_cons_zero, List.set_cons_succ]
    refine take1 (i := 21) (some 79) rfl rfl (by kernel_rfl) (by kernel_rfl) (by kernel_rfl) (fun _ _ _ _ h => h) rfl hS ?_
    apply Exists.intro
    apply And.intro
    · intro W9 hW9; skip; go_simp; try with_reducible rfl
    simp only [Act.put, List.setIfInBounds_toArray, List.set_cons_zero, List.set_cons_succ]
    refine take1 (i := 22) (some 80) rfl rfl (by kernel_rfl) (by kernel_rfl) (by kernel_rfl) (fun _ _ _ _ h => h) rfl hS ?_
    apply Exists.intro
    apply And.intro
    · intro W9 hW9; skip; go_simp; try with_reducible rfl
    simp only [Act.put, List.setIfInBounds_toArray, List.set_cons_zero, List.set_cons_succ]
    refine wpAnyH_ready (rs := [24]) (by kernel_rfl) (by simp) ?_
    refine AllReadyH.cons rfl (fun K hK => ?_) ?_
    rw [if_pos (by rfl)]
    refine wp_store_row0 23 _ _ rfl rfl g16 #[.int .i64 b0, .int .i64 b1, .int .i64 b2, .int .i64 b3, .int .i64 b4, .int .i64 b5] rfl rfl 23 #[.int .i64 0, .int .i64 0, .int .i64 0, .int .i64 0, .int .i64 0, .int .i64 0] K16.out (by kernel_rfl) rfl (by simp [Value.oneCell']) ?_
    replace K16 := Lib.hid (K16.out.row #[.int .i64 b0, .int .i64 b1, .int .i64 b2, .int .i64 b3, .int .i64 b4, .int .i64 b5])
    have hS9 := Bw.setRow hS HG16.out #[.int .i64 b0, .int .i64 b1, .int .i64 b2, .int .i64 b3, .int .i64 b4, .int .i64 b5]
    clear hS
    refine hK.out _ _ hS9 (fun hS => ?_)
    clear hK K
    clear hS9
    refine take1 (i := 25) (some 17) rfl rfl (by kernel_rfl) (by kernel_rfl) (by kernel_rfl) (fun _ _ _ _ h => h) rfl hS ?_
    apply Exists.intro
    apply And.intro
    · intro W9 hW9; skip; go_simp; try with_reducible rfl
    simp only [Act.put, List.setIfInBounds_toArray, List.set_cons_zero, List.set_cons_succ]
    refine wpAnyH_done (by kernel_rfl) ?_ _
    rotate_left
    exact AllReadyH.nil
    exact AllReadyH.nil
    exact AllReadyH.nil
    exact AllReadyH.nil
    exact AllReadyH.nil
    exact AllReadyH.nil
    exact AllReadyH.nil
    exact AllReadyH.nil
    exact AllReadyH.nil
    all_goals
      go_wp2
      go_meet
      exact ⟨g16, rfl, rfl, Lib.hid hS, K16⟩
  case rest =>
    obtain ⟨g16, rfl, rfl, hb9, K16⟩ := hcut
    replace HW := Lib.hid (HW.out.trans hb9.out)
    replace K14 := Lib.hid (K14.out.bw hb9.out)
    have e1 := K14.out.cell (show (#[.int .i64 a0, .int .i64 a1, .int .i64 a2, .int .i64 a3, .int .i64 a4, .int .i64 a5] : Array Value)[1]? = some (.int .i64 a1) from rfl)
    have e2 := K14.out.cell (show (#[.int .i64 a0, .int .i64 a1, .int .i64 a2, .int .i64 a3, .int .i64 a4, .int .i64 a5] : Array Value)[2]? = some (.int .i64 a2) from rfl)
    have e3 := K14.out.cell (show (#[.int .i64 a0, .int .i64 a1, .int .i64 a2, .int .i64 a3, .int .i64 a4, .int .i64 a5] : Array Value)[3]? = some (.int .i64 a3) from rfl)
    have e5 := K14.out.cell (show (#[.int .i64 a0, .int .i64 a1, .int .i64 a2, .int .i64 a3, .int .i64 a4, .int .i64 a5] : Array Value)[5]? = some (.int .i64 a5) from rfl)
    have f1 := K16.out.cell (show (#[.int .i64 b0, .int .i64 b1, .int .i64 b2, .int .i64 b3, .int .i64 b4, .int .i64 b5] : Array Value)[1]? = some (.int .i64 b1) from rfl)
    have f2 := K16.out.cell (show (#[.int .i64 b0, .int .i64 b1, .int .i64 b2, .int .i64 b3, .int .i64 b4, .int .i64 b5] : Array Value)[2]? = some (.int .i64 b2) from rfl)
    have f3 := K16.out.cell (show (#[.int .i64 b0, .int .i64 b1, .int .i64 b2, .int .i64 b3, .int .i64 b4, .int .i64 b5] : Array Value)[3]? = some (.int .i64 b3) from rfl)
    have f5 := K16.out.cell (show (#[.int .i64 b0, .int .i64 b1, .int .i64 b2, .int .i64 b3, .int .i64 b4, .int .i64 b5] : Array Value)[5]? = some (.int .i64 b5) from rfl)
    clear hwr hwl hwc hwm et e0 er el ec em er' el' ec'
    by_cases hz : a1 = 0
    · have hzb : (a1 == 0) = true := by simpa using hz
      clear n1
      go_wp2_with (go_at_call 14; (with_reducible refine Calls.mono (AW.out _ (HWD.out.bw HW.out)) ?_); rintro e1 w1 ⟨rfl, hb1⟩)
      go_ret
      exact ⟨rfl, by rw [HE1.out]; exact HW.out.trans hb1⟩
    · have hzb : (a1 == 0) = false := by simpa using hz
      obtain rfl : a1 = b1 := by rcases n1 with h | h; exact absurd h hz; exact h
      go_wp2_with (go_at_call 14; (with_reducible refine Calls.mono (AW.out _ (HWD.out.bw HW.out)) ?_); rintro e1 w1 ⟨rfl, hb1⟩)
      go_ret
      exact ⟨rfl, by rw [HE1.out]; exact HW.out.trans hb1⟩
end Go.Proofs.Sky
