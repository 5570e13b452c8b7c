/-
  lemmas for the theorems of this claim. No conditions beyond those written in the statements.
-/
import Derived.Test.YtpmopobjlpfdaaaDoorK40
import Derived.Test.YtpmopobjlpfdaaaDoorTQ40
set_option linter.unusedVariables false
set_option linter.unusedSimpArgs false
set_option linter.unnecessarySimpa false
namespace Go.Proofs.Sky
open Go Go.RowKit Go.Shelf
attribute [local go_sem] Oper.semAt_some
set_option maxHeartbeats 4000000
set_option maxRecDepth 8000
/-! chapter 40: WarmTrue -/
theorem zeroPT (w : World) : (zeroValue 32).run Tryd.prog w = .ok (.agg #[.int .i64 0, .int .i64 0, .int .i64 0]) w := by kernel_rfl
def mixA (a b : List Int) (k : Nat) : Array Value := #[.int .i64 (if 0 < k then b.getD 0 0 else a.getD 0 0), .int .i64 (if 1 < k then b.getD 1 0 else a.getD 1 0), .int .i64 (if 2 < k then b.getD 2 0 else a.getD 2 0)]
theorem mixA_at (a b : List Int) (k : Nat) (hk : k < 3) : (mixA a b k)[k]? = some (.int .i64 (a.getD k 0)) := by
  match k, hk with
  | 0, _ => rfl
  | 1, _ => rfl
  | 2, _ => rfl
theorem mixA_set (a b : List Int) (k : Nat) (hk : k < 3) : (mixA a b k).setIfInBounds k (.int .i64 (b.getD k 0)) = mixA a b (k + 1) := by
  match k, hk with
  | 0, _ => rfl
  | 1, _ => rfl
  | 2, _ => rfl
theorem law_true40 (zs qs ls : List Int) (v0 v1 v2 : Value) (w : World) (h0 : RdI w v0 zs) (h1 : RdI w v1 qs) (h2 : RdI w v2 ls) (hw : WdAt w) : Calls Tryd.prog 5 #[v0, v1, v2] w fun e w' => e = .returned (.bool true) ∧ Bw w w' := by
  have HWD := Lib.hid hw
  have HZV := Lib.hid h0
  have HV := Lib.hid h1
  have HLV := Lib.hid h2
  have AW := Lib.hid (fun W h => awake40_any W h)
  have NT := Lib.hid (fun i W h => Nth_any qs v1 i W h)
  have NTL := Lib.hid (fun i W h => Nth_any ls v2 i W h)
  have BE := Lib.hid (fun n k W (h : 1 ≤ k ∧ k ≤ 4611686018427387904) => Below_any n k W h.1 h.2)
  have SG := Lib.hid (fun n k W (h : 0 ≤ k ∧ k ≤ 1000000000) => signed40_any n k h W)
  clear h0 h1 h2 hw
  have bt := bel_bd (nth qs 0) 604800 (by decide)
  have b0 := sgW_bd (nth qs 1) 10000000 (by decide)
  have b1 := sgW_bd (nth qs 2) 10000000 (by decide)
  have b2 := sgW_bd (nth qs 3) 10000000 (by decide)
  have br := bel_bd (nth qs 4) 3000001 (by decide)
  have bl := bel_bd (nth qs 5) 601 (by decide)
  have bc := bel_bd (nth qs 6) 1000001 (by decide)
  have bm := bel_bd (nth qs 7) 8192 (by decide)
  have PG := Lib.hid (fun W h => page40_any zs v0 (bel (nth qs 0) 604800) (by omega) W h)
  obtain ⟨t, et⟩ : ∃ t, bel (nth qs 0) 604800 = t := ⟨_, rfl⟩
  obtain ⟨u0, e0⟩ : ∃ t, sgW (nth qs 1) 10000000 = t := ⟨_, rfl⟩
  obtain ⟨u1, e1⟩ : ∃ t, sgW (nth qs 2) 10000000 = t := ⟨_, rfl⟩
  obtain ⟨u2, e2⟩ : ∃ t, sgW (nth qs 3) 10000000 = t := ⟨_, rfl⟩
  obtain ⟨r, er⟩ : ∃ t, bel (nth qs 4) 3000001 = t := ⟨_, rfl⟩
  obtain ⟨l, el⟩ : ∃ t, bel (nth qs 5) 601 = t := ⟨_, rfl⟩
  obtain ⟨c, ec⟩ : ∃ t, bel (nth qs 6) 1000001 = t := ⟨_, rfl⟩
  obtain ⟨m, em⟩ : ∃ t, 1 + bel (nth qs 7) 8192 = t := ⟨_, rfl⟩
  rw [et] at bt PG
  rw [e0] at b0
  rw [e1] at b1
  rw [e2] at b2
  rw [er] at br
  rw [el] at bl
  rw [ec] at bc
  have hm : 1 ≤ m ∧ m ≤ 8192 := by omega
  have hwm : IntKind.i64.wrap (1 + bel (nth qs 7) 8192) = m := by rw [IntKind.wrap_i64]; omega
  obtain ⟨q, hq0, hq1, hq2⟩ := root_ex (sK40 (pr3 (X0p (pg4 zs t) u0 u1 u2 r t l c m)) 3) (sK_bd (mid3 (mid2 (er_ok (q_ok zs u0 u1 u2 r t l c m (by omega) (by omega) (by omega) (by omega) (by omega) (by omega) (by omega) hm)).2.1 (er_ok (q_ok zs u0 u1 u2 r t l c m (by omega) (by omega) (by omega) (by omega) (by omega) (by omega) (by omega) hm)).2.2.1 (er_ok (q_ok zs u0 u1 u2 r t l c m (by omega) (by omega) (by omega) (by omega) (by omega) (by omega) (by omega) hm)).2.2.2)) 3 (by omega)).1
  have hok := q_ok zs u0 u1 u2 r t l c m (by omega) (by omega) (by omega) (by omega) (by omega) (by omega) (by omega) hm
  have hu : ∀ k, k < 3 → -4000000000000000000 ≤ [u0, u1, u2].getD k 0 ∧ [u0, u1, u2].getD k 0 ≤ 4000000000000000000 := fun k hk => by
    match k, hk with
    | 0, _ => exact (show -4000000000000000000 ≤ u0 ∧ u0 ≤ 4000000000000000000 by omega)
    | 1, _ => exact (show -4000000000000000000 ≤ u1 ∧ u1 ≤ 4000000000000000000 by omega)
    | 2, _ => exact (show -4000000000000000000 ≤ u2 ∧ u2 ≤ 4000000000000000000 by omega)
  have PA := Lib.hid (fun W h => Predict_ok (pg4 zs t) u0 u1 u2 r t l c m q W h hok hu hq0 hq1 hq2)
  have be := sgW_bd (nth ls 0) l (by omega)
  obtain ⟨e, ee⟩ : ∃ x, sgW (nth ls 0) l = x := ⟨_, rfl⟩
  rw [ee] at be
  obtain ⟨tf0, tf1, tf2, tf3, tf4, tf5⟩ := true_facts zs u0 u1 u2 r t l c m q e (by omega) (by omega) b0 b1 b2 (by omega) be hok hq0 hq1 hq2
  have AT := Lib.hid (fun W h => AlAt_any (pg4 zs t) (bel (t + e) 604800) W h)
  have ER := Lib.hid (fun W h => AlError_any (pg4 zs t) (bel (t + e) 604800) W h)
  unfold t3V at AT
  rw [tf1] at AT ER
  have LGF := Lib.hid (fun len c' h1 h2 h3 => lag_facts (X0p (pg4 zs t) u0 u1 u2 r t l c m) q len c' hm.1 h1 h2 h3)
  rw [show (X0p (pg4 zs t) u0 u1 u2 r t l c m) 20 = m from rfl, show (X0p (pg4 zs t) u0 u1 u2 r t l c m) 19 = c from rfl] at LGF
  obtain ⟨wh, ewh⟩ : ∃ x, bel (t + e) 604800 = x := ⟨_, rfl⟩
  rw [ewh] at tf0 tf2 tf3 tf5 AT ER
  obtain ⟨by9, eby⟩ : ∃ x, bdP (pg4 zs t) wh = x := ⟨_, rfl⟩
  rw [eby] at tf2 tf5 ER
  have s0b := tf3 0 (by omega)
  have s1b := tf3 1 (by omega)
  have s2b := tf3 2 (by omega)
  obtain ⟨s0, es0⟩ : ∃ x, atP (pg4 zs t) wh 0 = x := ⟨_, rfl⟩
  obtain ⟨s1, es1⟩ : ∃ x, atP (pg4 zs t) wh 1 = x := ⟨_, rfl⟩
  obtain ⟨s2, es2⟩ : ∃ x, atP (pg4 zs t) wh 2 = x := ⟨_, rfl⟩
  rw [es0, es1, es2] at tf5 AT
  rw [es0] at s0b
  rw [es1] at s1b
  rw [es2] at s2b
  have hT0 : 0 ≤ r * 4 / 7 ∧ r * 4 / 7 ≤ 2000000 := by omega
  have hTd : (r * 4).tdiv 7 = r * 4 / 7 := Int.tdiv_eq_ediv_of_nonneg (by omega)
  obtain ⟨T, eT⟩ : ∃ x, r * 4 / 7 = x := ⟨_, rfl⟩
  rw [eT] at tf5 hT0 hTd
  have bn0 := sgW_bd (nth ls 1) by9 tf2.1
  have bn1 := sgW_bd (nth ls 2) by9 tf2.1
  have bn2 := sgW_bd (nth ls 3) by9 tf2.1
  have bm0 := sgW_bd (nth ls 4) T hT0.1
  have bm1 := sgW_bd (nth ls 5) T hT0.1
  have bm2 := sgW_bd (nth ls 6) T hT0.1
  have bc7 := sgW_bd (nth ls 7) c (by omega)
  obtain ⟨f1, f2, f3, f4⟩ := tf5 _ _ _ _ _ _ bn0 bn1 bn2 bm0 bm1 bm2
  clear tf5 tf3 es0 es1 es2 tf1
  have hwb0 := show IntKind.i64.wrap (u0 + sgW (nth ls 4) T) = u0 + sgW (nth ls 4) T by rw [IntKind.wrap_i64]; omega
  have hwb1 := show IntKind.i64.wrap (u1 + sgW (nth ls 5) T) = u1 + sgW (nth ls 5) T by rw [IntKind.wrap_i64]; omega
  have hwb2 := show IntKind.i64.wrap (u2 + sgW (nth ls 6) T) = u2 + sgW (nth ls 6) T by rw [IntKind.wrap_i64]; omega
  have hv0b : -13000000 ≤ u0 + sgW (nth ls 4) T ∧ u0 + sgW (nth ls 4) T ≤ 13000000 := by omega
  have hv1b : -13000000 ≤ u1 + sgW (nth ls 5) T ∧ u1 + sgW (nth ls 5) T ≤ 13000000 := by omega
  have hv2b : -13000000 ≤ u2 + sgW (nth ls 6) T ∧ u2 + sgW (nth ls 6) T ≤ 13000000 := by omega
  obtain ⟨v0x, ev0⟩ : ∃ x, u0 + sgW (nth ls 4) T = x := ⟨_, rfl⟩
  obtain ⟨v1x, ev1⟩ : ∃ x, u1 + sgW (nth ls 5) T = x := ⟨_, rfl⟩
  obtain ⟨v2x, ev2⟩ : ∃ x, u2 + sgW (nth ls 6) T = x := ⟨_, rfl⟩
  rw [ev0] at hwb0 hv0b
  rw [ev1] at hwb1 hv1b
  rw [ev2] at hwb2 hv2b
  rw [ev0, ev1, ev2] at f1 f2 f3 f4
  have hyb0 : -1010000000 ≤ s0 + sgW (nth ls 1) by9 ∧ s0 + sgW (nth ls 1) by9 ≤ 1010000000 := by omega
  have hyb1 : -1010000000 ≤ s1 + sgW (nth ls 2) by9 ∧ s1 + sgW (nth ls 2) by9 ≤ 1010000000 := by omega
  have hyb2 : -1010000000 ≤ s2 + sgW (nth ls 3) by9 ∧ s2 + sgW (nth ls 3) by9 ≤ 1010000000 := by omega
  have HY := Lib.hid (show ∀ i : Nat, i < 3 → [s0, s1, s2].getD i 0 + sgW (nth ls (1 + (i : Int))) by9 = [s0 + sgW (nth ls 1) by9, s1 + sgW (nth ls 2) by9, s2 + sgW (nth ls 3) by9].getD i 0 from fun i hi => by match i, hi with | 0, _ | 1, _ | 2, _ => rfl)
  have HYB := Lib.hid (show ∀ i : Nat, i < 3 → -1010000000 ≤ [s0 + sgW (nth ls 1) by9, s1 + sgW (nth ls 2) by9, s2 + sgW (nth ls 3) by9].getD i 0 ∧ [s0 + sgW (nth ls 1) by9, s1 + sgW (nth ls 2) by9, s2 + sgW (nth ls 3) by9].getD i 0 ≤ 1010000000 from fun i hi => by match i, hi with | 0, _ => exact hyb0 | 1, _ => exact hyb1 | 2, _ => exact hyb2)
  generalize s0 + sgW (nth ls 1) by9 = y0 at *
  generalize s1 + sgW (nth ls 2) by9 = y1 at *
  generalize s2 + sgW (nth ls 3) by9 = y2 at *
  generalize hx0 : y0 - v0x = x0 at *
  generalize hx1 : y1 - v1x = x1 at *
  generalize hx2 : y2 - v2x = x2 at *
  unfold hV at PA
  generalize pr4 (X0p (pg4 zs t) u0 u1 u2 r t l c m) q = XA at *
  generalize XA 26 = a0 at *
  generalize XA 27 = a1 at *
  generalize XA 28 = a2 at *
  generalize XA 29 = a3 at *
  generalize XA 30 = a4 at *
  generalize XA 31 = a5 at *
  clear hok hq0 hq1 hq2 hu bn0 bn1 bn2 bm0 bm1 bm2
  have HSZA : Hid ((Tryd.prog.info? 29).map (·.size) = some (pgV (pg4 zs t)).size) := Lib.hid (by kernel_rfl)
  have HPXA : Hid ((pgV (pg4 zs t)).all (·.oneCell') = true) := Lib.hid (by simp [Value.oneCell', pgV])
  have HN13 : Hid ((#[.int .i64 0, .int .i64 0, .int .i64 0, .int .i64 0, .int .i64 0, .int .i64 0, .int .i64 0, .int .i64 0, .int .i64 0, .int .i64 0, .int .i64 0, .int .i64 0, .int .i64 0] : Array Value).size = (pgV (pg4 zs t)).size) := Lib.hid rfl
  obtain ⟨A, hA⟩ : ∃ A, A = pgV (pg4 zs t) := ⟨_, rfl⟩
  rw [← hA] at PG PA AT ER HSZA HPXA HN13
  clear hA
  have HZ13 := Lib.hid (fun (W : World) => Blk.new W 29 #[.int .i64 0, .int .i64 0, .int .i64 0, .int .i64 0, .int .i64 0, .int .i64 0, .int .i64 0, .int .i64 0, .int .i64 0, .int .i64 0, .int .i64 0, .int .i64 0, .int .i64 0])
  have HZ3 := Lib.hid (fun (W : World) => Blk.new W 32 #[.int .i64 0, .int .i64 0, .int .i64 0])
  have HZI := Lib.hid (fun (W : World) => Blk.new W 27 #[.int .i64 0, .int .i64 0, .int .i64 0])
  have HZ6 := Lib.hid (fun (W : World) => Blk.new W 23 #[.int .i64 0, .int .i64 0, .int .i64 0, .int .i64 0, .int .i64 0, .int .i64 0])
  have hwe : IntKind.i64.wrap (t + e) = t + e := by rw [IntKind.wrap_i64]; omega
  have hw4 : IntKind.i64.wrap (r * 4) = r * 4 := by rw [IntKind.wrap_i64]; omega
  obtain ⟨w1, hw1e⟩ : ∃ w1, w1 = w := ⟨_, rfl⟩
  have HE1 := Lib.hid hw1e
  have HW := Lib.hid (show Bw w w1 by rw [hw1e]; exact Bw.refl w)
  have FF := Lib.hid (And.intro f1 (And.intro f2 (And.intro f3 f4)))
  have HXX := Lib.hid (And.intro hx0 (And.intro hx1 hx2))
  have HV012 := Lib.hid (And.intro ev0 (And.intro ev1 ev2))
  clear f1 f2 f3 f4 hx0 hx1 hx2
  go_enter Tryd.func5, Tryd.ntmps5
  (try rw [← HE1.out])
  clear hw1e
  go_upto_region 4 with (first | (go_at_call 16; (with_reducible refine Calls.mono (NT.out _ _ (HV.out.mono HW.out)) ?_); rintro e1 w1 ⟨rfl, hb1⟩; replace HW := Lib.hid (HW.out.trans hb1); clear hb1) | (go_at_call 15; (with_reducible refine Calls.mono (BE.out _ _ _ ?_) ?_); exact ⟨by omega, by omega⟩; rintro e1 w1 ⟨rfl, hb1⟩; replace HW := Lib.hid (HW.out.trans hb1); clear hb1) | (go_at_call 18; (with_reducible refine Calls.mono (SG.out _ _ _ ?_) ?_); exact ⟨by omega, by omega⟩; rintro e1 w1 ⟨rfl, hb1⟩; replace HW := Lib.hid (HW.out.trans hb1); clear hb1) | (go_at_call 17; (with_reducible refine Calls.mono (PG.out _ (HZV.out.mono HW.out)) ?_); rintro e1 w1 ⟨rfl, hb1⟩; replace HW := Lib.hid (HW.out.trans hb1); clear hb1) | ((with_reducible refine at_store 29 (.tmp 9) (.tmp 41) ?_); refine wpList_store_row rfl 29 (.tmp 9) (.tmp 41) rfl w1.heap.size A rfl rfl 29 #[.int .i64 0, .int .i64 0, .int .i64 0, .int .i64 0, .int .i64 0, .int .i64 0, .int .i64 0, .int .i64 0, .int .i64 0, .int .i64 0, .int .i64 0, .int .i64 0, .int .i64 0] (HZ13.out w1) HSZA.out HN13.out HPXA.out ?_))
  obtain ⟨g9, hg9⟩ : ∃ g9, w1.heap.size = g9 := ⟨_, rfl⟩
  have hb2 := Bw.setRow (Bw.alloc (Bw.refl w1) (.cells #[.int .i64 0, .int .i64 0, .int .i64 0, .int .i64 0, .int .i64 0, .int .i64 0, .int .i64 0, .int .i64 0, .int .i64 0, .int .i64 0, .int .i64 0, .int .i64 0, .int .i64 0] 29)) (Nat.le_of_eq hg9) A
  have K9 := Lib.hid ((HZ13.out w1).row A)
  have HG9 := Lib.hid (show w.heap.size ≤ g9 by have := HW.out.size; omega)
  rw [hg9] at K9 ⊢
  replace HW := Lib.hid (HW.out.trans hb2)
  generalize World.setRow (World.alloc w1 _) _ _ = w1 at *
  clear hb2 hg9
  (try simp only [Act.put])
  go_upto_region 5 with (first | (go_at_call 16; (with_reducible refine Calls.mono (NT.out _ _ (HV.out.mono HW.out)) ?_); rintro e1 w1 ⟨rfl, hb1⟩; replace K9 := Lib.hid (K9.out.bw hb1); replace HW := Lib.hid (HW.out.trans hb1); clear hb1) | (go_at_call 15; (with_reducible refine Calls.mono (BE.out _ _ _ ?_) ?_); exact ⟨by omega, by omega⟩; rintro e1 w1 ⟨rfl, hb1⟩; replace K9 := Lib.hid (K9.out.bw hb1); replace HW := Lib.hid (HW.out.trans hb1); clear hb1) | (go_at_call 18; (with_reducible refine Calls.mono (SG.out _ _ _ ?_) ?_); exact ⟨by omega, by omega⟩; rintro e1 w1 ⟨rfl, hb1⟩; replace K9 := Lib.hid (K9.out.bw hb1); replace HW := Lib.hid (HW.out.trans hb1); clear hb1) | ((with_reducible refine at_store 32 (.tmp 10) (.tmp 51) ?_); refine wpList_store_row rfl 32 (.tmp 10) (.tmp 51) rfl w1.heap.size #[.int .i64 u0, .int .i64 u1, .int .i64 u2] rfl rfl 32 #[.int .i64 0, .int .i64 0, .int .i64 0] (HZ3.out w1) (by kernel_rfl) rfl (by simp [Value.oneCell']) ?_))
  obtain ⟨g10, hg10⟩ : ∃ g10, w1.heap.size = g10 := ⟨_, rfl⟩
  have hb2 := Bw.setRow (Bw.alloc (Bw.refl w1) (.cells #[.int .i64 0, .int .i64 0, .int .i64 0] 32)) (Nat.le_of_eq hg10) #[.int .i64 u0, .int .i64 u1, .int .i64 u2]
  have K10 := Lib.hid ((HZ3.out w1).row #[.int .i64 u0, .int .i64 u1, .int .i64 u2])
  have HG10 := Lib.hid (show w.heap.size ≤ g10 by have := HW.out.size; omega)
  rw [hg10] at K10 ⊢
  replace HW := Lib.hid (HW.out.trans hb2)
  replace K9 := Lib.hid (K9.out.bw hb2)
  generalize World.setRow (World.alloc w1 _) _ _ = w1 at *
  clear hb2 hg10
  (try simp only [Act.put])
  go_upto_region 6 with (first | (go_at_call 16; (with_reducible refine Calls.mono (NT.out _ _ (HV.out.mono HW.out)) ?_); rintro e1 w1 ⟨rfl, hb1⟩; replace K9 := Lib.hid (K9.out.bw hb1); replace K10 := Lib.hid (K10.out.bw hb1); replace HW := Lib.hid (HW.out.trans hb1); clear hb1) | (go_at_call 15; (with_reducible refine Calls.mono (BE.out _ _ _ ?_) ?_); exact ⟨by omega, by omega⟩; rintro e1 w1 ⟨rfl, hb1⟩; replace K9 := Lib.hid (K9.out.bw hb1); replace K10 := Lib.hid (K10.out.bw hb1); replace HW := Lib.hid (HW.out.trans hb1); clear hb1) | (go_at_call 18; (with_reducible refine Calls.mono (SG.out _ _ _ ?_) ?_); exact ⟨by omega, by omega⟩; rintro e1 w1 ⟨rfl, hb1⟩; replace K9 := Lib.hid (K9.out.bw hb1); replace K10 := Lib.hid (K10.out.bw hb1); replace HW := Lib.hid (HW.out.trans hb1); clear hb1))
  go_upto_region 7 with (first | ((with_reducible refine at_load 29 (.tmp 9) ?_); refine wpList_load_row rfl 29 _ rfl g9 rfl 29 A (0, 0) _ K9.out Tryd.underlying29 rfl HSZA.out ?_) | ((with_reducible refine at_load 32 (.tmp 10) ?_); refine wpList_load_row rfl 32 _ rfl g10 rfl 32 #[.int .i64 u0, .int .i64 u1, .int .i64 u2] (0, 0) _ K10.out Tryd.underlying32 rfl (by kernel_rfl) ?_) | (go_at_call 7; (with_reducible refine Calls.mono (PA.out _ (HWD.out.bw HW.out)) ?_); rintro e1 w1 ⟨rfl, hb1⟩; replace K9 := Lib.hid (K9.out.bw hb1); replace K10 := Lib.hid (K10.out.bw hb1); replace HW := Lib.hid (HW.out.trans hb1); clear hb1) | ((with_reducible refine at_store 23 (.tmp 15) (.tmp 74) ?_); refine wpList_store_row rfl 23 (.tmp 15) (.tmp 74) rfl w1.heap.size #[.int .i64 a0, .int .i64 a1, .int .i64 a2, .int .i64 a3, .int .i64 a4, .int .i64 a5] rfl rfl 23 #[.int .i64 0, .int .i64 0, .int .i64 0, .int .i64 0, .int .i64 0, .int .i64 0] (HZ6.out w1) (by kernel_rfl) rfl (by simp [Value.oneCell']) ?_))
  obtain ⟨g15, hg15⟩ : ∃ g15, w1.heap.size = g15 := ⟨_, rfl⟩
  have hb2 := Bw.setRow (Bw.alloc (Bw.refl w1) (.cells #[.int .i64 0, .int .i64 0, .int .i64 0, .int .i64 0, .int .i64 0, .int .i64 0] 23)) (Nat.le_of_eq hg15) #[.int .i64 a0, .int .i64 a1, .int .i64 a2, .int .i64 a3, .int .i64 a4, .int .i64 a5]
  have K15 := Lib.hid ((HZ6.out w1).row #[.int .i64 a0, .int .i64 a1, .int .i64 a2, .int .i64 a3, .int .i64 a4, .int .i64 a5])
  have HG15 := Lib.hid (show w.heap.size ≤ g15 by have := HW.out.size; omega)
  rw [hg15] at K15 ⊢
  replace HW := Lib.hid (HW.out.trans hb2)
  replace K9 := Lib.hid (K9.out.bw hb2)
  replace K10 := Lib.hid (K10.out.bw hb2)
  generalize World.setRow (World.alloc w1 _) _ _ = w1 at *
  clear hb2 hg15
  (try simp only [Act.put])
  clear PA et e0 e1 e2 er el ec em hwm
  have d2 := K15.out.cell (show (#[.int .i64 a0, .int .i64 a1, .int .i64 a2, .int .i64 a3, .int .i64 a4, .int .i64 a5] : Array Value)[2]? = some (.int .i64 a2) from rfl)
  have d3 := K15.out.cell (show (#[.int .i64 a0, .int .i64 a1, .int .i64 a2, .int .i64 a3, .int .i64 a4, .int .i64 a5] : Array Value)[3]? = some (.int .i64 a3) from rfl)
  go_upto_region 10 with (first | (go_at_call 16; (with_reducible refine Calls.mono (NTL.out _ _ (HLV.out.mono HW.out)) ?_); rintro e1 w1 ⟨rfl, hb1⟩; replace K9 := Lib.hid (K9.out.bw hb1); replace K10 := Lib.hid (K10.out.bw hb1); replace K15 := Lib.hid (K15.out.bw hb1); replace HW := Lib.hid (HW.out.trans hb1); clear hb1) | (go_at_call 15; (with_reducible refine Calls.mono (BE.out _ _ _ ?_) ?_); exact ⟨by omega, by omega⟩; rintro e1 w1 ⟨rfl, hb1⟩; replace K9 := Lib.hid (K9.out.bw hb1); replace K10 := Lib.hid (K10.out.bw hb1); replace K15 := Lib.hid (K15.out.bw hb1); replace HW := Lib.hid (HW.out.trans hb1); clear hb1) | (go_at_call 18; (with_reducible refine Calls.mono (SG.out _ _ _ ?_) ?_); exact ⟨by omega, by omega⟩; rintro e1 w1 ⟨rfl, hb1⟩; replace K9 := Lib.hid (K9.out.bw hb1); replace K10 := Lib.hid (K10.out.bw hb1); replace K15 := Lib.hid (K15.out.bw hb1); replace HW := Lib.hid (HW.out.trans hb1); clear hb1))
  clear d2 d3
  go_upto_region 11 with (first | ((with_reducible refine at_load 29 (.tmp 9) ?_); refine wpList_load_row rfl 29 _ rfl g9 rfl 29 A (0, 0) _ K9.out Tryd.underlying29 rfl HSZA.out ?_) | (go_at_call 19; (with_reducible refine Calls.mono (AT.out _ (HWD.out.bw HW.out)) ?_); rintro e1 w1 ⟨rfl, hb1⟩; replace K9 := Lib.hid (K9.out.bw hb1); replace K10 := Lib.hid (K10.out.bw hb1); replace K15 := Lib.hid (K15.out.bw hb1); replace HW := Lib.hid (HW.out.trans hb1); clear hb1) | ((with_reducible refine at_store 27 (.tmp 18) (.tmp 106) ?_); refine wpList_store_row rfl 27 (.tmp 18) (.tmp 106) rfl w1.heap.size #[.int .i64 s0, .int .i64 s1, .int .i64 s2] rfl rfl 27 #[.int .i64 0, .int .i64 0, .int .i64 0] (HZI.out w1) (by kernel_rfl) rfl (by simp [Value.oneCell']) ?_))
  obtain ⟨g18, hg18⟩ : ∃ g18, w1.heap.size = g18 := ⟨_, rfl⟩
  have HN10 := Lib.hid (show g10 ≠ g18 by have := K10.out.lt; omega)
  have HN15 := Lib.hid (show g15 ≠ g18 by have := K15.out.lt; omega)
  have hb2 := Bw.setRow (Bw.alloc (Bw.refl w1) (.cells #[.int .i64 0, .int .i64 0, .int .i64 0] 27)) (Nat.le_of_eq hg18) #[.int .i64 s0, .int .i64 s1, .int .i64 s2]
  have K18 := Lib.hid ((HZI.out w1).row #[.int .i64 s0, .int .i64 s1, .int .i64 s2])
  have HG18 := Lib.hid (show w.heap.size ≤ g18 by have := HW.out.size; omega)
  rw [hg18] at K18 ⊢
  replace HW := Lib.hid (HW.out.trans hb2)
  replace K9 := Lib.hid (K9.out.bw hb2)
  replace K10 := Lib.hid (K10.out.bw hb2)
  replace K15 := Lib.hid (K15.out.bw hb2)
  generalize World.setRow (World.alloc w1 _) _ _ = w1 at *
  clear hb2 hg18
  (try simp only [Act.put])
  go_upto_region 12 with (first | ((with_reducible refine at_load 29 (.tmp 9) ?_); refine wpList_load_row rfl 29 _ rfl g9 rfl 29 A (0, 0) _ K9.out Tryd.underlying29 rfl HSZA.out ?_) | (go_at_call 20; (with_reducible refine Calls.mono (ER.out _ (HWD.out.bw HW.out)) ?_); rintro e1 w1 ⟨rfl, hb1⟩; replace K9 := Lib.hid (K9.out.bw hb1); replace K10 := Lib.hid (K10.out.bw hb1); replace K15 := Lib.hid (K15.out.bw hb1); replace K18 := Lib.hid (K18.out.bw hb1); replace HW := Lib.hid (HW.out.trans hb1); clear hb1))
  obtain ⟨tf2a, tf2b⟩ := tf2
  go_upto_block 2 with fail
  clear AT ER eby ewh ee hwe HSZA HPXA HN13 PG NT HV HZV HZ13 HZ6 HZI
  have K18M := Lib.hid (show Blk w1 g18 27 (mixA [s0, s1, s2] [y0, y1, y2] 0) from K18.out)
  go_wp2_with fail
  go_loopg [21] 3 (fun gg s21 wr => ∃ k : Nat, k ≤ 3 ∧ 3 - k ≤ gg ∧ s21 = .int .i64 k ∧ Hid (Bw w wr) ∧ Hid (Blk wr g18 27 (mixA [s0, s1, s2] [y0, y1, y2] k)) ∧ Hid (Blk wr g10 32 #[.int .i64 u0, .int .i64 u1, .int .i64 u2]) ∧ Hid (Blk wr g15 23 #[.int .i64 a0, .int .i64 a1, .int .i64 a2, .int .i64 a3, .int .i64 a4, .int .i64 a5]))
  case atStart => exact ⟨0, by omega, by omega, rfl, HW, K18M, K10, K15⟩
  case round =>
    clear HW K18M K18 K10 K15 K9
    obtain ⟨k, hk, hgg, rfl, HW, K18, K10, K15⟩ := hrel
    obtain ⟨w1, hw1e⟩ : ∃ w1, w1 = wr := ⟨_, rfl⟩
    subst hw1e
    by_cases hlk : k < 3
    · have hkz : (k : Int) < 3 := by omega
      have hk0 : (0 : Int) ≤ k := by omega
      have dk := K18.out.cell (mixA_at [s0, s1, s2] [y0, y1, y2] k hlk)
      have fk := K18.out.frozen k
      have HMS := Lib.hid (mixA_set [s0, s1, s2] [y0, y1, y2] k hlk)
      have hyk := HY.out k hlk
      have hyb := HYB.out k hlk
      have NTK := Lib.hid (fun W h => NTL.out (1 + (k : Int)) W h)
      have SGK := Lib.hid (fun W => SG.out (nth ls (1 + (k : Int))) by9 W ⟨by omega, by omega⟩)
      have bnk := sgW_bd (nth ls (1 + (k : Int))) by9 tf2a
      generalize nth ls (1 + (k : Int)) = nk at *
      generalize sgW nk by9 = sk at *
      generalize mixA [s0, s1, s2] [y0, y1, y2] k = MK at *
      generalize [y0, y1, y2].getD k 0 = yk at *
      generalize [s0, s1, s2].getD k 0 = zk at *
      have hwk1 : IntKind.i64.wrap (1 + (k : Int)) = 1 + (k : Int) := by rw [IntKind.wrap_i64]; omega
      have hwk2 : IntKind.i64.wrap (zk + sk) = yk := by rw [hyk, IntKind.wrap_i64]; omega
      go_upto_region 17 with fail
      have kk := fun p : Ext w1 => Ext.cell' dk p
      (refine wp_region_ext_tail 11 (by kernel_rfl) (by kernel_rfl) ?_; simp only [List.take_succ_cons, List.take_zero, List.drop_succ_cons, List.drop_zero]; (repeat (go_big_quiet_step (((first | (go_at_call 16; with_reducible exact Calls.ext_of (NTK.out _ ((HLV.out.mono HW.out).mono (Ext.b _)))) | (go_at_call 18; with_reducible exact Calls.ext_of (SGK.out _))))))); refine wpQuiet_nil ?_; rintro wq ⟨⟨_, hbq⟩, rfl⟩; obtain ⟨hccq, hffq⟩ := Bw.cells hbq; have hszq := Bw.size hbq)
      replace dk := hbq.cell' dk
      replace fk := (K18.out.bw hbq).frozen k
      replace HW := Lib.hid (HW.out.trans hbq)
      replace K18 := Lib.hid (K18.out.bw hbq)
      replace K10 := Lib.hid (K10.out.bw hbq)
      replace K15 := Lib.hid (K15.out.bw hbq)
      clear kk hbq hccq hffq hszq
      go_wp2
      go_roundg (3 - (k + 1))
      case measure => omega
      case rel => exact ⟨k + 1, by omega, by omega, by go_num, Lib.hid (Bw.setCell HW.out HG18.out _), Lib.hid (by have h9 := K18.out.set k (.int .i64 yk); rw [HMS.out] at h9; exact h9), Lib.hid (K10.out.set_other HN10.out _ _), Lib.hid (K15.out.set_other HN15.out _ _)⟩
    · obtain rfl : k = 3 := by omega
      have hkz : ¬ ((3 : Nat) : Int) < 3 := by omega
      replace K18 := Lib.hid (show Blk w1 g18 27 #[.int .i64 y0, .int .i64 y1, .int .i64 y2] from K18.out)
      clear HY HYB
      go_upto_region 19 with fail
      obtain ⟨WZ, hWZ⟩ : ∃ WZ, WZ = w1 := ⟨_, rfl⟩
      subst hWZ
      have du0 := K10.out.cell (show (#[.int .i64 u0, .int .i64 u1, .int .i64 u2] : Array Value)[0]? = some (.int .i64 u0) from rfl)
      have du1 := K10.out.cell (show (#[.int .i64 u0, .int .i64 u1, .int .i64 u2] : Array Value)[1]? = some (.int .i64 u1) from rfl)
      have du2 := K10.out.cell (show (#[.int .i64 u0, .int .i64 u1, .int .i64 u2] : Array Value)[2]? = some (.int .i64 u2) from rfl)
      obtain ⟨ev0, ev1, ev2⟩ := HV012.out
      go_cut [23] from 147 (fun s23 wc => ∃ g23, s23 = .pointer (some ⟨g23, 0, none⟩) ∧ Hid (Bw WZ wc) ∧ Hid (Blk wc g23 32 #[.int .i64 v0x, .int .i64 v1x, .int .i64 v2x]))
      case first =>
        as_aux_lemma =>
          refine wp_region_held_drew (S := Bw WZ) (by kernel_rfl) (Bw.drew (Bw.refl _)) (fun hS => ?_)
          generalize World.drew _ = wd at hS ⊢
          refine take1 (i := 0) (some 147) rfl rfl (by kernel_rfl) (by kernel_rfl) (by kernel_rfl) (fun _ _ _ _ h => h) rfl hS ?_
          apply Exists.intro
          apply And.intro
          · intro W9 hW9; skip; go_simp; try with_reducible rfl
          simp only [Act.put, List.setIfInBounds_toArray, List.set_cons_zero, List.set_cons_succ]
          refine take1 (i := 1) (some 148) rfl rfl (by kernel_rfl) (by kernel_rfl) (by kernel_rfl) (fun _ _ _ _ h => h) rfl hS ?_
          refine Exists.intro (.int .i64 u0) ?_
          apply And.intro
          · intro W9 hW9; skip; (have c0 := hW9.cell' du0); go_simp; try with_reducible rfl
          simp only [Act.put, List.setIfInBounds_toArray, List.set_cons_zero, List.set_cons_succ]
          refine take1 (i := 2) (some 149) rfl rfl (by kernel_rfl) (by kernel_rfl) (by kernel_rfl) (fun _ _ _ _ h => h) rfl hS ?_
          apply Exists.intro
          apply And.intro
          · intro W9 hW9; skip; go_simp; try with_reducible rfl
          simp only [Act.put, List.setIfInBounds_toArray, List.set_cons_zero, List.set_cons_succ]
          refine take1 (i := 4) (some 151) rfl rfl (by kernel_rfl) (by kernel_rfl) (by kernel_rfl) (fun _ _ _ _ h => h) rfl hS ?_
          apply Exists.intro
          apply And.intro
          · intro W9 hW9; skip; go_simp; try with_reducible rfl
          simp only [Act.put, List.setIfInBounds_toArray, List.set_cons_zero, List.set_cons_succ]
          refine take1 (i := 7) (some 154) rfl rfl (by kernel_rfl) (by kernel_rfl) (by kernel_rfl) (fun _ _ _ _ h => h) rfl hS ?_
          apply Exists.intro
          apply And.intro
          · intro W9 hW9; skip; go_simp; try with_reducible rfl
          simp only [Act.put, List.setIfInBounds_toArray, List.set_cons_zero, List.set_cons_succ]
          refine take1 (i := 8) (some 155) rfl rfl (by kernel_rfl) (by kernel_rfl) (by kernel_rfl) (fun _ _ _ _ h => h) rfl hS ?_
          refine Exists.intro (.int .i64 u1) ?_
          apply And.intro
          · intro W9 hW9; skip; (have c0 := hW9.cell' du1); go_simp; try with_reducible rfl
          simp only [Act.put, List.setIfInBounds_toArray, List.set_cons_zero, List.set_cons_succ]
          refine take1 (i := 9) (some 156) rfl rfl (by kernel_rfl) (by kernel_rfl) (by kernel_rfl) (fun _ _ _ _ h => h) rfl hS ?_
          apply Exists.intro
          apply And.intro
          · intro W9 hW9; skip; go_simp; try with_reducible rfl
          simp only [Act.put, List.setIfInBounds_toArray, List.set_cons_zero, List.set_cons_succ]
          refine take1 (i := 11) (some 158) rfl rfl (by kernel_rfl) (by kernel_rfl) (by kernel_rfl) (fun _ _ _ _ h => h) rfl hS ?_
          apply Exists.intro
          apply And.intro
          · intro W9 hW9; skip; go_simp; try with_reducible rfl
          simp only [Act.put, List.setIfInBounds_toArray, List.set_cons_zero, List.set_cons_succ]
          refine take1 (i := 14) (some 161) rfl rfl (by kernel_rfl) (by kernel_rfl) (by kernel_rfl) (fun _ _ _ _ h => h) rfl hS ?_
          apply Exists.intro
          apply And.intro
          · intro W9 hW9; skip; go_simp; try with_reducible rfl
          simp only [Act.put, List.setIfInBounds_toArray, List.set_cons_zero, List.set_cons_succ]
          refine take1 (i := 15) (some 162) rfl rfl (by kernel_rfl) (by kernel_rfl) (by kernel_rfl) (fun _ _ _ _ h => h) rfl hS ?_
          refine Exists.intro (.int .i64 u2) ?_
          apply And.intro
          · intro W9 hW9; skip; (have c0 := hW9.cell' du2); go_simp; try with_reducible rfl
          simp only [Act.put, List.setIfInBounds_toArray, List.set_cons_zero, List.set_cons_succ]
          refine take1 (i := 16) (some 163) rfl rfl (by kernel_rfl) (by kernel_rfl) (by kernel_rfl) (fun _ _ _ _ h => h) rfl hS ?_
          apply Exists.intro
          apply And.intro
          · intro W9 hW9; skip; go_simp; try with_reducible rfl
          simp only [Act.put, List.setIfInBounds_toArray, List.set_cons_zero, List.set_cons_succ]
          refine take1 (i := 18) (some 165) rfl rfl (by kernel_rfl) (by kernel_rfl) (by kernel_rfl) (fun _ _ _ _ h => h) rfl hS ?_
          apply Exists.intro
          apply And.intro
          · intro W9 hW9; skip; go_simp; try with_reducible rfl
          simp only [Act.put, List.setIfInBounds_toArray, List.set_cons_zero, List.set_cons_succ]
          refine wpAnyH_ready (rs := [3, 22]) (by kernel_rfl) (by simp) ?_
          refine AllReadyH.cons rfl (fun K hK => ?_) ?_
          go_simp
          go_wp2_with (go_at_call 16; (with_reducible refine Calls.mono (NTL.out _ _ (HLV.out.mono (HW.out.trans hS))) ?_); rintro e1 wd ⟨rfl, hbw⟩)
          refine hK.out _ _ (hS.trans hbw) (fun hS => ?_)
          clear hK K
          clear hbw
          refine wpAnyH_ready (rs := [5, 22]) (by kernel_rfl) (by simp) ?_
          refine AllReadyH.cons rfl (fun K hK => ?_) ?_
          go_simp
          go_wp2_with (go_at_call 18; (with_reducible refine Calls.mono (SG.out _ _ _ ?_) ?_); exact ⟨by omega, by omega⟩; rintro e1 wd ⟨rfl, hbw⟩)
          refine hK.out _ _ (hS.trans hbw) (fun hS => ?_)
          clear hK K
          clear hbw
          refine take1 (i := 6) (some 153) rfl rfl (by kernel_rfl) (by kernel_rfl) (by kernel_rfl) (fun _ _ _ _ h => h) rfl hS ?_
          refine Exists.intro (.int .i64 v0x) ?_
          apply And.intro
          · intro W9 hW9; skip; go_simp; (try go_bits); (try with_reducible rfl); (try trivial)
          simp only [Act.put, List.setIfInBounds_toArray, List.set_cons_zero, List.set_cons_succ]
          refine wpAnyH_ready (rs := [10, 22]) (by kernel_rfl) (by simp) ?_
          refine AllReadyH.cons rfl (fun K hK => ?_) ?_
          go_simp
          go_wp2_with (go_at_call 16; (with_reducible refine Calls.mono (NTL.out _ _ (HLV.out.mono (HW.out.trans hS))) ?_); rintro e1 wd ⟨rfl, hbw⟩)
          refine hK.out _ _ (hS.trans hbw) (fun hS => ?_)
          clear hK K
          clear hbw
          refine wpAnyH_ready (rs := [12, 22]) (by kernel_rfl) (by simp) ?_
          refine AllReadyH.cons rfl (fun K hK => ?_) ?_
          go_simp
          go_wp2_with (go_at_call 18; (with_reducible refine Calls.mono (SG.out _ _ _ ?_) ?_); exact ⟨by omega, by omega⟩; rintro e1 wd ⟨rfl, hbw⟩)
          refine hK.out _ _ (hS.trans hbw) (fun hS => ?_)
          clear hK K
          clear hbw
          refine take1 (i := 13) (some 160) rfl rfl (by kernel_rfl) (by kernel_rfl) (by kernel_rfl) (fun _ _ _ _ h => h) rfl hS ?_
          refine Exists.intro (.int .i64 v1x) ?_
          apply And.intro
          · intro W9 hW9; skip; go_simp; (try go_bits); (try with_reducible rfl); (try trivial)
          simp only [Act.put, List.setIfInBounds_toArray, List.set_cons_zero, List.set_cons_succ]
          refine wpAnyH_ready (rs := [17, 22]) (by kernel_rfl) (by simp) ?_
          refine AllReadyH.cons rfl (fun K hK => ?_) ?_
          go_simp
          go_wp2_with (go_at_call 16; (with_reducible refine Calls.mono (NTL.out _ _ (HLV.out.mono (HW.out.trans hS))) ?_); rintro e1 wd ⟨rfl, hbw⟩)
          refine hK.out _ _ (hS.trans hbw) (fun hS => ?_)
          clear hK K
          clear hbw
          refine wpAnyH_ready (rs := [19, 22]) (by kernel_rfl) (by simp) ?_
          refine AllReadyH.cons rfl (fun K hK => ?_) ?_
          go_simp
          go_wp2_with (go_at_call 18; (with_reducible refine Calls.mono (SG.out _ _ _ ?_) ?_); exact ⟨by omega, by omega⟩; rintro e1 wd ⟨rfl, hbw⟩)
          refine hK.out _ _ (hS.trans hbw) (fun hS => ?_)
          clear hK K
          clear hbw
          refine take1 (i := 20) (some 167) rfl rfl (by kernel_rfl) (by kernel_rfl) (by kernel_rfl) (fun _ _ _ _ h => h) rfl hS ?_
          refine Exists.intro (.int .i64 v2x) ?_
          apply And.intro
          · intro W9 hW9; skip; go_simp; (try go_bits); (try with_reducible rfl); (try trivial)
          simp only [Act.put, List.setIfInBounds_toArray, List.set_cons_zero, List.set_cons_succ]
          refine take1 (i := 21) (some 168) rfl rfl (by kernel_rfl) (by kernel_rfl) (by kernel_rfl) (fun _ _ _ _ h => h) rfl hS ?_
          apply Exists.intro
          apply And.intro
          · intro W9 hW9; skip; go_simp; try with_reducible rfl
          simp only [Act.put, List.setIfInBounds_toArray, List.set_cons_zero, List.set_cons_succ]
          refine wpAnyH_ready (rs := [22]) (by kernel_rfl) (by simp) ?_
          refine AllReadyH.cons rfl (fun K hK => ?_) ?_
          rw [if_pos (by rfl)]
          refine wp_alloc_agg 32 rfl (some 23) rfl #[.int .i64 0, .int .i64 0, .int .i64 0] (zeroPT _) ?_
          have K23 := Lib.hid (Blk.new wd 32 #[.int .i64 0, .int .i64 0, .int .i64 0])
          have hba := Bw.alloc (Bw.refl wd) (.cells #[.int .i64 0, .int .i64 0, .int .i64 0] 32)
          have HG23 := Lib.hid (show WZ.heap.size ≤ wd.heap.size from hS.size)
          obtain ⟨g23, hg23⟩ : ∃ g23, wd.heap.size = g23 := ⟨_, rfl⟩
          rw [hg23] at K23 HG23 ⊢
          simp only [Act.put, List.setIfInBounds_toArray, List.set_cons_zero, List.set_cons_succ]
          have hS9 := hS.trans hba
          clear hba hS hg23
          generalize World.alloc wd _ = wd at *
          refine hK.out _ _ hS9 (fun hS => ?_)
          clear hK K
          clear hS9
          refine wpAnyH_ready (rs := [23]) (by kernel_rfl) (by simp) ?_
          refine AllReadyH.cons rfl (fun K hK => ?_) ?_
          rw [if_pos (by rfl)]
          refine wp_store_row0 32 _ _ rfl rfl g23 #[.int .i64 v0x, .int .i64 v1x, .int .i64 v2x] rfl rfl 32 #[.int .i64 0, .int .i64 0, .int .i64 0] K23.out (by kernel_rfl) rfl (by simp [Value.oneCell']) ?_
          replace K23 := Lib.hid (K23.out.row #[.int .i64 v0x, .int .i64 v1x, .int .i64 v2x])
          have hS9 := Bw.setRow hS HG23.out #[.int .i64 v0x, .int .i64 v1x, .int .i64 v2x]
          clear hS
          refine hK.out _ _ hS9 (fun hS => ?_)
          clear hK K
          clear hS9
          refine wpAnyH_done (by kernel_rfl) ?_ _
          rotate_left
          exact AllReadyH.nil
          exact AllReadyH.nil
          refine AllReadyH.cons rfl (fun K hK => ?_) ?_
          rw [if_pos (by rfl)]
          refine wp_alloc_agg 32 rfl (some 23) rfl #[.int .i64 0, .int .i64 0, .int .i64 0] (zeroPT _) ?_
          have K23 := Lib.hid (Blk.new wd 32 #[.int .i64 0, .int .i64 0, .int .i64 0])
          have hba := Bw.alloc (Bw.refl wd) (.cells #[.int .i64 0, .int .i64 0, .int .i64 0] 32)
          have HG23 := Lib.hid (show WZ.heap.size ≤ wd.heap.size from hS.size)
          obtain ⟨g23, hg23⟩ : ∃ g23, wd.heap.size = g23 := ⟨_, rfl⟩
          rw [hg23] at K23 HG23 ⊢
          simp only [Act.put, List.setIfInBounds_toArray, List.set_cons_zero, List.set_cons_succ]
          have hS9 := hS.trans hba
          clear hba hS hg23
          generalize World.alloc wd _ = wd at *
          refine hK.out _ _ hS9 (fun hS => ?_)
          clear hK K
          clear hS9
          refine wpAnyH_ready (rs := [19]) (by kernel_rfl) (by simp) ?_
          refine AllReadyH.cons rfl (fun K hK => ?_) ?_
          go_simp
          go_wp2_with (go_at_call 18; (with_reducible refine Calls.mono (SG.out _ _ _ ?_) ?_); exact ⟨by omega, by omega⟩; rintro e1 wd ⟨rfl, hbw⟩)
          replace K23 := Lib.hid (K23.out.bw hbw)
          refine hK.out _ _ (hS.trans hbw) (fun hS => ?_)
          clear hK K
          clear hbw
          refine take1 (i := 20) (some 167) rfl rfl (by kernel_rfl) (by kernel_rfl) (by kernel_rfl) (fun _ _ _ _ h => h) rfl hS ?_
          refine Exists.intro (.int .i64 v2x) ?_
          apply And.intro
          · intro W9 hW9; skip; go_simp; (try go_bits); (try with_reducible rfl); (try trivial)
          simp only [Act.put, List.setIfInBounds_toArray, List.set_cons_zero, List.set_cons_succ]
          refine take1 (i := 21) (some 168) rfl rfl (by kernel_rfl) (by kernel_rfl) (by kernel_rfl) (fun _ _ _ _ h => h) rfl hS ?_
          apply Exists.intro
          apply And.intro
          · intro W9 hW9; skip; go_simp; try with_reducible rfl
          simp only [Act.put, List.setIfInBounds_toArray, List.set_cons_zero, List.set_cons_succ]
          refine wpAnyH_ready (rs := [23]) (by kernel_rfl) (by simp) ?_
          refine AllReadyH.cons rfl (fun K hK => ?_) ?_
          rw [if_pos (by rfl)]
          refine wp_store_row0 32 _ _ rfl rfl g23 #[.int .i64 v0x, .int .i64 v1x, .int .i64 v2x] rfl rfl 32 #[.int .i64 0, .int .i64 0, .int .i64 0] K23.out (by kernel_rfl) rfl (by simp [Value.oneCell']) ?_
          replace K23 := Lib.hid (K23.out.row #[.int .i64 v0x, .int .i64 v1x, .int .i64 v2x])
          have hS9 := Bw.setRow hS HG23.out #[.int .i64 v0x, .int .i64 v1x, .int .i64 v2x]
          clear hS
          refine hK.out _ _ hS9 (fun hS => ?_)
          clear hK K
          clear hS9
          refine wpAnyH_done (by kernel_rfl) ?_ _
          rotate_left
          exact AllReadyH.nil
          exact AllReadyH.nil
          exact AllReadyH.nil
          refine AllReadyH.cons rfl (fun K hK => ?_) ?_
          rw [if_pos (by rfl)]
          refine wp_alloc_agg 32 rfl (some 23) rfl #[.int .i64 0, .int .i64 0, .int .i64 0] (zeroPT _) ?_
          have K23 := Lib.hid (Blk.new wd 32 #[.int .i64 0, .int .i64 0, .int .i64 0])
          have hba := Bw.alloc (Bw.refl wd) (.cells #[.int .i64 0, .int .i64 0, .int .i64 0] 32)
          have HG23 := Lib.hid (show WZ.heap.size ≤ wd.heap.size from hS.size)
          obtain ⟨g23, hg23⟩ : ∃ g23, wd.heap.size = g23 := ⟨_, rfl⟩
          rw [hg23] at K23 HG23 ⊢
          simp only [Act.put, List.setIfInBounds_toArray, List.set_cons_zero, List.set_cons_succ]
          have hS9 := hS.trans hba
          clear hba hS hg23
          generalize World.alloc wd _ = wd at *
          refine hK.out _ _ hS9 (fun hS => ?_)
          clear hK K
          clear hS9
          refine wpAnyH_ready (rs := [17]) (by kernel_rfl) (by simp) ?_
          refine AllReadyH.cons rfl (fun K hK => ?_) ?_
          go_simp
          go_wp2_with (go_at_call 16; (with_reducible refine Calls.mono (NTL.out _ _ (HLV.out.mono (HW.out.trans hS))) ?_); rintro e1 wd ⟨rfl, hbw⟩)
          replace K23 := Lib.hid (K23.out.bw hbw)
          refine hK.out _ _ (hS.trans hbw) (fun hS => ?_)
          clear hK K
          clear hbw
          refine wpAnyH_ready (rs := [19]) (by kernel_rfl) (by simp) ?_
          refine AllReadyH.cons rfl (fun K hK => ?_) ?_
          go_simp
          go_wp2_with (go_at_call 18; (with_reducible refine Calls.mono (SG.out _ _ _ ?_) ?_); exact ⟨by omega, by omega⟩; rintro e1 wd ⟨rfl, hbw⟩)
          replace K23 := Lib.hid (K23.out.bw hbw)
          refine hK.out _ _ (hS.trans hbw) (fun hS => ?_)
          clear hK K
          clear hbw
          refine take1 (i := 20) (some 167) rfl rfl (by kernel_rfl) (by kernel_rfl) (by kernel_rfl) (fun _ _ _ _ h => h) rfl hS ?_
          refine Exists.intro (.int .i64 v2x) ?_
          apply And.intro
          · intro W9 hW9; skip; go_simp; (try go_bits); (try with_reducible rfl); (try trivial)
          simp only [Act.put, List.setIfInBounds_toArray, List.set_cons_zero, List.set_cons_succ]
          refine take1 (i := 21) (some 168) rfl rfl (by kernel_rfl) (by kernel_rfl) (by kernel_rfl) (fun _ _ _ _ h => h) rfl hS ?_
          apply Exists.intro
          apply And.intro
          · intro W9 hW9; skip; go_simp; try with_reducible rfl
          simp only [Act.put, List.setIfInBounds_toArray, List.set_cons_zero, List.set_cons_succ]
          refine wpAnyH_ready (rs := [23]) (by kernel_rfl) (by simp) ?_
          refine AllReadyH.cons rfl (fun K hK => ?_) ?_
          rw [if_pos (by rfl)]
          refine wp_store_row0 32 _ _ rfl rfl g23 #[.int .i64 v0x, .int .i64 v1x, .int .i64 v2x] rfl rfl 32 #[.int .i64 0, .int .i64 0, .int .i64 0] K23.out (by kernel_rfl) rfl (by simp [Value.oneCell']) ?_
          replace K23 := Lib.hid (K23.out.row #[.int .i64 v0x, .int .i64 v1x, .int .i64 v2x])
          have hS9 := Bw.setRow hS HG23.out #[.int .i64 v0x, .int .i64 v1x, .int .i64 v2x]
          clear hS
          refine hK.out _ _ hS9 (fun hS => ?_)
          clear hK K
          clear hS9
          refine wpAnyH_done (by kernel_rfl) ?_ _
          rotate_left
          exact AllReadyH.nil
          exact AllReadyH.nil
          exact AllReadyH.nil
          exact AllReadyH.nil
          refine AllReadyH.cons rfl (fun K hK => ?_) ?_
          rw [if_pos (by rfl)]
          refine wp_alloc_agg 32 rfl (some 23) rfl #[.int .i64 0, .int .i64 0, .int .i64 0] (zeroPT _) ?_
          have K23 := Lib.hid (Blk.new wd 32 #[.int .i64 0, .int .i64 0, .int .i64 0])
          have hba := Bw.alloc (Bw.refl wd) (.cells #[.int .i64 0, .int .i64 0, .int .i64 0] 32)
          have HG23 := Lib.hid (show WZ.heap.size ≤ wd.heap.size from hS.size)
          obtain ⟨g23, hg23⟩ : ∃ g23, wd.heap.size = g23 := ⟨_, rfl⟩
          rw [hg23] at K23 HG23 ⊢
          simp only [Act.put, List.setIfInBounds_toArray, List.set_cons_zero, List.set_cons_succ]
          have hS9 := hS.trans hba
          clear hba hS hg23
          generalize World.alloc wd _ = wd at *
          refine hK.out _ _ hS9 (fun hS => ?_)
          clear hK K
          clear hS9
          refine wpAnyH_ready (rs := [12]) (by kernel_rfl) (by simp) ?_
          refine AllReadyH.cons rfl (fun K hK => ?_) ?_
          go_simp
          go_wp2_with (go_at_call 18; (with_reducible refine Calls.mono (SG.out _ _ _ ?_) ?_); exact ⟨by omega, by omega⟩; rintro e1 wd ⟨rfl, hbw⟩)
          replace K23 := Lib.hid (K23.out.bw hbw)
          refine hK.out _ _ (hS.trans hbw) (fun hS => ?_)
          clear hK K
          clear hbw
          refine take1 (i := 13) (some 160) rfl rfl (by kernel_rfl) (by kernel_rfl) (by kernel_rfl) (fun _ _ _ _ h => h) rfl hS ?_
          refine Exists.intro (.int .i64 v1x) ?_
          apply And.intro
          · intro W9 hW9; skip; go_simp; (try go_bits); (try with_reducible rfl); (try trivial)
          simp only [Act.put, List.setIfInBounds_toArray, List.set_cons_zero, List.set_cons_succ]
          refine wpAnyH_ready (rs := [17]) (by kernel_rfl) (by simp) ?_
          refine AllReadyH.cons rfl (fun K hK => ?_) ?_
          go_simp
          go_wp2_with (go_at_call 16; (with_reducible refine Calls.mono (NTL.out _ _ (HLV.out.mono (HW.out.trans hS))) ?_); rintro e1 wd ⟨rfl, hbw⟩)
          replace K23 := Lib.hid (K23.out.bw hbw)
          refine hK.out _ _ (hS.trans hbw) (fun hS => ?_)
          clear hK K
          clear hbw
          refine wpAnyH_ready (rs := [19]) (by kernel_rfl) (by simp) ?_
          refine AllReadyH.cons rfl (fun K hK => ?_) ?_
          go_simp
          go_wp2_with (go_at_call 18; (with_reducible refine Calls.mono (SG.out _ _ _ ?_) ?_); exact ⟨by omega, by omega⟩; rintro e1 wd ⟨rfl, hbw⟩)
          replace K23 := Lib.hid (K23.out.bw hbw)
          refine hK.out _ _ (hS.trans hbw) (fun hS => ?_)
          clear hK K
          clear hbw
          refine take1 (i := 20) (some 167) rfl rfl (by kernel_rfl) (by kernel_rfl) (by kernel_rfl) (fun _ _ _ _ h => h) rfl hS ?_
          refine Exists.intro (.int .i64 v2x) ?_
          apply And.intro
          · intro W9 hW9; skip; go_simp; (try go_bits); (try with_reducible rfl); (try trivial)
          simp only [Act.put, List.setIfInBounds_toArray, List.set_cons_zero, List.set_cons_succ]
          refine take1 (i := 21) (some 168) rfl rfl (by kernel_rfl) (by kernel_rfl) (by kernel_rfl) (fun _ _ _ _ h => h) rfl hS ?_
          apply Exists.intro
          apply And.intro
          · intro W9 hW9; skip; go_simp; try with_reducible rfl
          simp only [Act.put, List.setIfInBounds_toArray, List.set_cons_zero, List.set_cons_succ]
          refine wpAnyH_ready (rs := [23]) (by kernel_rfl) (by simp) ?_
          refine AllReadyH.cons rfl (fun K hK => ?_) ?_
          rw [if_pos (by rfl)]
          refine wp_store_row0 32 _ _ rfl rfl g23 #[.int .i64 v0x, .int .i64 v1x, .int .i64 v2x] rfl rfl 32 #[.int .i64 0, .int .i64 0, .int .i64 0] K23.out (by kernel_rfl) rfl (by simp [Value.oneCell']) ?_
          replace K23 := Lib.hid (K23.out.row #[.int .i64 v0x, .int .i64 v1x, .int .i64 v2x])
          have hS9 := Bw.setRow hS HG23.out #[.int .i64 v0x, .int .i64 v1x, .int .i64 v2x]
          clear hS
          refine hK.out _ _ hS9 (fun hS => ?_)
          clear hK K
          clear hS9
          refine wpAnyH_done (by kernel_rfl) ?_ _
          rotate_left
          exact AllReadyH.nil
          exact AllReadyH.nil
          exact AllReadyH.nil
          exact AllReadyH.nil
          exact AllReadyH.nil
          refine AllReadyH.cons rfl (fun K hK => ?_) ?_
          rw [if_pos (by rfl)]
          refine wp_alloc_agg 32 rfl (some 23) rfl #[.int .i64 0, .int .i64 0, .int .i64 0] (zeroPT _) ?_
          have K23 := Lib.hid (Blk.new wd 32 #[.int .i64 0, .int .i64 0, .int .i64 0])
          have hba := Bw.alloc (Bw.refl wd) (.cells #[.int .i64 0, .int .i64 0, .int .i64 0] 32)
          have HG23 := Lib.hid (show WZ.heap.size ≤ wd.heap.size from hS.size)
          obtain ⟨g23, hg23⟩ : ∃ g23, wd.heap.size = g23 := ⟨_, rfl⟩
          rw [hg23] at K23 HG23 ⊢
          simp only [Act.put, List.setIfInBounds_toArray, List.set_cons_zero, List.set_cons_succ]
          have hS9 := hS.trans hba
          clear hba hS hg23
          generalize World.alloc wd _ = wd at *
          refine hK.out _ _ hS9 (fun hS => ?_)
          clear hK K
          clear hS9
          refine wpAnyH_ready (rs := [10]) (by kernel_rfl) (by simp) ?_
          refine AllReadyH.cons rfl (fun K hK => ?_) ?_
          go_simp
          go_wp2_with (go_at_call 16; (with_reducible refine Calls.mono (NTL.out _ _ (HLV.out.mono (HW.out.trans hS))) ?_); rintro e1 wd ⟨rfl, hbw⟩)
          replace K23 := Lib.hid (K23.out.bw hbw)
          refine hK.out _ _ (hS.trans hbw) (fun hS => ?_)
          clear hK K
          clear hbw
          refine wpAnyH_ready (rs := [12]) (by kernel_rfl) (by simp) ?_
          refine AllReadyH.cons rfl (fun K hK => ?_) ?_
          go_simp
          go_wp2_with (go_at_call 18; (with_reducible refine Calls.mono (SG.out _ _ _ ?_) ?_); exact ⟨by omega, by omega⟩; rintro e1 wd ⟨rfl, hbw⟩)
          replace K23 := Lib.hid (K23.out.bw hbw)
          refine hK.out _ _ (hS.trans hbw) (fun hS => ?_)
          clear hK K
          clear hbw
          refine take1 (i := 13) (some 160) rfl rfl (by kernel_rfl) (by kernel_rfl) (by kernel_rfl) (fun _ _ _ _ h => h) rfl hS ?_
          refine Exists.intro (.int .i64 v1x) ?_
          apply And.intro
          · intro W9 hW9; skip; go_simp; (try go_bits); (try with_reducible rfl); (try trivial)
          simp only [Act.put, List.setIfInBounds_toArray, List.set_cons_zero, List.set_cons_succ]
          refine wpAnyH_ready (rs := [17]) (by kernel_rfl) (by simp) ?_
          refine AllReadyH.cons rfl (fun K hK => ?_) ?_
          go_simp
          go_wp2_with (go_at_call 16; (with_reducible refine Calls.mono (NTL.out _ _ (HLV.out.mono (HW.out.trans hS))) ?_); rintro e1 wd ⟨rfl, hbw⟩)
          replace K23 := Lib.hid (K23.out.bw hbw)
          refine hK.out _ _ (hS.trans hbw) (fun hS => ?_)
          clear hK K
          clear hbw
          refine wpAnyH_ready (rs := [19]) (by kernel_rfl) (by simp) ?_
          refine AllReadyH.cons rfl (fun K hK => ?_) ?_
          go_simp
          go_wp2_with (go_at_call 18; (with_reducible refine Calls.mono (SG.out _ _ _ ?_) ?_); exact ⟨by omega, by omega⟩; rintro e1 wd ⟨rfl, hbw⟩)
          replace K23 := Lib.hid (K23.out.bw hbw)
          refine hK.out _ _ (hS.trans hbw) (fun hS => ?_)
          clear hK K
          clear hbw
          refine take1 (i := 20) (some 167) rfl rfl (by kernel_rfl) (by kernel_rfl) (by kernel_rfl) (fun _ _ _ _ h => h) rfl hS ?_
          refine Exists.intro (.int .i64 v2x) ?_
          apply And.intro
          · intro W9 hW9; skip; go_simp; (try go_bits); (try with_reducible rfl); (try trivial)
          simp only [Act.put, List.setIfInBounds_toArray, List.set_cons_zero, List.set_cons_succ]
          refine take1 (i := 21) (some 168) rfl rfl (by kernel_rfl) (by kernel_rfl) (by kernel_rfl) (fun _ _ _ _ h => h) rfl hS ?_
          apply Exists.intro
          apply And.intro
          · intro W9 hW9; skip; go_simp; try with_reducible rfl
          simp only [Act.put, List.setIfInBounds_toArray, List.set_cons_zero, List.set_cons_succ]
          refine wpAnyH_ready (rs := [23]) (by kernel_rfl) (by simp) ?_
          refine AllReadyH.cons rfl (fun K hK => ?_) ?_
          rw [if_pos (by rfl)]
          refine wp_store_row0 32 _ _ rfl rfl g23 #[.int .i64 v0x, .int .i64 v1x, .int .i64 v2x] rfl rfl 32 #[.int .i64 0, .int .i64 0, .int .i64 0] K23.out (by kernel_rfl) rfl (by simp [Value.oneCell']) ?_
          replace K23 := Lib.hid (K23.out.row #[.int .i64 v0x, .int .i64 v1x, .int .i64 v2x])
          have hS9 := Bw.setRow hS HG23.out #[.int .i64 v0x, .int .i64 v1x, .int .i64 v2x]
          clear hS
          refine hK.out _ _ hS9 (fun hS => ?_)
          clear hK K
          clear hS9
          refine wpAnyH_done (by kernel_rfl) ?_ _
          rotate_left
          exact AllReadyH.nil
          exact AllReadyH.nil
          exact AllReadyH.nil
          exact AllReadyH.nil
          exact AllReadyH.nil
          exact AllReadyH.nil
          refine AllReadyH.cons rfl (fun K hK => ?_) ?_
          rw [if_pos (by rfl)]
          refine wp_alloc_agg 32 rfl (some 23) rfl #[.int .i64 0, .int .i64 0, .int .i64 0] (zeroPT _) ?_
          have K23 := Lib.hid (Blk.new wd 32 #[.int .i64 0, .int .i64 0, .int .i64 0])
          have hba := Bw.alloc (Bw.refl wd) (.cells #[.int .i64 0, .int .i64 0, .int .i64 0] 32)
          have HG23 := Lib.hid (show WZ.heap.size ≤ wd.heap.size from hS.size)
          obtain ⟨g23, hg23⟩ : ∃ g23, wd.heap.size = g23 := ⟨_, rfl⟩
          rw [hg23] at K23 HG23 ⊢
          simp only [Act.put, List.setIfInBounds_toArray, List.set_cons_zero, List.set_cons_succ]
          have hS9 := hS.trans hba
          clear hba hS hg23
          generalize World.alloc wd _ = wd at *
          refine hK.out _ _ hS9 (fun hS => ?_)
          clear hK K
          clear hS9
          refine wpAnyH_ready (rs := [5]) (by kernel_rfl) (by simp) ?_
          refine AllReadyH.cons rfl (fun K hK => ?_) ?_
          go_simp
          go_wp2_with (go_at_call 18; (with_reducible refine Calls.mono (SG.out _ _ _ ?_) ?_); exact ⟨by omega, by omega⟩; rintro e1 wd ⟨rfl, hbw⟩)
          replace K23 := Lib.hid (K23.out.bw hbw)
          refine hK.out _ _ (hS.trans hbw) (fun hS => ?_)
          clear hK K
          clear hbw
          refine take1 (i := 6) (some 153) rfl rfl (by kernel_rfl) (by kernel_rfl) (by kernel_rfl) (fun _ _ _ _ h => h) rfl hS ?_
          refine Exists.intro (.int .i64 v0x) ?_
          apply And.intro
          · intro W9 hW9; skip; go_simp; (try go_bits); (try with_reducible rfl); (try trivial)
          simp only [Act.put, List.setIfInBounds_toArray, List.set_cons_zero, List.set_cons_succ]
          refine wpAnyH_ready (rs := [10]) (by kernel_rfl) (by simp) ?_
          refine AllReadyH.cons rfl (fun K hK => ?_) ?_
          go_simp
          go_wp2_with (go_at_call 16; (with_reducible refine Calls.mono (NTL.out _ _ (HLV.out.mono (HW.out.trans hS))) ?_); rintro e1 wd ⟨rfl, hbw⟩)
          replace K23 := Lib.hid (K23.out.bw hbw)
          refine hK.out _ _ (hS.trans hbw) (fun hS => ?_)
          clear hK K
          clear hbw
          refine wpAnyH_ready (rs := [12]) (by kernel_rfl) (by simp) ?_
          refine AllReadyH.cons rfl (fun K hK => ?_) ?_
          go_simp
          go_wp2_with (go_at_call 18; (with_reducible refine Calls.mono (SG.out _ _ _ ?_) ?_); exact ⟨by omega, by omega⟩; rintro e1 wd ⟨rfl, hbw⟩)
          replace K23 := Lib.hid (K23.out.bw hbw)
          refine hK.out _ _ (hS.trans hbw) (fun hS => ?_)
          clear hK K
          clear hbw
          refine take1 (i := 13) (some 160) rfl rfl (by kernel_rfl) (by kernel_rfl) (by kernel_rfl) (fun _ _ _ _ h => h) rfl hS ?_
          refine Exists.intro (.int .i64 v1x) ?_
          apply And.intro
          · intro W9 hW9; skip; go_simp; (try go_bits); (try with_reducible rfl); (try trivial)
          simp only [Act.put, List.setIfInBounds_toArray, List.set_cons_zero, List.set_cons_succ]
          refine wpAnyH_ready (rs := [17]) (by kernel_rfl) (by simp) ?_
          refine AllReadyH.cons rfl (fun K hK => ?_) ?_
          go_simp
          go_wp2_with (go_at_call 16; (with_reducible refine Calls.mono (NTL.out _ _ (HLV.out.mono (HW.out.trans hS))) ?_); rintro e1 wd ⟨rfl, hbw⟩)
          replace K23 := Lib.hid (K23.out.bw hbw)
          refine hK.out _ _ (hS.trans hbw) (fun hS => ?_)
          clear hK K
          clear hbw
          refine wpAnyH_ready (rs := [19]) (by kernel_rfl) (by simp) ?_
          refine AllReadyH.cons rfl (fun K hK => ?_) ?_
          go_simp
          go_wp2_with (go_at_call 18; (with_reducible refine Calls.mono (SG.out _ _ _ ?_) ?_); exact ⟨by omega, by omega⟩; rintro e1 wd ⟨rfl, hbw⟩)
          replace K23 := Lib.hid (K23.out.bw hbw)
          refine hK.out _ _ (hS.trans hbw) (fun hS => ?_)
          clear hK K
          clear hbw
          refine take1 (i := 20) (some 167) rfl rfl (by kernel_rfl) (by kernel_rfl) (by kernel_rfl) (fun _ _ _ _ h => h) rfl hS ?_
          refine Exists.intro (.int .i64 v2x) ?_
          apply And.intro
          · intro W9 hW9; skip; go_simp; (try go_bits); (try with_reducible rfl); (try trivial)
          simp only [Act.put, List.setIfInBounds_toArray, List.set_cons_zero, List.set_cons_succ]
          refine take1 (i := 21) (some 168) rfl rfl (by kernel_rfl) (by kernel_rfl) (by kernel_rfl) (fun _ _ _ _ h => h) rfl hS ?_
          apply Exists.intro
          apply And.intro
          · intro W9 hW9; skip; go_simp; try with_reducible rfl
          simp only [Act.put, List.setIfInBounds_toArray, List.set_cons_zero, List.set_cons_succ]
          refine wpAnyH_ready (rs := [23]) (by kernel_rfl) (by simp) ?_
          refine AllReadyH.cons rfl (fun K hK => ?_) ?_
          rw [if_pos (by rfl)]
          refine wp_store_row0 32 _ _ rfl rfl g23 #[.int .i64 v0x, .int .i64 v1x, .int .i64 v2x] rfl rfl 32 #[.int .i64 0, .int .i64 0, .int .i64 0] K23.out (by kernel_rfl) rfl (by simp [Value.oneCell']) ?_
          replace K23 := Lib.hid (K23.out.row #[.int .i64 v0x, .int .i64 v1x, .int .i64 v2x])
          have hS9 := Bw.setRow hS HG23.out #[.int .i64 v0x, .int .i64 v1x, .int .i64 v2x]
          clear hS
          refine hK.out _ _ hS9 (fun hS => ?_)
          clear hK K
          clear hS9
          refine wpAnyH_done (by kernel_rfl) ?_ _
          rotate_left
          exact AllReadyH.nil
          exact AllReadyH.nil
          exact AllReadyH.nil
          exact AllReadyH.nil
          exact AllReadyH.nil
          exact AllReadyH.nil
          exact AllReadyH.nil
          refine AllReadyH.cons rfl (fun K hK => ?_) ?_
          rw [if_pos (by rfl)]
          refine wp_alloc_agg 32 rfl (some 23) rfl #[.int .i64 0, .int .i64 0, .int .i64 0] (zeroPT _) ?_
          have K23 := Lib.hid (Blk.new wd 32 #[.int .i64 0, .int .i64 0, .int .i64 0])
          have hba := Bw.alloc (Bw.refl wd) (.cells #[.int .i64 0, .int .i64 0, .int .i64 0] 32)
          have HG23 := Lib.hid (show WZ.heap.size ≤ wd.heap.size from hS.size)
          obtain ⟨g23, hg23⟩ : ∃ g23, wd.heap.size = g23 := ⟨_, rfl⟩
          rw [hg23] at K23 HG23 ⊢
          simp only [Act.put, List.setIfInBounds_toArray, List.set_cons_zero, List.set_cons_succ]
          have hS9 := hS.trans hba
          clear hba hS hg23
          generalize World.alloc wd _ = wd at *
          refine hK.out _ _ hS9 (fun hS => ?_)
          clear hK K
          clear hS9
          refine wpAnyH_ready (rs := [3]) (by kernel_rfl) (by simp) ?_
          refine AllReadyH.cons rfl (fun K hK => ?_) ?_
          go_simp
          go_wp2_with (go_at_call 16; (with_reducible refine Calls.mono (NTL.out _ _ (HLV.out.mono (HW.out.trans hS))) ?_); rintro e1 wd ⟨rfl, hbw⟩)
          replace K23 := Lib.hid (K23.out.bw hbw)
          refine hK.out _ _ (hS.trans hbw) (fun hS => ?_)
          clear hK K
          clear hbw
          refine wpAnyH_ready (rs := [5]) (by kernel_rfl) (by simp) ?_
          refine AllReadyH.cons rfl (fun K hK => ?_) ?_
          go_simp
          go_wp2_with (go_at_call 18; (with_reducible refine Calls.mono (SG.out _ _ _ ?_) ?_); exact ⟨by omega, by omega⟩; rintro e1 wd ⟨rfl, hbw⟩)
          replace K23 := Lib.hid (K23.out.bw hbw)
          refine hK.out _ _ (hS.trans hbw) (fun hS => ?_)
          clear hK K
          clear hbw
          refine take1 (i := 6) (some 153) rfl rfl (by kernel_rfl) (by kernel_rfl) (by kernel_rfl) (fun _ _ _ _ h => h) rfl hS ?_
          refine Exists.intro (.int .i64 v0x) ?_
          apply And.intro
          · intro W9 hW9; skip; go_simp; (try go_bits); (try with_reducible rfl); (try trivial)
          simp only [Act.put, List.setIfInBounds_toArray, List.set_cons_zero, List.set_cons_succ]
          refine wpAnyH_ready (rs := [10]) (by kernel_rfl) (by simp) ?_
          refine AllReadyH.cons rfl (fun K hK => ?_) ?_
          go_simp
          go_wp2_with (go_at_call 16; (with_reducible refine Calls.mono (NTL.out _ _ (HLV.out.mono (HW.out.trans hS))) ?_); rintro e1 wd ⟨rfl, hbw⟩)
          replace K23 := Lib.hid (K23.out.bw hbw)
          refine hK.out _ _ (hS.trans hbw) (fun hS => ?_)
          clear hK K
          clear hbw
          refine wpAnyH_ready (rs := [12]) (by kernel_rfl) (by simp) ?_
          refine AllReadyH.cons rfl (fun K hK => ?_) ?_
          go_simp
          go_wp2_with (go_at_call 18; (with_reducible refine Calls.mono (SG.out _ _ _ ?_) ?_); exact ⟨by omega, by omega⟩; rintro e1 wd ⟨rfl, hbw⟩)
          replace K23 := Lib.hid (K23.out.bw hbw)
          refine hK.out _ _ (hS.trans hbw) (fun hS => ?_)
          clear hK K
          clear hbw
          refine take1 (i := 13) (some 160) rfl rfl (by kernel_rfl) (by kernel_rfl) (by kernel_rfl) (fun _ _ _ _ h => h) rfl hS ?_
          refine Exists.intro (.int .i64 v1x) ?_
          apply And.intro
          · intro W9 hW9; skip; go_simp; (try go_bits); (try with_reducible rfl); (try trivial)
          simp only [Act.put, List.setIfInBounds_toArray, List.set_cons_zero, List.set_cons_succ]
          refine wpAnyH_ready (rs := [17]) (by kernel_rfl) (by simp) ?_
          refine AllReadyH.cons rfl (fun K hK => ?_) ?_
          go_simp
          go_wp2_with (go_at_call 16; (with_reducible refine Calls.mono (NTL.out _ _ (HLV.out.mono (HW.out.trans hS))) ?_); rintro e1 wd ⟨rfl, hbw⟩)
          replace K23 := Lib.hid (K23.out.bw hbw)
          refine hK.out _ _ (hS.trans hbw) (fun hS => ?_)
          clear hK K
          clear hbw
          refine wpAnyH_ready (rs := [19]) (by kernel_rfl) (by simp) ?_
          refine AllReadyH.cons rfl (fun K hK => ?_) ?_
          go_simp
          go_wp2_with (go_at_call 18; (with_reducible refine Calls.mono (SG.out _ _ _ ?_) ?_); exact ⟨by omega, by omega⟩; rintro e1 wd ⟨rfl, hbw⟩)
          replace K23 := Lib.hid (K23.out.bw hbw)
          refine hK.out _ _ (hS.trans hbw) (fun hS => ?_)
          clear hK K
          clear hbw
          refine take1 (i := 20) (some 167) rfl rfl (by kernel_rfl) (by kernel_rfl) (by kernel_rfl) (fun _ _ _ _ h => h) rfl hS ?_
          refine Exists.intro (.int .i64 v2x) ?_
          apply And.intro
          · intro W9 hW9; skip; go_simp; (try go_bits); (try with_reducible rfl); (try trivial)
          simp only [Act.put, List.setIfInBounds_toArray, List.set_cons_zero, List.set_cons_succ]
          refine take1 (i := 21) (some 168) rfl rfl (by kernel_rfl) (by kernel_rfl) (by kernel_rfl) (fun _ _ _ _ h => h) rfl hS ?_
          apply Exists.intro
          apply And.intro
          · intro W9 hW9; skip; go_simp; try with_reducible rfl
          simp only [Act.put, List.setIfInBounds_toArray, List.set_cons_zero, List.set_cons_succ]
          refine wpAnyH_ready (rs := [23]) (by kernel_rfl) (by simp) ?_
          refine AllReadyH.cons rfl (fun K hK => ?_) ?_
          rw [if_pos (by rfl)]
          refine wp_store_row0 32 _ _ rfl rfl g23 #[.int .i64 v0x, .int .i64 v1x, .int .i64 v2x] rfl rfl 32 #[.int .i64 0, .int .i64 0, .int .i64 0] K23.out (by kernel_rfl) rfl (by simp [Value.oneCell']) ?_
          replace K23 := Lib.hid (K23.out.row #[.int .i64 v0x, .int .i64 v1x, .int .i64 v2x])
          have hS9 := Bw.setRow hS HG23.out #[.int .i64 v0x, .int .i64 v1x, .int .i64 v2x]
          clear hS
          refine hK.out _ _ hS9 (fun hS => ?_)
          clear hK K
          clear hS9
          refine wpAnyH_done (by kernel_rfl) ?_ _
          rotate_left
          exact AllReadyH.nil
          exact AllReadyH.nil
          exact AllReadyH.nil
          exact AllReadyH.nil
          exact AllReadyH.nil
          exact AllReadyH.nil
          exact AllReadyH.nil
          exact AllReadyH.nil
          all_goals
            go_wp2
            go_meet
            exact ⟨g23, rfl, Lib.hid hS, K23⟩
      case rest =>
        obtain ⟨g23, rfl, hb9, K23⟩ := hcut
        replace HW := Lib.hid (HW.out.trans hb9.out)
        replace K15 := Lib.hid (K15.out.bw hb9.out)
        replace K18 := Lib.hid (K18.out.bw hb9.out)
        clear hb9 du0 du1 du2 K10 ev0 ev1 ev2 hwb0 hwb1 hwb2
        obtain ⟨w1, hw1e⟩ : ∃ w1, w1 = wc := ⟨_, rfl⟩
        subst hw1e
        have c0 := K18.out.cell (show (#[.int .i64 y0, .int .i64 y1, .int .i64 y2] : Array Value)[0]? = some (.int .i64 y0) from rfl)
        have c1 := K18.out.cell (show (#[.int .i64 y0, .int .i64 y1, .int .i64 y2] : Array Value)[1]? = some (.int .i64 y1) from rfl)
        have c2 := K18.out.cell (show (#[.int .i64 y0, .int .i64 y1, .int .i64 y2] : Array Value)[2]? = some (.int .i64 y2) from rfl)
        have d0 := K23.out.cell (show (#[.int .i64 v0x, .int .i64 v1x, .int .i64 v2x] : Array Value)[0]? = some (.int .i64 v0x) from rfl)
        have d1 := K23.out.cell (show (#[.int .i64 v0x, .int .i64 v1x, .int .i64 v2x] : Array Value)[1]? = some (.int .i64 v1x) from rfl)
        have d2 := K23.out.cell (show (#[.int .i64 v0x, .int .i64 v1x, .int .i64 v2x] : Array Value)[2]? = some (.int .i64 v2x) from rfl)
        obtain ⟨hx0, hx1, hx2⟩ := HXX.out
        have hxb0 : -1030000000 ≤ x0 ∧ x0 ≤ 1030000000 := by omega
        have hxb1 : -1030000000 ≤ x1 ∧ x1 ≤ 1030000000 := by omega
        have hxb2 : -1030000000 ≤ x2 ∧ x2 ≤ 1030000000 := by omega
        have hwx0 : IntKind.i64.wrap x0 = x0 := by rw [IntKind.wrap_i64]; omega
        have hwx1 : IntKind.i64.wrap x1 = x1 := by rw [IntKind.wrap_i64]; omega
        have hwx2 : IntKind.i64.wrap x2 = x2 := by rw [IntKind.wrap_i64]; omega
        go_upto_region 20 with fail
        have kc0 := fun p : Ext w1 => Ext.cell' c0 p
        have kc1 := fun p : Ext w1 => Ext.cell' c1 p
        have kc2 := fun p : Ext w1 => Ext.cell' c2 p
        have kd0 := fun p : Ext w1 => Ext.cell' d0 p
        have kd1 := fun p : Ext w1 => Ext.cell' d1 p
        have kd2 := fun p : Ext w1 => Ext.cell' d2 p
        (refine wp_region_quiet_ext (by kernel_rfl) (by kernel_rfl) ?_; (repeat (go_big_quiet_step ((fail)))); refine wpQuiet_nil ?_; rintro wq ⟨⟨_, hbq⟩, rfl⟩; obtain ⟨hccq, hffq⟩ := Bw.cells hbq; have hszq := Bw.size hbq)
        replace d0 := hbq.cell' d0
        replace d1 := hbq.cell' d1
        replace d2 := hbq.cell' d2
        replace HW := Lib.hid (HW.out.trans hbq)
        replace K15 := Lib.hid (K15.out.bw hbq)
        clear kc0 kc1 kc2 kd0 kd1 kd2 c0 c1 c2 hbq hccq hffq hszq K18 K23 hx0 hx1 hx2 hwx0 hwx1 hwx2
        have ms0 := mul_bd40 hxb0 hv0b
        have ms1 := mul_bd40 hxb1 hv1b
        have ms2 := mul_bd40 hxb2 hv2b
        have mf0 := mul_bd40 hxb0 hxb0
        have mf1 := mul_bd40 hxb1 hxb1
        have mf2 := mul_bd40 hxb2 hxb2
        obtain ⟨f1, f2, f3, f4⟩ := FF.out
        obtain ⟨p0, ep0⟩ : ∃ z, x0 * v0x = z := ⟨_, rfl⟩
        obtain ⟨p1, ep1⟩ : ∃ z, x1 * v1x = z := ⟨_, rfl⟩
        obtain ⟨p2, ep2⟩ : ∃ z, x2 * v2x = z := ⟨_, rfl⟩
        obtain ⟨z0, ez0⟩ : ∃ z, x0 * x0 = z := ⟨_, rfl⟩
        obtain ⟨z1, ez1⟩ : ∃ z, x1 * x1 = z := ⟨_, rfl⟩
        obtain ⟨z2, ez2⟩ : ∃ z, x2 * x2 = z := ⟨_, rfl⟩
        rw [ep0] at ms0 f1 f2
        rw [ep1] at ms1 f1 f2
        rw [ep2] at ms2 f1 f2
        rw [ez0] at mf0 f3 f4
        rw [ez1] at mf1 f3 f4
        rw [ez2] at mf2 f3 f4
        have hwp0 : IntKind.i64.wrap p0 = p0 := by rw [IntKind.wrap_i64]; omega
        have hwp1 : IntKind.i64.wrap p1 = p1 := by rw [IntKind.wrap_i64]; omega
        have hwp2 : IntKind.i64.wrap p2 = p2 := by rw [IntKind.wrap_i64]; omega
        have hwz0 : IntKind.i64.wrap z0 = z0 := by rw [IntKind.wrap_i64]; omega
        have hwz1 : IntKind.i64.wrap z1 = z1 := by rw [IntKind.wrap_i64]; omega
        have hwz2 : IntKind.i64.wrap z2 = z2 := by rw [IntKind.wrap_i64]; omega
        have hwpa : IntKind.i64.wrap (p0 + p1) = p0 + p1 := by rw [IntKind.wrap_i64]; omega
        have hwpb : IntKind.i64.wrap (p0 + p1 + p2) = p0 + p1 + p2 := by rw [IntKind.wrap_i64]; omega
        have hwza : IntKind.i64.wrap (z0 + z1) = z0 + z1 := by rw [IntKind.wrap_i64]; omega
        have hwzb : IntKind.i64.wrap (z0 + z1 + z2) = z0 + z1 + z2 := by rw [IntKind.wrap_i64]; omega
        go_upto_region 22 with fail
        have hfb : 0 ≤ z0 + z1 + z2 ∧ z0 + z1 + z2 ≤ 4000000000000000000 := by have := sq_nn x0; have := sq_nn x1; have := sq_nn x2; omega
        generalize p0 + p1 + p2 = side at *
        generalize z0 + z1 + z2 = far at *
        clear ep0 ep1 ep2 ez0 ez1 ez2 hwp0 hwp1 hwp2 hwz0 hwz1 hwz2 hwpa hwpb hwza hwzb ms0 ms1 ms2 mf0 mf1 mf2 d0 d1 d2
        have g1 := K15.out.cell (show (#[.int .i64 a0, .int .i64 a1, .int .i64 a2, .int .i64 a3, .int .i64 a4, .int .i64 a5] : Array Value)[1]? = some (.int .i64 a1) from rfl)
        have g2 := K15.out.cell (show (#[.int .i64 a0, .int .i64 a1, .int .i64 a2, .int .i64 a3, .int .i64 a4, .int .i64 a5] : Array Value)[2]? = some (.int .i64 a2) from rfl)
        have g3 := K15.out.cell (show (#[.int .i64 a0, .int .i64 a1, .int .i64 a2, .int .i64 a3, .int .i64 a4, .int .i64 a5] : Array Value)[3]? = some (.int .i64 a3) from rfl)
        have ma2 := mulB (a := a2) (b := a2) (A := 2000000000) (B := 2000000000) (by omega) (by omega)
        have ma3 := mulB (a := a3) (b := a3) (A := 2000000000) (B := 2000000000) (by omega) (by omega)
        have hwa2 : IntKind.i64.wrap (a2 * a2) = a2 * a2 := by rw [IntKind.wrap_i64]; omega
        have hwa3 : IntKind.i64.wrap (a3 * a3) = a3 * a3 := by rw [IntKind.wrap_i64]; omega
        have nf3 : ¬ far < a2 * a2 := by omega
        have nf4 : ¬ a3 * a3 < far := by omega
        obtain ⟨wr9, hwr9⟩ : ∃ wr9, wr9 = wq := ⟨_, rfl⟩
        subst hwr9
        go_cut [242] from 209 (fun s242 wc => s242 = .bool false ∧ wc = wr9)
        case first =>
          by_cases h1 : a1 = 1
          · have k1 := f1 h1
            have k2 : ¬ side ≤ 0 := by omega
            have k3 : (a1 == 1) = true := by simpa using h1
            have k4 : (a1 == -1) = false := by simp; omega
            clear f1 f2 h1 k1
            go_wp2
            go_meet
            exact ⟨rfl, rfl⟩
          · have k3 : (a1 == 1) = false := by simpa using h1
            by_cases h2 : a1 = -1
            · have k1 := f2 h2
              have k2 : ¬ 0 ≤ side := by omega
              have k4 : (a1 == -1) = true := by simpa using h2
              clear f1 f2 h1 h2 k1
              go_wp2
              go_meet
              exact ⟨rfl, rfl⟩
            · have k4 : (a1 == -1) = false := by simpa using h2
              clear f1 f2 h1 h2
              go_wp2
              go_meet
              exact ⟨rfl, rfl⟩
        case rest =>
          obtain ⟨rfl, rfl⟩ := hcut
          clear f1 f2 nf3 nf4 hwa2 hwa3 ma2 ma3 f3 f4
          obtain ⟨ta0, ta1, ta2⟩ := tf4
          obtain ⟨wx, hwx⟩ : ∃ wx, wx = wc := ⟨_, rfl⟩
          subst hwx
          go_wp2_with fail
          go_loopw [29, 30] (fun s29 s30 wr => ∃ len st : Int, a2 ≤ len ∧ len ≤ a3 ∧ 0 ≤ st ∧ st ≤ 2147483648 ∧ s29 = .int .i64 len ∧ s30 = .int .i64 st ∧ wr = wx) (fun _ s30 _ => (intOf s30).toNat)
          case atStart => exact ⟨a2, 2147483648, by omega, by omega, by omega, by omega, rfl, rfl, rfl⟩
          case round =>
            obtain ⟨len, st, h1, h2, h3, h4, rfl, rfl, rfl⟩ := hrel
            by_cases hst : 0 < st
            · have hqd : st.tdiv 2 = st / 2 := Int.tdiv_eq_ediv_of_nonneg h3
              have hwl : IntKind.i64.wrap (len + st) = len + st := by rw [IntKind.wrap_i64]; omega
              by_cases hc : len + st ≤ a3
              · have hmm := mulB (a := len + st) (b := len + st) (A := 2000000000) (B := 2000000000) (by omega) (by omega)
                have hwm : IntKind.i64.wrap ((len + st) * (len + st)) = (len + st) * (len + st) := by rw [IntKind.wrap_i64]; omega
                by_cases hd : (len + st) * (len + st) ≤ far
                · go_wp2
                  go_roundw
                  case rel => exact ⟨len + st, st / 2, by omega, by omega, by omega, by omega, by go_num, by go_num, by trivial⟩
                  case measure => simp [intOf]; omega
                · go_wp2
                  go_roundw
                  case rel => exact ⟨len, st / 2, by omega, by omega, by omega, by omega, rfl, by go_num, by trivial⟩
                  case measure => simp [intOf]; omega
              · go_wp2
                go_roundw
                case rel => exact ⟨len, st / 2, by omega, by omega, by omega, by omega, rfl, by go_num, by trivial⟩
                case measure => simp [intOf]; omega
            · obtain rfl : st = 0 := by omega
              obtain ⟨l1, l2, l3, l4⟩ := LGF.out len (sgW (nth ls 7) c) h1 h2 bc7
              have mD := mul_bd40 (a := (len + sgW (nth ls 7) c) * 1000) (b := m) (A := 3000000000000) (B := 8192) (by omega) (by omega)
              have hwd1 : IntKind.i64.wrap (len + sgW (nth ls 7) c) = len + sgW (nth ls 7) c := by rw [IntKind.wrap_i64]; omega
              have hwd2 : IntKind.i64.wrap ((len + sgW (nth ls 7) c) * 1000) = (len + sgW (nth ls 7) c) * 1000 := by rw [IntKind.wrap_i64]; omega
              have hwd3 : IntKind.i64.wrap ((len + sgW (nth ls 7) c) * 1000 * m) = (len + sgW (nth ls 7) c) * 1000 * m := by rw [IntKind.wrap_i64]; omega
              obtain ⟨w1, hw1e⟩ : ∃ w1, w1 = wr := ⟨_, rfl⟩
              subst hw1e
              clear g1 g2 g3
              go_upto_region 31 with (first | (go_at_call 16; (with_reducible refine Calls.mono (NTL.out _ _ (HLV.out.mono HW.out)) ?_); rintro e1 w1 ⟨rfl, hb1⟩; replace K15 := Lib.hid (K15.out.bw hb1); replace HW := Lib.hid (HW.out.trans hb1); clear hb1) | (go_at_call 15; (with_reducible refine Calls.mono (BE.out _ _ _ ?_) ?_); exact ⟨by omega, by omega⟩; rintro e1 w1 ⟨rfl, hb1⟩; replace K15 := Lib.hid (K15.out.bw hb1); replace HW := Lib.hid (HW.out.trans hb1); clear hb1) | (go_at_call 18; (with_reducible refine Calls.mono (SG.out _ _ _ ?_) ?_); exact ⟨by omega, by omega⟩; rintro e1 w1 ⟨rfl, hb1⟩; replace K15 := Lib.hid (K15.out.bw hb1); replace HW := Lib.hid (HW.out.trans hb1); clear hb1))
              clear hwd1 hwd2 hwd3
              obtain ⟨D, hD⟩ : ∃ D, (len + sgW (nth ls 7) c) * 1000 * m = D := ⟨_, rfl⟩
              rw [hD] at mD l3 l4
              (try rw [hD])
              clear hD
              obtain ⟨q1, m1, t1, t2, t3, t4⟩ := dn_way D 299792458 (by decide)
              have BLW := Lib.hid (fun W => Below_any (D / 299792458) m W (by omega) (by omega))
              have hbl : bel (D / 299792458) m = D / 299792458 % m := by unfold bel; rw [if_neg (by omega)]
              rw [hbl] at BLW
              have FIT := Lib.hid (fun W => Fits_ok a0 a1 a2 a3 a4 a5 (D / 299792458 % m) m W (by omega) l1 l2 l3)
              rw [decide_eq_true l4] at FIT
              have hqb : -4000000000000000000 ≤ q1 ∧ q1 ≤ 4000000000000000000 := by unfold szW at t4; omega
              clear hbl l4 t4 LGF
              generalize D / 299792458 % m = lg at *
              rcases t3 with ⟨t5, t6⟩ | ⟨t5, t6⟩
              · have hmn : ¬ m1 < 0 := by omega
                rw [t6] at BLW
                clear t5 t6
                go_upto_region 34 with fail
                refine wp_region_quiet_ext (by kernel_rfl) (by kernel_rfl) ?_
                go_big_quiet_want
                refine quiet_load (.agg #[.int .i64 a0, .int .i64 a1, .int .i64 a2, .int .i64 a3, .int .i64 a4, .int .i64 a5]) (some 286) rfl (fun W hW => ?_) ?_
                · obtain ⟨p, rfl⟩ := hW
                  exact run_load_row 23 _ rfl g15 rfl 23 #[.int .i64 a0, .int .i64 a1, .int .i64 a2, .int .i64 a3, .int .i64 a4, .int .i64 a5] _ (K15.out.bw p.b) Tryd.underlying23 rfl (by kernel_rfl)
                simp only [Act.put, List.setIfInBounds_toArray, List.set_cons_zero, List.set_cons_succ]
                go_big_quiet_on
                (repeat (go_big_quiet_step (first | (go_at_call 15; with_reducible exact Calls.ext_of (BLW.out _)) | (go_at_call 11; with_reducible exact Calls.ext_of (FIT.out _)))))
                refine wpQuiet_nil ?_
                rintro wv ⟨⟨_, hbq⟩, rfl⟩
                replace HW := Lib.hid (HW.out.trans hbq)
                clear hbq
                go_wp2_with (go_at_call 14; (with_reducible refine Calls.mono (AW.out _ (HWD.out.bw HW.out)) ?_); rintro e1 w1 ⟨rfl, hb1⟩)
                go_ret
                exact ⟨rfl, by rw [HE1.out]; exact HW.out.trans hb1⟩
              · rw [t6] at BLW
                clear t6
                go_upto_region 34 with fail
                refine wp_region_quiet_ext (by kernel_rfl) (by kernel_rfl) ?_
                go_big_quiet_want
                refine quiet_load (.agg #[.int .i64 a0, .int .i64 a1, .int .i64 a2, .int .i64 a3, .int .i64 a4, .int .i64 a5]) (some 286) rfl (fun W hW => ?_) ?_
                · obtain ⟨p, rfl⟩ := hW
                  exact run_load_row 23 _ rfl g15 rfl 23 #[.int .i64 a0, .int .i64 a1, .int .i64 a2, .int .i64 a3, .int .i64 a4, .int .i64 a5] _ (K15.out.bw p.b) Tryd.underlying23 rfl (by kernel_rfl)
                simp only [Act.put, List.setIfInBounds_toArray, List.set_cons_zero, List.set_cons_succ]
                go_big_quiet_on
                (repeat (go_big_quiet_step (first | (go_at_call 15; with_reducible exact Calls.ext_of (BLW.out _)) | (go_at_call 11; with_reducible exact Calls.ext_of (FIT.out _)))))
                refine wpQuiet_nil ?_
                rintro wv ⟨⟨_, hbq⟩, rfl⟩
                replace HW := Lib.hid (HW.out.trans hbq)
                clear hbq
                go_wp2_with (go_at_call 14; (with_reducible refine Calls.mono (AW.out _ (HWD.out.bw HW.out)) ?_); rintro e1 w1 ⟨rfl, hb1⟩)
                go_ret
                exact ⟨rfl, by rw [HE1.out]; exact HW.out.trans hb1⟩
end Go.Proofs.Sky
