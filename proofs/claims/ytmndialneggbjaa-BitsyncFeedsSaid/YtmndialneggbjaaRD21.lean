/-
  lemmas for the theorems of this claim. No conditions beyond those written in the statements.
-/
import Derived.Test.YtmndialneggbjaaRC21
import Derived.Deep.CutRange
set_option linter.unusedVariables false
set_option linter.unusedSimpArgs false
set_option linter.unnecessarySimpa false
namespace Go.Proofs.Sky
open Go Go.RowKit Go.Shelf
set_option maxHeartbeats 4000000
set_option maxRecDepth 4000
def bothZ (a b : Int) : Bool := decide (a = 0 ∧ b = 0)
theorem run_eql_sam (w : World) (a b : Int) (h : bothZ a b = false) : (Go.binOp .eql 34 (.agg #[.int .i64 a, .int .i64 b]) (.agg #[.int .i64 0, .int .i64 0])).run Try.prog w = .ok (.bool false) w := by
  rw [run_eql_struct, run_equalIn_agg w 9999 34 _ _ (by kernel_rfl) (by kernel_rfl)]
  have h : ¬ (a = 0 ∧ b = 0) := by unfold bothZ at h; exact of_decide_eq_false h
  by_cases h1 : a = 0
  · have h2 : ¬ b = 0 := fun h2 => h ⟨h1, h2⟩
    go_simp
  · go_simp
theorem run_eql_sam0 (w : World) : (Go.binOp .eql 34 (.agg #[.int .i64 0, .int .i64 0]) (.agg #[.int .i64 0, .int .i64 0])).run Try.prog w = .ok (.bool true) w := by
  rw [run_eql_struct, run_equalIn_agg w 9999 34 _ _ (by kernel_rfl) (by kernel_rfl)]
  go_simp
theorem getD_mapr (N : Nat) (f : Nat → Int) (i : Nat) (h : i < N) : ((List.range N).map f).getD i 0 = f i := by
  rw [List.getD_eq_getElem?_getD, List.getElem?_map, List.getElem?_range h]; rfl
theorem feed_of {ch : List Int} {l : List (Int × Int)} {ch' : List Int} {s' x' y' er : Int} (hf : feedR ch 0 (0, 0) l = ((ch', s', (x', y')), er)) : ∀ (W : World) (V vl : Value), RdI W V ch → RdS W vl l → Calls Try.prog 18 #[.agg #[V, .int .i64 0, .int .i64 0, .int .i64 0], vl] W fun e w' => (∃ v', e = .returned (.tuple #[.agg #[v', .int .i64 s', .int .i64 x', .int .i64 y'], .int .i64 er]) ∧ RdI w' v' ch' ∧ Fresh W.heap.size v') ∧ Bw W w' := by
  intro W V vl h1 h2
  have h := Feed_any ch V 0 0 0 l vl W h1 h2
  rw [hf] at h
  unfold SyP at h
  exact h
theorem edge_of {ch : List Int} {s x y least : Int} {r : Int × Int} (hf : edgeR ch s (x, y) least = r) : ∀ (W : World) (V : Value), RdI W V ch → Calls Try.prog 17 #[.agg #[V, .int .i64 s, .int .i64 x, .int .i64 y], .int .i64 least] W fun e w' => e = .returned (.tuple #[.int .i64 r.1, .int .i64 r.2]) ∧ Bw W w' := by
  intro W V h1
  have h := Edge_any ch V s x y least W h1
  rw [hf] at h
  unfold EdP at h
  exact h
theorem read_of {l : List (Int × Int)} {p t : Int} {r : List Int} {er : Int} (hf : readR l p t = (r, er)) : ∀ (W : World) (vl : Value), RdS W vl l → Capd vl → Calls Try.prog 12 #[vl, .int .i64 p, .int .i64 t] W fun e w' => (∃ v', e = .returned (.tuple #[v', .int .i64 er]) ∧ RdI w' v' r ∧ Fresh W.heap.size v') ∧ Bw W w' := by
  intro W vl h1 h2
  have h := Read_all l vl p t W h1 h2
  rw [hf] at h
  unfold ReP at h
  exact h
attribute [-go_sem] run_max_int2 run_eql_struct
attribute [local go_sem] run_mx2 run_mx4 run_eql_sam run_eql_sam0
theorem right_main (m t nb ne : Nat) (I Q : Int) (p0 t0 c0 : Int) (hm : bel p0 8 = (m : Int)) (ht : bel t0 (1 + (m : Int)) = (t : Int)) (hI : bel c0 2001 = 1000 + I) (hQ : bel (wrap64 (c0.tdiv 2001)) 2001 = 1000 + Q) (zs es : List Int) (hnb : zs.length = nb) (hne : es.length = ne) (v3 v4 : Value) (w : World) (hv3 : RdI w v3 zs) (hv4 : RdI w v4 es) (hl1 : 1 ≤ nb) (hl2 : nb ≤ 12) (hl3 : ne ≤ 100) :
    Calls Try.prog 7 #[.int .i64 p0, .int .i64 t0, .int .i64 c0, v3, v4] w fun r w' => r = .returned (.bool true) ∧ Bw w w' := by
  have HV3 := Lib.hid hv3
  have HV4 := Lib.hid hv4
  obtain ⟨ad3, cap3, rfl⟩ := hv3.form
  obtain ⟨ad4, cap4, rfl⟩ := hv4.form
  clear hv3 hv4
  rw [hnb] at HV3 ⊢
  rw [hne] at HV4 ⊢
  have HNB := Lib.hid hnb
  have HNE := Lib.hid hne
  have hm2 := bel_bd p0 8 (by omega)
  rw [hm] at hm2
  have ht2 := bel_bd t0 (1 + (m : Int)) (by omega)
  rw [ht] at ht2
  have hI2 := bel_bd c0 2001 (by omega)
  rw [hI] at hI2
  have hQ2 := bel_bd (wrap64 (c0.tdiv 2001)) 2001 (by omega)
  rw [hQ] at hQ2
  have TU1 := Lib.hid (fun W => Turn_any p0 8 W (by omega) (by omega))
  rw [hm] at TU1
  have TU2 := Lib.hid (fun W => Turn_any t0 (1 + (m : Int)) W (by omega) (by omega))
  rw [ht] at TU2
  have TU3 := Lib.hid (fun W => Turn_any c0 2001 W (by omega) (by omega))
  rw [hI] at TU3
  have TU4 := Lib.hid (fun W => Turn_any (wrap64 (c0.tdiv 2001)) 2001 W (by omega) (by omega))
  rw [hQ] at TU4
  clear hm ht hI hQ hnb hne
  obtain ⟨n, hn⟩ : ∃ n, n = m + 1 := ⟨_, rfl⟩
  have hnz : (n : Int) = 1 + (m : Int) := by omega
  have NW := Lib.hid (fun W => by have h := New_ok n W (by omega) (by omega); rw [hnz] at h; unfold SyP at h; exact h)
  have HNZ := Lib.hid hnz
  have HM := Lib.hid hn
  clear hnz hn
  have hg1 : ¬ (12 : Int) < nb := by omega
  have hg2 : ¬ (nb : Int) < 1 := by omega
  have hg3 : ¬ (100 : Int) < ne := by omega
  have HBW := Lib.hid (Bw.refl w)
  go_enter Try.func7, Try.ntmps7
  go_upto_region 7 with (first | (go_at_call 4; (with_reducible refine Calls.mono (law_known _) ?_); rintro e1 u1 ⟨rfl, hb1⟩; replace HBW := Lib.hid (HBW.out.trans hb1); clear hb1) | (go_at_call 21; (with_reducible refine Calls.mono (TU1.out _) ?_); rintro e1 u2 ⟨rfl, hb2⟩; replace HBW := Lib.hid (HBW.out.trans hb2); clear hb2 TU1) | (go_at_call 21; (with_reducible refine Calls.mono (TU2.out _) ?_); rintro e1 u3 ⟨rfl, hb2⟩; replace HBW := Lib.hid (HBW.out.trans hb2); clear hb2 TU2) | (go_at_call 21; (with_reducible refine Calls.mono (TU3.out _) ?_); rintro e1 u4 ⟨rfl, hb2⟩; replace HBW := Lib.hid (HBW.out.trans hb2); clear hb2 TU3) | (go_at_call 21; (with_reducible refine Calls.mono (TU4.out _) ?_); rintro e1 u5 ⟨rfl, hb2⟩; replace HBW := Lib.hid (HBW.out.trans hb2); clear hb2 TU4))
  rw [show (1000 : Int) + I - 1000 = I by omega, show (1000 : Int) + Q - 1000 = Q by omega]
  have BXW := Lib.hid (Blk.new u5 34 #[.int .i64 I, .int .i64 Q])
  have hba := Bw.alloc (Bw.refl u5) (.cells #[.int .i64 I, .int .i64 Q] 34)
  replace HBW := Lib.hid (HBW.out.trans hba)
  obtain ⟨g1, hg1⟩ : ∃ g1, u5.heap.size = g1 := ⟨_, rfl⟩
  rw [hg1] at BXW ⊢
  clear hg1 hba
  generalize u5.alloc _ = u6 at BXW HBW  ⊢
  have j0 : u6.cell? ⟨g1, 0, none⟩ = some (.int .i64 I) := BXW.out.cell rfl
  have j1 : u6.cell? ⟨g1, 1, none⟩ = some (.int .i64 Q) := BXW.out.cell rfl
  have hzj := lt_of_cell j0
  obtain ⟨M, hM⟩ : ∃ M, mx4 I (-I) Q (-Q) = M := ⟨_, rfl⟩
  have hmx : 0 ≤ M ∧ M ≤ 1000 := by have := mx4_abs I Q; omega
  go_upto_region 8 with fail
  obtain ⟨R, hR⟩ : ∃ R, M / 4 = R := ⟨_, rfl⟩
  rw [hR]
  have hR2 : 0 ≤ R ∧ R ≤ 250 := by omega
  have HR := Lib.hid (show R = mx4 I (-I) Q (-Q) / 4 by rw [hM, hR])
  clear hM hmx hR
  by_cases hz : I = 0 ∧ Q = 0
  · obtain ⟨rfl, rfl⟩ := hz
    go_wp2
    go_ret
    exact ⟨rfl, HBW.out⟩
  have hn2 : 1 ≤ n ∧ n ≤ 8 := by have := HM.out; omega
  obtain ⟨x1, y1, hfeed, hedge, hread, hN110, hpN⟩ := right_plain zs es n t nb hn2.1 hn2.2 (by have := HM.out; omega) hl1 hl2 I Q (by omega) (by omega) hz R HR.out
  have hBT := Lib.hid (bt_01 zs)
  obtain ⟨f, hf⟩ : ∃ f, f = allB zs n t := ⟨_, rfl⟩
  obtain ⟨g, hg⟩ : ∃ g, g = sumK I Q R zs es n t := ⟨_, rfl⟩
  have HF01 := Lib.hid (show ∀ k, f k = 0 ∨ f k = 1 by rw [hf]; exact allB_01 zs n t)
  have HFA := Lib.hid (show ∀ k, t ≤ k → f k = bt zs ((k - t) / n) from fun k h => by rw [hf]; unfold allB; rw [if_pos h])
  have HFB := Lib.hid (show ∀ k, ¬ t ≤ k → f k = 1 - bt zs 0 from fun k h => by rw [hf]; unfold allB; rw [if_neg h])
  have HGE := Lib.hid (show ∀ k, k < ne → g k = ((1 - 2 * f k) * I + (bel (es.getD k 0) (2 * R + 1) - R), (1 - 2 * f k) * Q + (bel (wrap64 ((es.getD k 0).tdiv 7)) (2 * lefts R es k + 1) - lefts R es k)) from fun k h => by
    rw [hg, hf]; unfold sumK errX errY; rw [HNE.out, if_pos h, if_pos h])
  have HGN := Lib.hid (show ∀ k, ¬ k < ne → g k = ((1 - 2 * f k) * I, (1 - 2 * f k) * Q) from fun k h => by
    rw [hg, hf]; unfold sumK errX errY; rw [HNE.out, if_neg h, if_neg h, Int.add_zero, Int.add_zero])
  have hbz : bothZ I Q = false := decide_eq_false hz
  clear hz
  rw [← hf] at hfeed hedge
  rw [← hg] at hfeed hread
  clear hf hg
  obtain ⟨pn, hpn⟩ : ∃ pn, pn = n * nb := ⟨_, rfl⟩
  have hpz : (1 + (m : Int)) * (nb : Int) = (pn : Int) := by rw [hpn, Int.natCast_mul, HNZ.out]
  rw [← hpn] at hfeed hedge hread hN110 hpN
  have hpn1 : pn ≤ 96 := by have := Nat.mul_le_mul hn2.2 hl2; omega
  have HPN := Lib.hid hpn
  clear hpn
  obtain ⟨N, hNN⟩ : ∃ N, N = t + pn := ⟨_, rfl⟩
  have hNz : (t : Int) + (pn : Int) = (N : Int) := by omega
  rw [← hNN] at hfeed hedge hread hN110 hpN
  clear hNN
  obtain ⟨cnt, hcnt⟩ : ∃ cnt, cnt = cntA f N := ⟨_, rfl⟩
  have hcl := cntA_le f N
  rw [← hcnt] at hfeed hedge hcl
  have HCNT := Lib.hid hcnt
  have HCL := Lib.hid hcl
  clear hcnt hcl
  obtain ⟨C0, hC0⟩ : ∃ C0, C0 = List.replicate n (0 : Int) := ⟨_, rfl⟩
  rw [← hC0] at hfeed hedge NW
  obtain ⟨C1, hC1⟩ : ∃ C1, C1 = C0.set t (cnt : Int) := ⟨_, rfl⟩
  rw [← hC1] at hfeed hedge
  have HC0 := Lib.hid hC0
  have HC1 := Lib.hid hC1
  clear hC0 hC1
  have FD := Lib.hid (feed_of hfeed)
  have ED := Lib.hid (edge_of hedge)
  have RDc := Lib.hid (read_of hread)
  rw [HNZ.out] at RDc
  clear hfeed hedge hread
  have TZ := Lib.hid (show ∀ (W : World) (j : Nat), Calls Try.prog 21 #[.int .i64 (zs.getD j 0), .int .i64 2] W fun e w' => e = .returned (.int .i64 (bt zs j)) ∧ Bw W w' from fun W j => Turn_any (zs.getD j 0) 2 W (by omega) (by omega))
  have SZ := Lib.hid (HV3.out.mono HBW.out)
  have SE := Lib.hid (HV4.out.mono HBW.out)
  obtain ⟨b3, o3, cc3, hv1, hb1, hd3⟩ := SZ.out.at (by have := HNB.out; omega)
  injection hv1 with i1 i2 i3; subst i1; clear i2 i3 hb1
  have HZ := Lib.hid (show ∀ i, i < nb → u6.cell? ⟨b3, o3 + i, none⟩ = some (.int .i64 (zs.getD i 0)) from fun i h => hd3 i (by rw [HNB.out]; exact h))
  clear hd3 HV3 HV4
  obtain ⟨BB, hBB⟩ : ∃ BB, u6.heap.size = BB := ⟨_, rfl⟩
  have HB := Lib.hid hBB
  clear hBB
  go_wp2
  have J0 := Lib.hid j0
  have J1 := Lib.hid j1
  clear j0 j1
  go_loopg [14, 15, 16] 110 (fun gg s14 s15 s16 wr => ∃ k : Nat, k ≤ N ∧ N - k ≤ gg ∧ s16 = .int .i64 k ∧ Hid (Bw u6 wr) ∧ Hid (wr.ownsRow BB 34 2 s14 ((List.range k).map g).length (flat ((List.range k).map g))) ∧ Hid (wr.ownsRow BB 3 1 s15 ((List.range k).map f).length (((List.range k).map f).map (Value.int .i64))))
  case atStart => exact ⟨0, Nat.zero_le _, by omega, rfl, Lib.hid (Bw.refl _), Lib.hid (World.ownsRow_nil _ _ _ _), Lib.hid (World.ownsRow_nil _ _ _ _)⟩
  case round =>
    obtain ⟨k, hk, hgg, rfl, HW, O1, O2⟩ := hrel
    by_cases hlt : k < N
    · have hkz : (k : Int) < N := by omega
      have hTK : ∀ (α : Type) (g : Nat → α), (List.range (k + 1)).map g = (List.range k).map g ++ [g k] := fun α g => by
        rw [List.range_succ, List.map_append]; rfl
      have HLN1 := Lib.hid (show ((List.range k).map g).length = k by rw [List.length_map, List.length_range])
      have HLN2 := Lib.hid (show ((List.range k).map f).length = k by rw [List.length_map, List.length_range])
      by_cases hA : t ≤ k
      · by_cases hE : k < ne
        · as_aux_lemma =>
            have hkt : (t : Int) ≤ k := by omega
            obtain ⟨j, hj⟩ : ∃ j, j = (k - t) / n := ⟨_, rfl⟩
            have hq2 : ((k : Int) - t) / (1 + (m : Int)) = (j : Int) := by rw [hj, Int.natCast_ediv, Int.ofNat_sub (by omega), HNZ.out]
            have hjn : j < nb := by rw [hj]; exact Nat.div_lt_of_lt_mul (by have := HPN.out; omega)
            have hfk := HFA.out k (by omega)
            rw [← hj] at hfk
            have TJ := Lib.hid (fun W => TZ.out W j)
            have kj := HW.out.cell' (HZ.out j hjn)
            have hb0 := hBT.out j
            generalize zs.getD j 0 = zj at TJ kj
            generalize bt zs j = b at TJ hfk hb0
            clear hj
            have T0 := Lib.hid (fun W => TZ.out W 0)
            have kz := HW.out.cell' (HZ.out 0 (by omega))
            rw [Nat.add_zero] at kz
            have hb00 := hBT.out 0
            generalize zs.getD 0 0 = z0 at T0 kz
            generalize bt zs 0 = B0 at T0 hb00
            have hke : (k : Int) < ne := by omega
            obtain ⟨b4, o4, cc4, hv1, hb1, hd4⟩ := SE.out.at (by have := HNE.out; omega)
            injection hv1 with i1 i2 i3; subst i1; clear i2 i3 hb1
            have ke := HW.out.cell' (hd4 k (by have := HNE.out; omega))
            clear hd4
            have hgk := HGE.out k (by omega)
            unfold lefts at hgk
            have TX := Lib.hid (fun W => Turn_any (es.getD k 0) (2 * R + 1) W (by omega) (by omega))
            have hX := bel_bd (es.getD k 0) (2 * R + 1) (by omega)
            generalize es.getD k 0 = e at *
            generalize bel e (2 * R + 1) = X at *
            have hmx := mx2_abs (X - R)
            obtain ⟨MX, hMX⟩ : ∃ MX, mx2 (X - R) (-(X - R)) = MX := ⟨_, rfl⟩
            rw [hMX] at hmx hgk
            have hmxb : 0 ≤ MX ∧ MX ≤ R := by omega
            have TY := Lib.hid (fun W => Turn_any (wrap64 (e.tdiv 7)) (2 * (R - MX) + 1) W (by omega) (by omega))
            have hY := bel_bd (wrap64 (e.tdiv 7)) (2 * (R - MX) + 1) (by omega)
            generalize bel (wrap64 (e.tdiv 7)) (2 * (R - MX) + 1) = Y at hgk TY hY
            clear hmx
            rw [hfk] at hgk
            have hT2 := hTK Int f
            rw [hfk] at hT2
            have hT1 := hTK (Int × Int) g
            rw [hgk] at hT1
            have HT1 := Lib.hid hT1
            have HT2 := Lib.hid hT2
            clear hT1 hT2 hgk hfk hTK
            have hmI := mul_bd3 (1 - 2 * b) I 1 1000 (by omega) (by omega) (by omega) (by omega)
            have hmQ := mul_bd3 (1 - 2 * b) Q 1 1000 (by omega) (by omega) (by omega) (by omega)
            generalize (List.range k).map g = l1 at O1 HT1 HLN1
            generalize (List.range k).map f = l2 at O2 HT2 HLN2
            have j0 := HW.out.cell' J0.out
            have j1 := HW.out.cell' J1.out
            go_wp2_with (first | (go_at_call 21; (with_reducible refine Calls.mono (T0.out _) ?_); rintro e1 u7 ⟨rfl, hb2⟩; replace j0 := hb2.cell' j0; replace j1 := hb2.cell' j1; replace kj := hb2.cell' kj; replace ke := hb2.cell' ke; replace O1 := Lib.hid (own_bw O1.out hb2); replace O2 := Lib.hid (own_bw O2.out hb2); replace HW := Lib.hid (HW.out.trans hb2); clear hb2 T0 kz) | (go_at_call 21; (with_reducible refine Calls.mono (TJ.out _) ?_); rintro e1 u8 ⟨rfl, hb2⟩; replace j0 := hb2.cell' j0; replace j1 := hb2.cell' j1; replace ke := hb2.cell' ke; replace O1 := Lib.hid (own_bw O1.out hb2); replace O2 := Lib.hid (own_bw O2.out hb2); replace HW := Lib.hid (HW.out.trans hb2); clear hb2 TJ kj) | (go_at_call 21; (with_reducible refine Calls.mono (TX.out _) ?_); rintro e1 u9 ⟨rfl, hb2⟩; replace j0 := hb2.cell' j0; replace j1 := hb2.cell' j1; replace ke := hb2.cell' ke; replace O1 := Lib.hid (own_bw O1.out hb2); replace O2 := Lib.hid (own_bw O2.out hb2); replace HW := Lib.hid (HW.out.trans hb2); clear hb2 TX) | (go_at_call 21; (with_reducible refine Calls.mono (TY.out _) ?_); rintro e1 u10 ⟨rfl, hb2⟩; replace j0 := hb2.cell' j0; replace j1 := hb2.cell' j1; replace O1 := Lib.hid (own_bw O1.out hb2); replace O2 := Lib.hid (own_bw O2.out hb2); replace HW := Lib.hid (HW.out.trans hb2); clear hb2 TY ke) | (at_builtin; have hba := Bw.alloc (Bw.refl u10) (.cells #[.int .i64 ((1 - 2 * b) * I + (X - R)), .int .i64 ((1 - 2 * b) * Q + (Y - (R - MX)))] 34); have NB := Lib.hid (Blk.new u10 34 #[.int .i64 ((1 - 2 * b) * I + (X - R)), .int .i64 ((1 - 2 * b) * Q + (Y - (R - MX)))]); replace O1 := Lib.hid (own_bw O1.out hba); replace O2 := Lib.hid (own_bw O2.out hba); replace HW := Lib.hid (HW.out.trans hba); clear hba; refine wpList_append_pair_beside rfl (.tmp 141) (.tmp 155) _ rfl BB 34 Try.underlying22 infoSam _ l1 ((1 - 2 * b) * I + (X - R)) ((1 - 2 * b) * Q + (Y - (R - MX))) rfl O1.out _ rfl (NB.out.cell rfl) (NB.out.cell rfl) (by have := HLN1.out; omega) (by have := HW.out.size; have := HB.out; omega) O2.out (own_apart O1.out O2.out (by decide)) ?_; intro v7 w7 hown hgr hot hap; replace HW := Lib.hid (Bw.grownN HB.out HW.out O1.out hgr); replace O1 := Lib.hid hown; replace O2 := Lib.hid hot; clear hown hgr hot hap NB) | (at_builtin; have hba := Bw.alloc (Bw.refl w7) (.cells #[.int .i64 (b)] 3); have NB := Lib.hid (Blk.new w7 3 #[.int .i64 (b)]); replace O1 := Lib.hid (own_bw O1.out hba); replace O2 := Lib.hid (own_bw O2.out hba); replace HW := Lib.hid (HW.out.trans hba); clear hba; refine wpList_append_int1 rfl (.tmp 157) (.tmp 159) _ rfl BB 3 Try.underlying27 infoInt _ l2 (b) rfl O2.out _ rfl (NB.out.cell rfl) (by have := HLN2.out; omega) (by have := HW.out.size; have := HB.out; omega) ?_; intro v8 w8 hown hgr; replace O1 := Lib.hid (own_other O1.out O2.out (by decide) hgr); replace HW := Lib.hid (Bw.grownN HB.out HW.out O2.out hgr); replace O2 := Lib.hid hown; clear hown hgr NB))
            go_roundg (N - (k + 1))
            case measure => omega
            case rel => exact ⟨k + 1, by omega, by omega, by go_num, HW, Lib.hid (by rw [HT1.out]; exact O1.out), Lib.hid (by rw [HT2.out]; exact O2.out)⟩
        · as_aux_lemma =>
            have hkt : (t : Int) ≤ k := by omega
            obtain ⟨j, hj⟩ : ∃ j, j = (k - t) / n := ⟨_, rfl⟩
            have hq2 : ((k : Int) - t) / (1 + (m : Int)) = (j : Int) := by rw [hj, Int.natCast_ediv, Int.ofNat_sub (by omega), HNZ.out]
            have hjn : j < nb := by rw [hj]; exact Nat.div_lt_of_lt_mul (by have := HPN.out; omega)
            have hfk := HFA.out k (by omega)
            rw [← hj] at hfk
            have TJ := Lib.hid (fun W => TZ.out W j)
            have kj := HW.out.cell' (HZ.out j hjn)
            have hb0 := hBT.out j
            generalize zs.getD j 0 = zj at TJ kj
            generalize bt zs j = b at TJ hfk hb0
            clear hj
            have T0 := Lib.hid (fun W => TZ.out W 0)
            have kz := HW.out.cell' (HZ.out 0 (by omega))
            rw [Nat.add_zero] at kz
            have hb00 := hBT.out 0
            generalize zs.getD 0 0 = z0 at T0 kz
            generalize bt zs 0 = B0 at T0 hb00
            have hke : ¬ (k : Int) < ne := by omega
            have hgk := HGN.out k (by omega)
            rw [hfk] at hgk
            have hT2 := hTK Int f
            rw [hfk] at hT2
            have hT1 := hTK (Int × Int) g
            rw [hgk] at hT1
            have HT1 := Lib.hid hT1
            have HT2 := Lib.hid hT2
            clear hT1 hT2 hgk hfk hTK
            have hmI := mul_bd3 (1 - 2 * b) I 1 1000 (by omega) (by omega) (by omega) (by omega)
            have hmQ := mul_bd3 (1 - 2 * b) Q 1 1000 (by omega) (by omega) (by omega) (by omega)
            generalize (List.range k).map g = l1 at O1 HT1 HLN1
            generalize (List.range k).map f = l2 at O2 HT2 HLN2
            have j0 := HW.out.cell' J0.out
            have j1 := HW.out.cell' J1.out
            go_wp2_with (first | (go_at_call 21; (with_reducible refine Calls.mono (T0.out _) ?_); rintro e1 u7 ⟨rfl, hb2⟩; replace j0 := hb2.cell' j0; replace j1 := hb2.cell' j1; replace kj := hb2.cell' kj; replace O1 := Lib.hid (own_bw O1.out hb2); replace O2 := Lib.hid (own_bw O2.out hb2); replace HW := Lib.hid (HW.out.trans hb2); clear hb2 T0 kz) | (go_at_call 21; (with_reducible refine Calls.mono (TJ.out _) ?_); rintro e1 u8 ⟨rfl, hb2⟩; replace j0 := hb2.cell' j0; replace j1 := hb2.cell' j1; replace O1 := Lib.hid (own_bw O1.out hb2); replace O2 := Lib.hid (own_bw O2.out hb2); replace HW := Lib.hid (HW.out.trans hb2); clear hb2 TJ kj) | (at_builtin; have hba := Bw.alloc (Bw.refl u8) (.cells #[.int .i64 ((1 - 2 * b) * I), .int .i64 ((1 - 2 * b) * Q)] 34); have NB := Lib.hid (Blk.new u8 34 #[.int .i64 ((1 - 2 * b) * I), .int .i64 ((1 - 2 * b) * Q)]); replace O1 := Lib.hid (own_bw O1.out hba); replace O2 := Lib.hid (own_bw O2.out hba); replace HW := Lib.hid (HW.out.trans hba); clear hba; refine wpList_append_pair_beside rfl (.tmp 141) (.tmp 155) _ rfl BB 34 Try.underlying22 infoSam _ l1 ((1 - 2 * b) * I) ((1 - 2 * b) * Q) rfl O1.out _ rfl (NB.out.cell rfl) (NB.out.cell rfl) (by have := HLN1.out; omega) (by have := HW.out.size; have := HB.out; omega) O2.out (own_apart O1.out O2.out (by decide)) ?_; intro v7 w7 hown hgr hot hap; replace HW := Lib.hid (Bw.grownN HB.out HW.out O1.out hgr); replace O1 := Lib.hid hown; replace O2 := Lib.hid hot; clear hown hgr hot hap NB) | (at_builtin; have hba := Bw.alloc (Bw.refl w7) (.cells #[.int .i64 (b)] 3); have NB := Lib.hid (Blk.new w7 3 #[.int .i64 (b)]); replace O1 := Lib.hid (own_bw O1.out hba); replace O2 := Lib.hid (own_bw O2.out hba); replace HW := Lib.hid (HW.out.trans hba); clear hba; refine wpList_append_int1 rfl (.tmp 157) (.tmp 159) _ rfl BB 3 Try.underlying27 infoInt _ l2 (b) rfl O2.out _ rfl (NB.out.cell rfl) (by have := HLN2.out; omega) (by have := HW.out.size; have := HB.out; omega) ?_; intro v8 w8 hown hgr; replace O1 := Lib.hid (own_other O1.out O2.out (by decide) hgr); replace HW := Lib.hid (Bw.grownN HB.out HW.out O2.out hgr); replace O2 := Lib.hid hown; clear hown hgr NB))
            go_roundg (N - (k + 1))
            case measure => omega
            case rel => exact ⟨k + 1, by omega, by omega, by go_num, HW, Lib.hid (by rw [HT1.out]; exact O1.out), Lib.hid (by rw [HT2.out]; exact O2.out)⟩
      · by_cases hE : k < ne
        · as_aux_lemma =>
            have hkt : ¬ (t : Int) ≤ k := by omega
            have hfk := HFB.out k (by omega)
            have T0 := Lib.hid (fun W => TZ.out W 0)
            have kz := HW.out.cell' (HZ.out 0 (by omega))
            rw [Nat.add_zero] at kz
            have hb00 := hBT.out 0
            generalize zs.getD 0 0 = z0 at T0 kz
            generalize bt zs 0 = B0 at T0 hb00 hfk
            obtain ⟨b, hb⟩ : ∃ b, b = 1 - B0 := ⟨_, rfl⟩
            have hb0 : b = 0 ∨ b = 1 := by omega
            have hBb : 1 - B0 = b := hb.symm
            rw [hBb] at hfk
            clear hb
            have hke : (k : Int) < ne := by omega
            obtain ⟨b4, o4, cc4, hv1, hb1, hd4⟩ := SE.out.at (by have := HNE.out; omega)
            injection hv1 with i1 i2 i3; subst i1; clear i2 i3 hb1
            have ke := HW.out.cell' (hd4 k (by have := HNE.out; omega))
            clear hd4
            have hgk := HGE.out k (by omega)
            unfold lefts at hgk
            have TX := Lib.hid (fun W => Turn_any (es.getD k 0) (2 * R + 1) W (by omega) (by omega))
            have hX := bel_bd (es.getD k 0) (2 * R + 1) (by omega)
            generalize es.getD k 0 = e at *
            generalize bel e (2 * R + 1) = X at *
            have hmx := mx2_abs (X - R)
            obtain ⟨MX, hMX⟩ : ∃ MX, mx2 (X - R) (-(X - R)) = MX := ⟨_, rfl⟩
            rw [hMX] at hmx hgk
            have hmxb : 0 ≤ MX ∧ MX ≤ R := by omega
            have TY := Lib.hid (fun W => Turn_any (wrap64 (e.tdiv 7)) (2 * (R - MX) + 1) W (by omega) (by omega))
            have hY := bel_bd (wrap64 (e.tdiv 7)) (2 * (R - MX) + 1) (by omega)
            generalize bel (wrap64 (e.tdiv 7)) (2 * (R - MX) + 1) = Y at hgk TY hY
            clear hmx
            rw [hfk] at hgk
            have hT2 := hTK Int f
            rw [hfk] at hT2
            have hT1 := hTK (Int × Int) g
            rw [hgk] at hT1
            have HT1 := Lib.hid hT1
            have HT2 := Lib.hid hT2
            clear hT1 hT2 hgk hfk hTK
            have hmI := mul_bd3 (1 - 2 * b) I 1 1000 (by omega) (by omega) (by omega) (by omega)
            have hmQ := mul_bd3 (1 - 2 * b) Q 1 1000 (by omega) (by omega) (by omega) (by omega)
            generalize (List.range k).map g = l1 at O1 HT1 HLN1
            generalize (List.range k).map f = l2 at O2 HT2 HLN2
            have j0 := HW.out.cell' J0.out
            have j1 := HW.out.cell' J1.out
            go_wp2_with (first | (go_at_call 21; (with_reducible refine Calls.mono (T0.out _) ?_); rintro e1 u7 ⟨rfl, hb2⟩; replace j0 := hb2.cell' j0; replace j1 := hb2.cell' j1; replace ke := hb2.cell' ke; replace O1 := Lib.hid (own_bw O1.out hb2); replace O2 := Lib.hid (own_bw O2.out hb2); replace HW := Lib.hid (HW.out.trans hb2); clear hb2 T0 kz) | (go_at_call 21; (with_reducible refine Calls.mono (TX.out _) ?_); rintro e1 u9 ⟨rfl, hb2⟩; replace j0 := hb2.cell' j0; replace j1 := hb2.cell' j1; replace ke := hb2.cell' ke; replace O1 := Lib.hid (own_bw O1.out hb2); replace O2 := Lib.hid (own_bw O2.out hb2); replace HW := Lib.hid (HW.out.trans hb2); clear hb2 TX) | (go_at_call 21; (with_reducible refine Calls.mono (TY.out _) ?_); rintro e1 u10 ⟨rfl, hb2⟩; replace j0 := hb2.cell' j0; replace j1 := hb2.cell' j1; replace O1 := Lib.hid (own_bw O1.out hb2); replace O2 := Lib.hid (own_bw O2.out hb2); replace HW := Lib.hid (HW.out.trans hb2); clear hb2 TY ke) | (at_builtin; have hba := Bw.alloc (Bw.refl u10) (.cells #[.int .i64 ((1 - 2 * b) * I + (X - R)), .int .i64 ((1 - 2 * b) * Q + (Y - (R - MX)))] 34); have NB := Lib.hid (Blk.new u10 34 #[.int .i64 ((1 - 2 * b) * I + (X - R)), .int .i64 ((1 - 2 * b) * Q + (Y - (R - MX)))]); replace O1 := Lib.hid (own_bw O1.out hba); replace O2 := Lib.hid (own_bw O2.out hba); replace HW := Lib.hid (HW.out.trans hba); clear hba; refine wpList_append_pair_beside rfl (.tmp 141) (.tmp 155) _ rfl BB 34 Try.underlying22 infoSam _ l1 ((1 - 2 * b) * I + (X - R)) ((1 - 2 * b) * Q + (Y - (R - MX))) rfl O1.out _ rfl (NB.out.cell rfl) (NB.out.cell rfl) (by have := HLN1.out; omega) (by have := HW.out.size; have := HB.out; omega) O2.out (own_apart O1.out O2.out (by decide)) ?_; intro v7 w7 hown hgr hot hap; replace HW := Lib.hid (Bw.grownN HB.out HW.out O1.out hgr); replace O1 := Lib.hid hown; replace O2 := Lib.hid hot; clear hown hgr hot hap NB) | (at_builtin; have hba := Bw.alloc (Bw.refl w7) (.cells #[.int .i64 (b)] 3); have NB := Lib.hid (Blk.new w7 3 #[.int .i64 (b)]); replace O1 := Lib.hid (own_bw O1.out hba); replace O2 := Lib.hid (own_bw O2.out hba); replace HW := Lib.hid (HW.out.trans hba); clear hba; refine wpList_append_int1 rfl (.tmp 157) (.tmp 159) _ rfl BB 3 Try.underlying27 infoInt _ l2 (b) rfl O2.out _ rfl (NB.out.cell rfl) (by have := HLN2.out; omega) (by have := HW.out.size; have := HB.out; omega) ?_; intro v8 w8 hown hgr; replace O1 := Lib.hid (own_other O1.out O2.out (by decide) hgr); replace HW := Lib.hid (Bw.grownN HB.out HW.out O2.out hgr); replace O2 := Lib.hid hown; clear hown hgr NB))
            go_roundg (N - (k + 1))
            case measure => omega
            case rel => exact ⟨k + 1, by omega, by omega, by go_num, HW, Lib.hid (by rw [HT1.out]; exact O1.out), Lib.hid (by rw [HT2.out]; exact O2.out)⟩
        · as_aux_lemma =>
            have hkt : ¬ (t : Int) ≤ k := by omega
            have hfk := HFB.out k (by omega)
            have T0 := Lib.hid (fun W => TZ.out W 0)
            have kz := HW.out.cell' (HZ.out 0 (by omega))
            rw [Nat.add_zero] at kz
            have hb00 := hBT.out 0
            generalize zs.getD 0 0 = z0 at T0 kz
            generalize bt zs 0 = B0 at T0 hb00 hfk
            obtain ⟨b, hb⟩ : ∃ b, b = 1 - B0 := ⟨_, rfl⟩
            have hb0 : b = 0 ∨ b = 1 := by omega
            have hBb : 1 - B0 = b := hb.symm
            rw [hBb] at hfk
            clear hb
            have hke : ¬ (k : Int) < ne := by omega
            have hgk := HGN.out k (by omega)
            rw [hfk] at hgk
            have hT2 := hTK Int f
            rw [hfk] at hT2
            have hT1 := hTK (Int × Int) g
            rw [hgk] at hT1
            have HT1 := Lib.hid hT1
            have HT2 := Lib.hid hT2
            clear hT1 hT2 hgk hfk hTK
            have hmI := mul_bd3 (1 - 2 * b) I 1 1000 (by omega) (by omega) (by omega) (by omega)
            have hmQ := mul_bd3 (1 - 2 * b) Q 1 1000 (by omega) (by omega) (by omega) (by omega)
            generalize (List.range k).map g = l1 at O1 HT1 HLN1
            generalize (List.range k).map f = l2 at O2 HT2 HLN2
            have j0 := HW.out.cell' J0.out
            have j1 := HW.out.cell' J1.out
            go_wp2_with (first | (go_at_call 21; (with_reducible refine Calls.mono (T0.out _) ?_); rintro e1 u7 ⟨rfl, hb2⟩; replace j0 := hb2.cell' j0; replace j1 := hb2.cell' j1; replace O1 := Lib.hid (own_bw O1.out hb2); replace O2 := Lib.hid (own_bw O2.out hb2); replace HW := Lib.hid (HW.out.trans hb2); clear hb2 T0 kz) | (at_builtin; have hba := Bw.alloc (Bw.refl u7) (.cells #[.int .i64 ((1 - 2 * b) * I), .int .i64 ((1 - 2 * b) * Q)] 34); have NB := Lib.hid (Blk.new u7 34 #[.int .i64 ((1 - 2 * b) * I), .int .i64 ((1 - 2 * b) * Q)]); replace O1 := Lib.hid (own_bw O1.out hba); replace O2 := Lib.hid (own_bw O2.out hba); replace HW := Lib.hid (HW.out.trans hba); clear hba; refine wpList_append_pair_beside rfl (.tmp 141) (.tmp 155) _ rfl BB 34 Try.underlying22 infoSam _ l1 ((1 - 2 * b) * I) ((1 - 2 * b) * Q) rfl O1.out _ rfl (NB.out.cell rfl) (NB.out.cell rfl) (by have := HLN1.out; omega) (by have := HW.out.size; have := HB.out; omega) O2.out (own_apart O1.out O2.out (by decide)) ?_; intro v7 w7 hown hgr hot hap; replace HW := Lib.hid (Bw.grownN HB.out HW.out O1.out hgr); replace O1 := Lib.hid hown; replace O2 := Lib.hid hot; clear hown hgr hot hap NB) | (at_builtin; have hba := Bw.alloc (Bw.refl w7) (.cells #[.int .i64 (b)] 3); have NB := Lib.hid (Blk.new w7 3 #[.int .i64 (b)]); replace O1 := Lib.hid (own_bw O1.out hba); replace O2 := Lib.hid (own_bw O2.out hba); replace HW := Lib.hid (HW.out.trans hba); clear hba; refine wpList_append_int1 rfl (.tmp 157) (.tmp 159) _ rfl BB 3 Try.underlying27 infoInt _ l2 (b) rfl O2.out _ rfl (NB.out.cell rfl) (by have := HLN2.out; omega) (by have := HW.out.size; have := HB.out; omega) ?_; intro v8 w8 hown hgr; replace O1 := Lib.hid (own_other O1.out O2.out (by decide) hgr); replace HW := Lib.hid (Bw.grownN HB.out HW.out O2.out hgr); replace O2 := Lib.hid hown; clear hown hgr NB))
            go_roundg (N - (k + 1))
            case measure => omega
            case rel => exact ⟨k + 1, by omega, by omega, by go_num, HW, Lib.hid (by rw [HT1.out]; exact O1.out), Lib.hid (by rw [HT2.out]; exact O2.out)⟩
    · obtain rfl : N = k := by omega
      have hkz : ¬ (N : Int) < N := by omega
      have hb1 := (own_rdS2 O1.out (by rw [List.length_map, List.length_range]; omega)).1
      have hb2 := (own_rd O2.out (by rw [List.length_map, List.length_range]; omega)).1
      have CA := Lib.hid (own_capd O1.out)
      obtain ⟨aL, cL, rfl⟩ := hb1.form
      obtain ⟨aB, cB, rfl⟩ := hb2.form
      simp only [List.length_map, List.length_range] at hb1 hb2 CA ⊢
      have SL := Lib.hid hb1
      have SB := Lib.hid hb2
      replace SZ := Lib.hid (SZ.out.mono HW.out)
      replace HBW := Lib.hid (HBW.out.trans HW.out)
      clear hb1 hb2 O1 O2 HW SE HZ J0 J1 BXW hzj HFA HFB HGE HGN HB
      go_upto_region 28 with (go_at_call 16; (with_reducible refine Calls.mono (NW.out _) ?_); rintro e1 u11 ⟨⟨v7, rfl, hr, _⟩, hb7⟩; obtain ⟨a1, c1, rfl⟩ := hr.form; have R1 := Lib.hid hr; replace SL := Lib.hid (SL.out.mono hb7); replace SB := Lib.hid (SB.out.mono hb7); replace SZ := Lib.hid (SZ.out.mono hb7); replace HBW := Lib.hid (HBW.out.trans hb7); clear hr hb7 NW)
      have BX1 := Lib.hid (Blk.new u11 36 #[.slice a1 C0.length c1, .int .i64 0, .int .i64 0, .int .i64 0])
      have hba := Bw.alloc (Bw.refl u11) (.cells #[.slice a1 C0.length c1, .int .i64 0, .int .i64 0, .int .i64 0] 36)
      replace R1 := Lib.hid (R1.out.mono hba)
      replace SL := Lib.hid (SL.out.mono hba)
      replace SB := Lib.hid (SB.out.mono hba)
      replace SZ := Lib.hid (SZ.out.mono hba)
      replace HBW := Lib.hid (HBW.out.trans hba)
      obtain ⟨g2, hg2⟩ : ∃ g2, u11.heap.size = g2 := ⟨_, rfl⟩
      rw [hg2] at BX1 ⊢
      clear hg2 hba
      generalize u11.alloc _ = u12 at BX1 HBW R1 SL SB SZ ⊢
      have k0 : u12.cell? ⟨g2, 0, none⟩ = some (.slice a1 C0.length c1) := BX1.out.cell rfl
      have k1 : u12.cell? ⟨g2, 1, none⟩ = some (.int .i64 0) := BX1.out.cell rfl
      have k2 : u12.cell? ⟨g2, 2, none⟩ = some (.int .i64 0) := BX1.out.cell rfl
      have k3 : u12.cell? ⟨g2, 3, none⟩ = some (.int .i64 0) := BX1.out.cell rfl
      have hzk := lt_of_cell k0
      go_upto_region 29 with (go_at_call 18; (with_reducible refine Calls.mono (FD.out _ _ _ R1.out SL.out) ?_); rintro e1 u13 ⟨⟨v9, rfl, hr, _⟩, hb9⟩; obtain ⟨a2, c2, rfl⟩ := hr.form; have R2 := Lib.hid hr; replace SL := Lib.hid (SL.out.mono hb9); replace SB := Lib.hid (SB.out.mono hb9); replace SZ := Lib.hid (SZ.out.mono hb9); replace HBW := Lib.hid (HBW.out.trans hb9); clear hr hb9 FD R1 BX1)
      clear k0 k1 k2 k3 hzk
      have BX2 := Lib.hid (Blk.new u13 36 #[.slice a2 C1.length c2, .int .i64 N, .int .i64 x1, .int .i64 y1])
      have hba := Bw.alloc (Bw.refl u13) (.cells #[.slice a2 C1.length c2, .int .i64 N, .int .i64 x1, .int .i64 y1] 36)
      replace R2 := Lib.hid (R2.out.mono hba)
      replace SL := Lib.hid (SL.out.mono hba)
      replace SB := Lib.hid (SB.out.mono hba)
      replace SZ := Lib.hid (SZ.out.mono hba)
      replace HBW := Lib.hid (HBW.out.trans hba)
      obtain ⟨g3, hg3⟩ : ∃ g3, u13.heap.size = g3 := ⟨_, rfl⟩
      rw [hg3] at BX2 ⊢
      clear hg3 hba
      generalize u13.alloc _ = u14 at BX2 HBW R2 SL SB SZ ⊢
      have k0 : u14.cell? ⟨g3, 0, none⟩ = some (.slice a2 C1.length c2) := BX2.out.cell rfl
      have k1 : u14.cell? ⟨g3, 1, none⟩ = some (.int .i64 N) := BX2.out.cell rfl
      have k2 : u14.cell? ⟨g3, 2, none⟩ = some (.int .i64 x1) := BX2.out.cell rfl
      have k3 : u14.cell? ⟨g3, 3, none⟩ = some (.int .i64 y1) := BX2.out.cell rfl
      have hzk := lt_of_cell k0
      have hL1 : C1.length = n := by rw [HC1.out, List.length_set, HC0.out, List.length_replicate]
      have hnz := HNZ.out
      rw [hL1] at R2 k0
      have HL1 := Lib.hid hL1
      clear hL1
      go_wp2
      go_loopg [26, 27] 110 (fun gg s26 s27 wr => ∃ j : Nat, j + 1 ≤ N ∧ N - j ≤ gg ∧ s27 = .int .i64 ((j : Int) + 1) ∧ s26 = .int .i64 (cntA f (j + 1) : Nat) ∧ Hid (Bw u14 wr))
      case atStart => exact ⟨0, by omega, by omega, by go_num, by simp [cntA], Lib.hid (Bw.refl _)⟩
      case round =>
        obtain ⟨j, hj, hgg, rfl, rfl, HW⟩ := hrel
        have hcl := cntA_le f (j + 1)
        by_cases hlt : j + 1 < N
        · have hjz : (j : Int) + 1 < N := by omega
          obtain ⟨b5, o5, cc5, hv1, hb1, hd1⟩ := SB.out.at (by rw [List.length_map, List.length_range]; omega)
          injection hv1 with i1 i2 i3; subst i1; clear i2 i3
          have d1 := HW.out.cell' (hd1 j (by rw [List.length_map, List.length_range]; omega))
          have d2 := HW.out.cell' (hd1 (j + 1) (by rw [List.length_map, List.length_range]; omega))
          rw [getD_mapr _ _ _ (by omega)] at d1
          rw [getD_mapr _ _ _ hlt] at d2
          have HC := Lib.hid (show cntA f (j + 1 + 1) = cntA f (j + 1) + (if f j ≠ f (j + 1) then 1 else 0) by rw [cntA]; simp)
          clear hd1 hb1
          generalize f j = fa at *
          generalize f (j + 1) = fb at *
          generalize cntA f (j + 1) = cn at *
          have e0 := fun p' : Ext wr => Ext.cell' d1 p'
          have e1 := fun p' : Ext wr => Ext.cell' d2 p'
          clear d1 d2
          by_cases hs : fb = fa
          · subst hs
            have HC2 := Lib.hid (show cntA f (j + 1 + 1) = cn by rw [HC.out, if_neg (by simp)]; rfl)
            clear HC
            go_wp2
            (refine wp_region_quiet_ext (by kernel_rfl) (by kernel_rfl) ?_; (repeat (go_big_quiet_step ((fail)))); refine wpQuiet_nil ?_; rintro wq ⟨⟨_, hbq⟩, rfl⟩; obtain ⟨hccq, hffq⟩ := Bw.cells hbq; have hszq := Bw.size hbq)
            clear e0 e1
            go_wp2
            go_roundg (N - (j + 1))
            case measure => omega
            case rel => exact ⟨j + 1, by omega, by omega, by go_num, by rw [HC2.out], Lib.hid (HW.out.trans hbq)⟩
          · have HC2 := Lib.hid (show cntA f (j + 1 + 1) = cn + 1 by rw [HC.out, if_pos (fun h => hs h.symm)])
            clear HC
            go_wp2
            (refine wp_region_quiet_ext (by kernel_rfl) (by kernel_rfl) ?_; (repeat (go_big_quiet_step ((fail)))); refine wpQuiet_nil ?_; rintro wq ⟨⟨_, hbq⟩, rfl⟩; obtain ⟨hccq, hffq⟩ := Bw.cells hbq; have hszq := Bw.size hbq)
            clear e0 e1
            go_wp2
            go_roundg (N - (j + 1))
            case measure => omega
            case rel => exact ⟨j + 1, by omega, by omega, by go_num, by rw [HC2.out]; go_num, Lib.hid (HW.out.trans hbq)⟩
        · have hjz : ¬ (j : Int) + 1 < N := by omega
          have hJ : j + 1 = N := by omega
          rw [hJ, ← HCNT.out]
          clear hcl SB
          have hcl := HCL.out
          go_wp2
          go_loopg [28] 8 (fun gg s28 wr => ∃ i : Nat, i ≤ n ∧ n - i ≤ gg ∧ s28 = .int .i64 i ∧ Hid (Bw u14 wr))
          case atStart => exact ⟨0, Nat.zero_le _, by omega, by go_num, HW⟩
          case round =>
            clear HW
            obtain ⟨i, hi, hgg, rfl, HW⟩ := hrel
            by_cases hlt : i < n
            · have hiz : (i : Int) < 1 + m := by omega
              have hin : (i : Int) < n := by omega
              have y0 := HW.out.cell' k0
              obtain ⟨b5, o5, cc5, hv1, hb1, hd1⟩ := R2.out.at (by have := HL1.out; omega)
              injection hv1 with i1 i2 i3; subst i1; clear i2 i3
              have d1 := HW.out.cell' (hd1 i (by have := HL1.out; omega))
              rw [HC1.out, HC0.out, getD_set0 n t _ (by have := HM.out; omega)] at d1
              clear hd1 hb1
              by_cases hit : i = t
              · subst hit
                rw [if_pos rfl] at d1
                go_wp2
                go_roundg (n - (i + 1))
                case measure => omega
                case rel => exact ⟨i + 1, by omega, by omega, by go_num, HW⟩
              · rw [if_neg hit] at d1
                have hitz : ¬ (i : Int) = t := by omega
                go_wp2
                go_roundg (n - (i + 1))
                case measure => omega
                case rel => exact ⟨i + 1, by omega, by omega, by go_num, HW⟩
            · obtain rfl : n = i := by omega
              have hiz : ¬ (n : Int) < 1 + m := by omega
              by_cases hc0 : 0 < cnt
              · have hcz : (0 : Int) < cnt := by omega
                as_aux_lemma =>
                  have ED1 := Lib.hid (show ∀ (W : World) (V : Value), RdI W V C1 → Calls Try.prog 17 #[.agg #[V, .int .i64 N, .int .i64 x1, .int .i64 y1], .int .i64 1] W fun e w' => e = .returned (.tuple #[.int .i64 t, .int .i64 0]) ∧ Bw W w' by have h := ED.out; rw [if_pos hc0] at h; exact h)
                  clear ED
                  have y0 := HW.out.cell' k0
                  have y1 := HW.out.cell' k1
                  have y2 := HW.out.cell' k2
                  have y3 := HW.out.cell' k3
                  replace R2 := Lib.hid (R2.out.mono HW.out)
                  replace SL := Lib.hid (SL.out.mono HW.out)
                  replace SZ := Lib.hid (SZ.out.mono HW.out)
                  replace HBW := Lib.hid (HBW.out.trans HW.out)
                  clear HW
                  go_upto_region 43 with (go_at_call 17; (with_reducible refine Calls.mono (ED1.out _ _ R2.out) ?_); rintro e1 u15 ⟨rfl, hb9⟩; replace SL := Lib.hid (SL.out.mono hb9); replace SZ := Lib.hid (SZ.out.mono hb9); replace HBW := Lib.hid (HBW.out.trans hb9); clear hb9 ED1 R2)
                  clear y0 y1 y2 y3
                  go_wp2_with (go_at_call 12; (with_reducible refine Calls.mono (RDc.out _ _ SL.out CA.out) ?_); rintro e1 u16 ⟨⟨v10, rfl, hr, _⟩, hb10⟩; obtain ⟨a3, c3, rfl⟩ := hr.form; simp only [List.length_map, List.length_range] at hr; simp only [List.length_map, List.length_range]; have R3 := Lib.hid hr; replace SZ := Lib.hid (SZ.out.mono hb10); replace HBW := Lib.hid (HBW.out.trans hb10); clear hr hb10 RDc SL CA)
                  go_loopg [33] 12 (fun gg s33 wr => ∃ i : Nat, i ≤ nb ∧ nb - i ≤ gg ∧ s33 = .int .i64 i ∧ Hid (Bw u16 wr))
                  case atStart => exact ⟨0, Nat.zero_le _, by omega, by go_num, Lib.hid (Bw.refl _)⟩
                  case round =>
                    obtain ⟨i, hi, hgg, rfl, HW⟩ := hrel
                    by_cases hlt : i < nb
                    · have hiz : (i : Int) < nb := by omega
                      obtain ⟨b6, o6, cc6, hv1, hb1, hd1⟩ := R3.out.at (by rw [List.length_map, List.length_range]; omega)
                      injection hv1 with i1 i2 i3; subst i1; clear i2 i3
                      have d1 := HW.out.cell' (hd1 i (by rw [List.length_map, List.length_range]; omega))
                      rw [getD_mapr _ _ _ hlt] at d1
                      obtain ⟨b7, o7, cc7, hv1, hb2, hd2⟩ := SZ.out.at (by have := HNB.out; omega)
                      injection hv1 with i1 i2 i3; injection i1 with i1; injection i1 with i1 i4; subst i1 i4; clear i2 i3
                      have d2 := HW.out.cell' (hd2 i (by have := HNB.out; omega))
                      have d3 := HW.out.cell' (hd2 0 (by have := HNB.out; omega))
                      rw [Nat.add_zero] at d3
                      have TJ := Lib.hid (fun W => TZ.out W i)
                      have T0 := Lib.hid (fun W => TZ.out W 0)
                      have hb3 := hBT.out i
                      have hb4 := hBT.out 0
                      clear hd1 hd2 hb1 hb2
                      generalize bt zs i = b at *
                      generalize bt zs 0 = B0 at *
                      generalize zs.getD i 0 = z1 at *
                      generalize zs.getD 0 0 = z0 at *
                      have e1 := fun p' : Ext wr => Ext.cell' d1 p'
                      have e2 := fun p' : Ext wr => Ext.cell' d2 p'
                      have e3 := fun p' : Ext wr => Ext.cell' d3 p'
                      clear d1 d2 d3
                      rcases hb3 with rfl | rfl <;> rcases hb4 with rfl | rfl
                      all_goals
                        go_wp2
                        (refine wp_region_quiet_ext (by kernel_rfl) (by kernel_rfl) ?_; (repeat (go_big_quiet_step ((go_at_call 21; first | (with_reducible refine Calls.ext_of (TJ.out _)) | (with_reducible refine Calls.ext_of (T0.out _)))))); refine wpQuiet_nil ?_; rintro wq ⟨⟨_, hbq⟩, rfl⟩; obtain ⟨hccq, hffq⟩ := Bw.cells hbq; have hszq := Bw.size hbq)
                        clear e1 e2 e3
                        go_wp2
                        go_roundg (nb - (i + 1))
                        case measure => omega
                        case rel => exact ⟨i + 1, by omega, by omega, by go_num, Lib.hid (HW.out.trans hbq)⟩
                    · obtain rfl : nb = i := by omega
                      have hiz : ¬ (nb : Int) < nb := by omega
                      go_wp2
                      go_ret
                      exact ⟨rfl, HBW.out.trans HW.out⟩
              · obtain rfl : cnt = 0 := by omega
                as_aux_lemma =>
                  have ED1 := Lib.hid (show ∀ (W : World) (V : Value), RdI W V C1 → Calls Try.prog 17 #[.agg #[V, .int .i64 N, .int .i64 x1, .int .i64 y1], .int .i64 1] W fun e w' => e = .returned (.tuple #[.int .i64 0, .int .i64 18]) ∧ Bw W w' by have h := ED.out; rw [if_neg hc0] at h; exact h)
                  clear ED
                  have y0 := HW.out.cell' k0
                  have y1 := HW.out.cell' k1
                  have y2 := HW.out.cell' k2
                  have y3 := HW.out.cell' k3
                  replace R2 := Lib.hid (R2.out.mono HW.out)
                  replace SL := Lib.hid (SL.out.mono HW.out)
                  replace SZ := Lib.hid (SZ.out.mono HW.out)
                  replace HBW := Lib.hid (HBW.out.trans HW.out)
                  clear HW
                  go_upto_region 43 with (go_at_call 17; (with_reducible refine Calls.mono (ED1.out _ _ R2.out) ?_); rintro e1 u15 ⟨rfl, hb9⟩; replace SL := Lib.hid (SL.out.mono hb9); replace SZ := Lib.hid (SZ.out.mono hb9); replace HBW := Lib.hid (HBW.out.trans hb9); clear hb9 ED1 R2)
                  clear y0 y1 y2 y3
                  go_wp2_with (go_at_call 12; (with_reducible refine Calls.mono (RDc.out _ _ SL.out CA.out) ?_); rintro e1 u16 ⟨⟨v10, rfl, hr, _⟩, hb10⟩; obtain ⟨a3, c3, rfl⟩ := hr.form; simp only [List.length_map, List.length_range] at hr; simp only [List.length_map, List.length_range]; have R3 := Lib.hid hr; replace SZ := Lib.hid (SZ.out.mono hb10); replace HBW := Lib.hid (HBW.out.trans hb10); clear hr hb10 RDc SL CA)
                  go_loopg [33] 12 (fun gg s33 wr => ∃ i : Nat, i ≤ nb ∧ nb - i ≤ gg ∧ s33 = .int .i64 i ∧ Hid (Bw u16 wr))
                  case atStart => exact ⟨0, Nat.zero_le _, by omega, by go_num, Lib.hid (Bw.refl _)⟩
                  case round =>
                    obtain ⟨i, hi, hgg, rfl, HW⟩ := hrel
                    by_cases hlt : i < nb
                    · have hiz : (i : Int) < nb := by omega
                      obtain ⟨b6, o6, cc6, hv1, hb1, hd1⟩ := R3.out.at (by rw [List.length_map, List.length_range]; omega)
                      injection hv1 with i1 i2 i3; subst i1; clear i2 i3
                      have d1 := HW.out.cell' (hd1 i (by rw [List.length_map, List.length_range]; omega))
                      rw [getD_mapr _ _ _ hlt] at d1
                      obtain ⟨b7, o7, cc7, hv1, hb2, hd2⟩ := SZ.out.at (by have := HNB.out; omega)
                      injection hv1 with i1 i2 i3; injection i1 with i1; injection i1 with i1 i4; subst i1 i4; clear i2 i3
                      have d2 := HW.out.cell' (hd2 i (by have := HNB.out; omega))
                      have d3 := HW.out.cell' (hd2 0 (by have := HNB.out; omega))
                      rw [Nat.add_zero] at d3
                      have TJ := Lib.hid (fun W => TZ.out W i)
                      have T0 := Lib.hid (fun W => TZ.out W 0)
                      have hb3 := hBT.out i
                      have hb4 := hBT.out 0
                      clear hd1 hd2 hb1 hb2
                      generalize bt zs i = b at *
                      generalize bt zs 0 = B0 at *
                      generalize zs.getD i 0 = z1 at *
                      generalize zs.getD 0 0 = z0 at *
                      have e1 := fun p' : Ext wr => Ext.cell' d1 p'
                      have e2 := fun p' : Ext wr => Ext.cell' d2 p'
                      have e3 := fun p' : Ext wr => Ext.cell' d3 p'
                      clear d1 d2 d3
                      rcases hb3 with rfl | rfl <;> rcases hb4 with rfl | rfl
                      all_goals
                        go_wp2
                        (refine wp_region_quiet_ext (by kernel_rfl) (by kernel_rfl) ?_; (repeat (go_big_quiet_step ((go_at_call 21; first | (with_reducible refine Calls.ext_of (TJ.out _)) | (with_reducible refine Calls.ext_of (T0.out _)))))); refine wpQuiet_nil ?_; rintro wq ⟨⟨_, hbq⟩, rfl⟩; obtain ⟨hccq, hffq⟩ := Bw.cells hbq; have hszq := Bw.size hbq)
                        clear e1 e2 e3
                        go_wp2
                        go_roundg (nb - (i + 1))
                        case measure => omega
                        case rel => exact ⟨i + 1, by omega, by omega, by go_num, Lib.hid (HW.out.trans hbq)⟩
                    · obtain rfl : nb = i := by omega
                      have hiz : ¬ (nb : Int) < nb := by omega
                      go_wp2
                      go_ret
                      exact ⟨rfl, HBW.out.trans HW.out⟩
end Go.Proofs.Sky
