/-
  lemmas for the theorems of this claim. No conditions beyond those written in the statements.
-/
import Derived.Test.YtgeojbmhkmmedaaDoorUA28
import Derived.Deep.Cut
set_option linter.unusedVariables false
set_option linter.unusedSimpArgs false
set_option linter.unnecessarySimpa false
namespace Go.Proofs.Sky
open Go Go.RowKit Go.Shelf
set_option maxHeartbeats 4000000
set_option maxRecDepth 8000
theorem Below_any (n k : Int) (w : World) (h : 1 ≤ k) (h2 : k ≤ 4611686018427387904) : Calls Tryd.prog 17 #[.int .i64 n, .int .i64 k] w fun e w' => e = .returned (.int .i64 (bel n k)) ∧ Bw w w' := by
  obtain ⟨r, t1, r1, r2, ways⟩ := tmod_way n k h
  have hk0 : (k == 0) = false := by simp; omega
  rcases ways with ⟨y1, yR⟩ | ⟨y1, yR⟩
  all_goals
    have HB := Lib.hid (show bel n k = n % k by unfold bel; rw [if_neg (by omega)])
    rw [yR] at HB
    clear yR
    go_enter Tryd.func17, Tryd.ntmps17
    go_wp2
    go_ret
    exact ⟨ret_int (by rw [HB.out]), (by repeat (first | exact Bw.refl _ | assumption | refine Bw.alloc ?_ _ | refine Bw.drew ?_ | refine Bw.trans ?_ (by assumption) | refine Bw.setCell ?_ (by simp; try omega) _))⟩
theorem Nth_any (zs : List Int) (v : Value) (i : Int) (w : World) (hv : RdI w v zs) : Calls Tryd.prog 39 #[v, .int .i64 i] w fun e w' => e = .returned (.int .i64 (nth zs i)) ∧ Bw w w' := by
  obtain ⟨hlen, ad, cap, rfl, hz⟩ := hv
  by_cases h : i < 0 ∨ (zs.length : Int) ≤ i
  · have HN := Lib.hid (show nth zs i = 0 by unfold nth; rw [if_pos h])
    clear hz
    rcases h with h | h
    all_goals
      go_enter Tryd.func39, Tryd.ntmps39
      go_wp2
      all_goals (go_ret; exact ⟨ret_int HN.out.symm, (by repeat (first | exact Bw.refl _ | assumption | refine Bw.alloc ?_ _ | refine Bw.drew ?_ | refine Bw.trans ?_ (by assumption) | refine Bw.setCell ?_ (by simp; try omega) _))⟩)
  · have HN := Lib.hid (show nth zs i = zs.getD i.toNat 0 by unfold nth; rw [if_neg h])
    obtain ⟨j, rfl⟩ := Int.eq_ofNat_of_zero_le (show 0 ≤ i by omega)
    obtain ⟨b, off, rfl, hb, hz⟩ := hz.resolve_left (by intro e; subst e; simp at h)
    have hc := hz j (by omega)
    rw [show ((j : Int)).toNat = j by omega] at HN
    have hj : (j : Int) < zs.length := by omega
    clear hz h
    generalize zs.getD j 0 = z at hc HN
    go_enter Tryd.func39, Tryd.ntmps39
    go_wp2
    go_ret
    exact ⟨ret_int HN.out.symm, (by repeat (first | exact Bw.refl _ | assumption | refine Bw.alloc ?_ _ | refine Bw.drew ?_ | refine Bw.trans ?_ (by assumption) | refine Bw.setCell ?_ (by simp; try omega) _))⟩
/-! chapter 28: an ephemeris by numbers -/
def sgE (n b : Int) : Int := bel n (2 ^ b.toNat) - 2 ^ (b.toNat - 1)
theorem sgn_ok (n b : Int) (hb : b = 16 ∨ b = 22 ∨ b = 24 ∨ b = 32) : okZ b (sgE n b) = true := by
  unfold okZ sgE
  have h9 := bel_bd n (2 ^ b.toNat) (by rcases hb with rfl | rfl | rfl | rfl <;> decide)
  rcases hb with rfl | rfl | rfl | rfl
  · rw [show (2 : Int) ^ ((16 : Int)).toNat = 65536 from by decide] at h9
    apply decide_eq_true
    rw [show lowR 16 true = -32768 from by decide, show highR 16 true = 32767 from by decide, show (2 : Int) ^ ((16 : Int)).toNat = 65536 from by decide, show (2 : Int) ^ (((16 : Int)).toNat - 1) = 32768 from by decide]
    omega
  · rw [show (2 : Int) ^ ((22 : Int)).toNat = 4194304 from by decide] at h9
    apply decide_eq_true
    rw [show lowR 22 true = -2097152 from by decide, show highR 22 true = 2097151 from by decide, show (2 : Int) ^ ((22 : Int)).toNat = 4194304 from by decide, show (2 : Int) ^ (((22 : Int)).toNat - 1) = 2097152 from by decide]
    omega
  · rw [show (2 : Int) ^ ((24 : Int)).toNat = 16777216 from by decide] at h9
    apply decide_eq_true
    rw [show lowR 24 true = -8388608 from by decide, show highR 24 true = 8388607 from by decide, show (2 : Int) ^ ((24 : Int)).toNat = 16777216 from by decide, show (2 : Int) ^ (((24 : Int)).toNat - 1) = 8388608 from by decide]
    omega
  · rw [show (2 : Int) ^ ((32 : Int)).toNat = 4294967296 from by decide] at h9
    apply decide_eq_true
    rw [show lowR 32 true = -2147483648 from by decide, show highR 32 true = 2147483647 from by decide, show (2 : Int) ^ ((32 : Int)).toNat = 4294967296 from by decide, show (2 : Int) ^ (((32 : Int)).toNat - 1) = 2147483648 from by decide]
    omega
theorem signed_any (n b : Int) (hb : b = 16 ∨ b = 22 ∨ b = 24 ∨ b = 32) (w : World) : Calls Tryd.prog 40 #[.int .i64 n, .int .i64 b] w fun e w' => e = .returned (.int .i64 (sgE n b)) ∧ Bw w w' := by
  obtain ⟨S, hS⟩ : ∃ S, S = sgE n b := ⟨_, rfl⟩
  rw [← hS]
  rcases hb with rfl | rfl | rfl | rfl
  · have HS := Lib.hid (show bel n 65536 - 32768 = S from by rw [hS]; unfold sgE; rw [show (2 : Int) ^ ((16 : Int)).toNat = 65536 from by decide, show (2 : Int) ^ (((16 : Int)).toNat - 1) = 32768 from by decide])
    clear hS
    have BE := Lib.hid (fun W => Below_any n 65536 W (by decide) (by decide))
    have hbd := bel_bd n 65536 (by decide)
    generalize bel n 65536 = B at *
    go_enter Tryd.func40, Tryd.ntmps40
    go_wp2_with (go_at_call 17; (with_reducible refine Calls.mono (BE.out _) ?_); rintro e1 w1 ⟨rfl, hb9⟩)
    go_ret
    exact ⟨ret_int HS.out, hb9⟩
  · have HS := Lib.hid (show bel n 4194304 - 2097152 = S from by rw [hS]; unfold sgE; rw [show (2 : Int) ^ ((22 : Int)).toNat = 4194304 from by decide, show (2 : Int) ^ (((22 : Int)).toNat - 1) = 2097152 from by decide])
    clear hS
    have BE := Lib.hid (fun W => Below_any n 4194304 W (by decide) (by decide))
    have hbd := bel_bd n 4194304 (by decide)
    generalize bel n 4194304 = B at *
    go_enter Tryd.func40, Tryd.ntmps40
    go_wp2_with (go_at_call 17; (with_reducible refine Calls.mono (BE.out _) ?_); rintro e1 w1 ⟨rfl, hb9⟩)
    go_ret
    exact ⟨ret_int HS.out, hb9⟩
  · have HS := Lib.hid (show bel n 16777216 - 8388608 = S from by rw [hS]; unfold sgE; rw [show (2 : Int) ^ ((24 : Int)).toNat = 16777216 from by decide, show (2 : Int) ^ (((24 : Int)).toNat - 1) = 8388608 from by decide])
    clear hS
    have BE := Lib.hid (fun W => Below_any n 16777216 W (by decide) (by decide))
    have hbd := bel_bd n 16777216 (by decide)
    generalize bel n 16777216 = B at *
    go_enter Tryd.func40, Tryd.ntmps40
    go_wp2_with (go_at_call 17; (with_reducible refine Calls.mono (BE.out _) ?_); rintro e1 w1 ⟨rfl, hb9⟩)
    go_ret
    exact ⟨ret_int HS.out, hb9⟩
  · have HS := Lib.hid (show bel n 4294967296 - 2147483648 = S from by rw [hS]; unfold sgE; rw [show (2 : Int) ^ ((32 : Int)).toNat = 4294967296 from by decide, show (2 : Int) ^ (((32 : Int)).toNat - 1) = 2147483648 from by decide])
    clear hS
    have BE := Lib.hid (fun W => Below_any n 4294967296 W (by decide) (by decide))
    have hbd := bel_bd n 4294967296 (by decide)
    generalize bel n 4294967296 = B at *
    go_enter Tryd.func40, Tryd.ntmps40
    go_wp2_with (go_at_call 17; (with_reducible refine Calls.mono (BE.out _) ?_); rintro e1 w1 ⟨rfl, hb9⟩)
    go_ret
    exact ⟨ret_int HS.out, hb9⟩
def axT (tame : Bool) (zs : List Int) (at_ : Int) (k : Nat) : Int :=
  if tame then [(sgE (nth zs at_) 32).tdiv 2, (sgE (nth zs (at_ + 1)) 24).tdiv 2, (sgE (nth zs (at_ + 2)) 22).tdiv 2, (sgE (nth zs (at_ + 3)) 24).tdiv 1000].getD k 0
  else [sgE (nth zs at_) 32, sgE (nth zs (at_ + 1)) 24, sgE (nth zs (at_ + 2)) 22, sgE (nth zs (at_ + 3)) 24].getD k 0
theorem sg_bd (n : Int) : (-2147483648 ≤ sgE n 32 ∧ sgE n 32 ≤ 2147483647) ∧ (-8388608 ≤ sgE n 24 ∧ sgE n 24 ≤ 8388607) ∧ (-2097152 ≤ sgE n 22 ∧ sgE n 22 ≤ 2097151) ∧ (-32768 ≤ sgE n 16 ∧ sgE n 16 ≤ 32767) := by
  have h32 := bel_bd n 4294967296 (by decide)
  have h24 := bel_bd n 16777216 (by decide)
  have h22 := bel_bd n 4194304 (by decide)
  have h16 := bel_bd n 65536 (by decide)
  have e32 : sgE n 32 = bel n 4294967296 - 2147483648 := rfl
  have e24 : sgE n 24 = bel n 16777216 - 8388608 := rfl
  have e22 : sgE n 22 = bel n 4194304 - 2097152 := rfl
  have e16 : sgE n 16 = bel n 65536 - 32768 := rfl
  omega
theorem axis28_any (tame : Bool) (zs : List Int) (v : Value) (at_ : Int) (w : World) (hv : RdI w v zs) (h0 : 0 ≤ at_) (h1 : at_ ≤ 1000) : Calls Tryd.prog 41 #[v, .int .i64 at_, .bool tame] w fun e w' => e = .returned (.agg #[.int .i64 (axT tame zs at_ 0), .int .i64 (axT tame zs at_ 1), .int .i64 (axT tame zs at_ 2), .int .i64 (axT tame zs at_ 3)]) ∧ Bw w w' := by
  have HV := Lib.hid hv
  obtain ⟨ad, cap, rfl⟩ := hv.form
  clear hv
  have NH := Lib.hid (fun i W hW => Nth_any zs (.slice ad zs.length cap) i W hW)
  have SG32 := Lib.hid (fun n W => signed_any n 32 (by decide) W)
  have SG24 := Lib.hid (fun n W => signed_any n 24 (by decide) W)
  have SG22 := Lib.hid (fun n W => signed_any n 22 (by decide) W)
  have SG16 := Lib.hid (fun n W => signed_any n 16 (by decide) W)
  have HR := Lib.hid (show ∀ k, axT tame zs at_ k = if tame then [(sgE (nth zs at_) 32).tdiv 2, (sgE (nth zs (at_ + 1)) 24).tdiv 2, (sgE (nth zs (at_ + 2)) 22).tdiv 2, (sgE (nth zs (at_ + 3)) 24).tdiv 1000].getD k 0 else [sgE (nth zs at_) 32, sgE (nth zs (at_ + 1)) 24, sgE (nth zs (at_ + 2)) 22, sgE (nth zs (at_ + 3)) 24].getD k 0 from fun k => rfl)
  generalize axT tame zs at_ = AT at *
  have HB0 := Lib.hid (sg_bd (nth zs at_)).1
  have HB1 := Lib.hid (sg_bd (nth zs (at_ + 1))).2.1
  have HB2 := Lib.hid (sg_bd (nth zs (at_ + 2))).2.2.1
  have HB3 := Lib.hid (sg_bd (nth zs (at_ + 3))).2.1
  obtain ⟨S, hS⟩ : ∃ S : Int → Int → Int, S = sgE := ⟨_, rfl⟩
  obtain ⟨N, hN⟩ : ∃ N : List Int → Int → Int, N = nth := ⟨_, rfl⟩
  simp only [← hS, ← hN] at NH SG32 SG24 SG22 SG16 HR HB0 HB1 HB2 HB3
  clear hS hN
  obtain ⟨g, hg⟩ : ∃ g, w.heap.size = g := ⟨_, rfl⟩
  have HBW := Lib.hid (Bw.alloc (Bw.refl w) (.cells #[.int .i64 0, .int .i64 0, .int .i64 0, .int .i64 0] 23))
  have KR := Lib.hid (Blk.new w 23 #[.int .i64 0, .int .i64 0, .int .i64 0, .int .i64 0])
  rw [hg] at KR
  go_enter Tryd.func41, Tryd.ntmps41
  go_upto_region 1 with fail
  obtain ⟨W0, hW0⟩ : ∃ W0, w.alloc (.cells #[.int .i64 0, .int .i64 0, .int .i64 0, .int .i64 0] 23) = W0 := ⟨_, rfl⟩
  rw [hW0] at HBW KR ⊢
  clear hW0
  go_wp2_with (go_at_call 39; (with_reducible refine Calls.mono (NH.out _ _ (HV.out.mono HBW.out)) ?_); rintro e1 w1 ⟨rfl, hb9⟩; replace HBW := Lib.hid (HBW.out.trans hb9); replace KR := Lib.hid (KR.out.bw hb9); clear hb9)
  refine Calls.mono (SG32.out _ _) ?_
  rintro e1 w1 ⟨rfl, hb9⟩
  replace HBW := Lib.hid (HBW.out.trans hb9)
  replace KR := Lib.hid (KR.out.bw hb9)
  clear hb9
  go_wp2_with (go_at_call 39; (with_reducible refine Calls.mono (NH.out _ _ (HV.out.mono HBW.out)) ?_); rintro e1 w1 ⟨rfl, hb9⟩; replace HBW := Lib.hid (HBW.out.trans hb9); replace KR := Lib.hid (KR.out.bw hb9); clear hb9)
  refine Calls.mono (SG24.out _ _) ?_
  rintro e1 w1 ⟨rfl, hb9⟩
  replace HBW := Lib.hid (HBW.out.trans hb9)
  replace KR := Lib.hid (KR.out.bw hb9)
  clear hb9
  go_wp2_with (go_at_call 39; (with_reducible refine Calls.mono (NH.out _ _ (HV.out.mono HBW.out)) ?_); rintro e1 w1 ⟨rfl, hb9⟩; replace HBW := Lib.hid (HBW.out.trans hb9); replace KR := Lib.hid (KR.out.bw hb9); clear hb9)
  refine Calls.mono (SG22.out _ _) ?_
  rintro e1 w1 ⟨rfl, hb9⟩
  replace HBW := Lib.hid (HBW.out.trans hb9)
  replace KR := Lib.hid (KR.out.bw hb9)
  clear hb9
  go_wp2_with (go_at_call 39; (with_reducible refine Calls.mono (NH.out _ _ (HV.out.mono HBW.out)) ?_); rintro e1 w1 ⟨rfl, hb9⟩; replace HBW := Lib.hid (HBW.out.trans hb9); replace KR := Lib.hid (KR.out.bw hb9); clear hb9)
  refine Calls.mono (SG24.out _ _) ?_
  rintro e1 w1 ⟨rfl, hb9⟩
  replace HBW := Lib.hid (HBW.out.trans hb9)
  replace KR := Lib.hid (KR.out.bw hb9)
  clear hb9
  generalize S (N zs at_) 32 = c0 at *
  generalize S (N zs (at_ + 1)) 24 = c1 at *
  generalize S (N zs (at_ + 2)) 22 = c2 at *
  generalize S (N zs (at_ + 3)) 24 = c3 at *
  go_upto_region 2 with fail
  obtain ⟨g7, hg7⟩ : ∃ g7, w1.heap.size = g7 := ⟨_, rfl⟩
  have K7 := Lib.hid (Blk.new w1 23 #[.int .i64 c0, .int .i64 c1, .int .i64 c2, .int .i64 c3])
  have HG7 := Lib.hid (show g < g7 by have := KR.out.lt; omega)
  have hb9 := Bw.alloc (Bw.refl w1) (.cells #[.int .i64 c0, .int .i64 c1, .int .i64 c2, .int .i64 c3] 23)
  replace HBW := Lib.hid (HBW.out.trans hb9)
  replace KR := Lib.hid (KR.out.bw hb9)
  rw [hg7] at K7 ⊢
  clear hb9
  generalize World.alloc w1 _ = w2 at *
  have HG := Lib.hid hg
  clear hg7 hg
  have d0 := HB0.out
  have d1 := HB1.out
  have d2 := HB2.out
  have d3 := HB3.out
  cases tame with
  | false =>
    go_wp2_with (first | ((with_reducible refine at_load 23 (.tmp 7) ?_); refine wpList_load_row rfl 23 _ rfl g7 rfl 23 #[.int .i64 c0, .int .i64 c1, .int .i64 c2, .int .i64 c3] (0, 0) _ K7.out Tryd.underlying23 rfl (by kernel_rfl) ?_) | ((with_reducible refine at_store 23 (.tmp 6) (.tmp 45) ?_); refine wpList_store_row rfl 23 (.tmp 6) (.tmp 45) rfl g #[.int .i64 c0, .int .i64 c1, .int .i64 c2, .int .i64 c3] rfl rfl 23 _ KR.out (by kernel_rfl) rfl (by simp [Value.oneCell']) ?_))
    have F9 := KR.out.row #[.int .i64 c0, .int .i64 c1, .int .i64 c2, .int .i64 c3]
    have B9 := Bw.setRow HBW.out (Nat.le_of_eq HG.out) #[.int .i64 c0, .int .i64 c1, .int .i64 c2, .int .i64 c3]
    refine bodyPost_ret (v := .agg #[.int .i64 c0, .int .i64 c1, .int .i64 c2, .int .i64 c3]) ?_ rfl ⟨by rw [HR.out 0, HR.out 1, HR.out 2, HR.out 3]; rfl, B9⟩
    exact results_cell_row (p := 6) rfl _ _ g _ _ (0, 0) _ rfl F9 Tryd.underlying23 rfl (by kernel_rfl)
  | true =>
    have k0 := K7.out.cell (j := 0) (v := .int .i64 c0) rfl
    have k1 := K7.out.cell (j := 1) (v := .int .i64 c1) rfl
    have k2 := K7.out.cell (j := 2) (v := .int .i64 c2) rfl
    have k3 := K7.out.cell (j := 3) (v := .int .i64 c3) rfl
    have f0 := K7.out.frozen 0
    have f1 := K7.out.frozen 1
    have f2 := K7.out.frozen 2
    have f3 := K7.out.frozen 3
    go_upto_region 4 with fail
    have K8 := (((K7.out.set 0 (.int .i64 (c0.tdiv 2))).set 1 (.int .i64 (c1.tdiv 2))).set 2 (.int .i64 (c2.tdiv 2))).set 3 (.int .i64 (c3.tdiv 1000))
    have hx1 := Kx.set (j := 0) K7.out.lt (.int .i64 (c0.tdiv 2))
    have hx2 := hx1.trans (Kx.set (j := 1) (K7.out.set 0 (.int .i64 (c0.tdiv 2))).lt (.int .i64 (c1.tdiv 2)))
    have hx3 := hx2.trans (Kx.set (j := 2) ((K7.out.set 0 (.int .i64 (c0.tdiv 2))).set 1 (.int .i64 (c1.tdiv 2))).lt (.int .i64 (c2.tdiv 2)))
    have hx4 := hx3.trans (Kx.set (j := 3) (((K7.out.set 0 (.int .i64 (c0.tdiv 2))).set 1 (.int .i64 (c1.tdiv 2))).set 2 (.int .i64 (c2.tdiv 2))).lt (.int .i64 (c3.tdiv 1000)))
    have K9 : Hid (Blk ((((w2.setCell ⟨g7, 0, none⟩ (.int .i64 (c0.tdiv 2))).setCell ⟨g7, 1, none⟩ (.int .i64 (c1.tdiv 2))).setCell ⟨g7, 2, none⟩ (.int .i64 (c2.tdiv 2))).setCell ⟨g7, 3, none⟩ (.int .i64 (c3.tdiv 1000))) g7 23 #[.int .i64 (c0.tdiv 2), .int .i64 (c1.tdiv 2), .int .i64 (c2.tdiv 2), .int .i64 (c3.tdiv 1000)]) := Lib.hid K8
    replace HBW := Lib.hid (hx4.bw HBW.out (by have := HG.out; have := HG7.out; omega))
    replace KR := Lib.hid (hx4.blk KR.out (by have := HG7.out; omega))
    clear K8 hx1 hx2 hx3 hx4 k0 k1 k2 k3 f0 f1 f2 f3 K7
    generalize World.setCell (World.setCell (World.setCell (World.setCell w2 _ _) _ _) _ _) _ _ = w3 at *
    go_wp2_with (first | ((with_reducible refine at_load 23 (.tmp 7) ?_); refine wpList_load_row rfl 23 _ rfl g7 rfl 23 #[.int .i64 (c0.tdiv 2), .int .i64 (c1.tdiv 2), .int .i64 (c2.tdiv 2), .int .i64 (c3.tdiv 1000)] (0, 0) _ K9.out Tryd.underlying23 rfl (by kernel_rfl) ?_) | ((with_reducible refine at_store 23 (.tmp 6) (.tmp 45) ?_); refine wpList_store_row rfl 23 (.tmp 6) (.tmp 45) rfl g #[.int .i64 (c0.tdiv 2), .int .i64 (c1.tdiv 2), .int .i64 (c2.tdiv 2), .int .i64 (c3.tdiv 1000)] rfl rfl 23 _ KR.out (by kernel_rfl) rfl (by simp [Value.oneCell']) ?_))
    have F9 := KR.out.row #[.int .i64 (c0.tdiv 2), .int .i64 (c1.tdiv 2), .int .i64 (c2.tdiv 2), .int .i64 (c3.tdiv 1000)]
    have B9 := Bw.setRow HBW.out (Nat.le_of_eq HG.out) #[.int .i64 (c0.tdiv 2), .int .i64 (c1.tdiv 2), .int .i64 (c2.tdiv 2), .int .i64 (c3.tdiv 1000)]
    refine bodyPost_ret (v := .agg #[.int .i64 (c0.tdiv 2), .int .i64 (c1.tdiv 2), .int .i64 (c2.tdiv 2), .int .i64 (c3.tdiv 1000)]) ?_ rfl ⟨by rw [HR.out 0, HR.out 1, HR.out 2, HR.out 3]; rfl, B9⟩
    exact results_cell_row (p := 6) rfl _ _ g _ _ (0, 0) _ rfl F9 Tryd.underlying23 rfl (by kernel_rfl)


theorem tdiv_le {a k A : Int} (hk : 0 < k) (h : -A ≤ a ∧ a ≤ A) : -(A / k) ≤ a.tdiv k ∧ a.tdiv k ≤ A / k := by
  by_cases h0 : 0 ≤ a
  · rw [Int.tdiv_eq_ediv_of_nonneg h0]
    have h1 := Int.ediv_le_ediv hk h.2
    have h2 := Int.ediv_nonneg h0 (Int.le_of_lt hk)
    have h3 := Int.ediv_nonneg (show 0 ≤ A by omega) (Int.le_of_lt hk)
    omega
  · have e : a.tdiv k = -((-a) / k) := by
      rw [← Int.tdiv_eq_ediv_of_nonneg (show 0 ≤ -a by omega), Int.neg_tdiv, Int.neg_neg]
    rw [e]
    have h1 := Int.ediv_le_ediv hk (show -a ≤ A by omega)
    have h2 := Int.ediv_nonneg (show 0 ≤ -a by omega) (Int.le_of_lt hk)
    have h3 := Int.ediv_nonneg (show 0 ≤ A by omega) (Int.le_of_lt hk)
    omega
def ofX28 (tame : Bool) (zs : List Int) : Nat → Int := fun i => [1 + bel (nth zs 0) 63, 0, bel (nth zs 1) 604800, bel (nth zs 2) 65536, sgE (nth zs 3) 32, sgE (nth zs 4) 24, sgE (nth zs 5) 16, axT tame zs 6 0, axT tame zs 6 1, axT tame zs 6 2, axT tame zs 6 3, axT tame zs 10 0, axT tame zs 10 1, axT tame zs 10 2, axT tame zs 10 3, axT tame zs 14 0, axT tame zs 14 1, axT tame zs 14 2, axT tame zs 14 3].getD i 0
theorem axT_bd (tame : Bool) (zs : List Int) (at_ : Int) : (-2147483648 ≤ axT tame zs at_ 0 ∧ axT tame zs at_ 0 ≤ 2147483647) ∧ (-8388608 ≤ axT tame zs at_ 1 ∧ axT tame zs at_ 1 ≤ 8388607) ∧ (-2097152 ≤ axT tame zs at_ 2 ∧ axT tame zs at_ 2 ≤ 2097151) ∧ (-8388608 ≤ axT tame zs at_ 3 ∧ axT tame zs at_ 3 ≤ 8388607) := by
  have h0 := (sg_bd (nth zs at_)).1
  have h1 := (sg_bd (nth zs (at_ + 1))).2.1
  have h2 := (sg_bd (nth zs (at_ + 2))).2.2.1
  have h3 := (sg_bd (nth zs (at_ + 3))).2.1
  cases tame with
  | false => exact ⟨h0, h1, h2, h3⟩
  | true =>
    show (-2147483648 ≤ (sgE (nth zs at_) 32).tdiv 2 ∧ (sgE (nth zs at_) 32).tdiv 2 ≤ 2147483647) ∧ (-8388608 ≤ (sgE (nth zs (at_ + 1)) 24).tdiv 2 ∧ (sgE (nth zs (at_ + 1)) 24).tdiv 2 ≤ 8388607) ∧ (-2097152 ≤ (sgE (nth zs (at_ + 2)) 22).tdiv 2 ∧ (sgE (nth zs (at_ + 2)) 22).tdiv 2 ≤ 2097151) ∧ (-8388608 ≤ (sgE (nth zs (at_ + 3)) 24).tdiv 1000 ∧ (sgE (nth zs (at_ + 3)) 24).tdiv 1000 ≤ 8388607)
    generalize sgE (nth zs at_) 32 = a at *
    generalize sgE (nth zs (at_ + 1)) 24 = b at *
    generalize sgE (nth zs (at_ + 2)) 22 = c at *
    generalize sgE (nth zs (at_ + 3)) 24 = d at *
    have t0 := tdiv_le (a := a) (k := 2) (A := 2147483648) (by decide) (by omega)
    have t1 := tdiv_le (a := b) (k := 2) (A := 8388608) (by decide) (by omega)
    have t2 := tdiv_le (a := c) (k := 2) (A := 2097152) (by decide) (by omega)
    have t3 := tdiv_le (a := d) (k := 1000) (A := 8388608) (by decide) (by omega)
    omega
theorem axT_tame (zs : List Int) (at_ : Int) : (-1073741824 ≤ axT true zs at_ 0 ∧ axT true zs at_ 0 ≤ 1073741824) ∧ (-4194304 ≤ axT true zs at_ 1 ∧ axT true zs at_ 1 ≤ 4194304) ∧ (-1048576 ≤ axT true zs at_ 2 ∧ axT true zs at_ 2 ≤ 1048576) ∧ (-8388 ≤ axT true zs at_ 3 ∧ axT true zs at_ 3 ≤ 8388) := by
  have h0 := (sg_bd (nth zs at_)).1
  have h1 := (sg_bd (nth zs (at_ + 1))).2.1
  have h2 := (sg_bd (nth zs (at_ + 2))).2.2.1
  have h3 := (sg_bd (nth zs (at_ + 3))).2.1
  show (-1073741824 ≤ (sgE (nth zs at_) 32).tdiv 2 ∧ (sgE (nth zs at_) 32).tdiv 2 ≤ 1073741824) ∧ (-4194304 ≤ (sgE (nth zs (at_ + 1)) 24).tdiv 2 ∧ (sgE (nth zs (at_ + 1)) 24).tdiv 2 ≤ 4194304) ∧ (-1048576 ≤ (sgE (nth zs (at_ + 2)) 22).tdiv 2 ∧ (sgE (nth zs (at_ + 2)) 22).tdiv 2 ≤ 1048576) ∧ (-8388 ≤ (sgE (nth zs (at_ + 3)) 24).tdiv 1000 ∧ (sgE (nth zs (at_ + 3)) 24).tdiv 1000 ≤ 8388)
  generalize sgE (nth zs at_) 32 = a at *
  generalize sgE (nth zs (at_ + 1)) 24 = b at *
  generalize sgE (nth zs (at_ + 2)) 22 = c at *
  generalize sgE (nth zs (at_ + 3)) 24 = d at *
  have t0 := tdiv_le (a := a) (k := 2) (A := 2147483648) (by decide) (by omega)
  have t1 := tdiv_le (a := b) (k := 2) (A := 8388608) (by decide) (by omega)
  have t2 := tdiv_le (a := c) (k := 2) (A := 2097152) (by decide) (by omega)
  have t3 := tdiv_le (a := d) (k := 1000) (A := 8388608) (by decide) (by omega)
  omega
theorem okZ32 {z : Int} (h : -2147483648 ≤ z ∧ z ≤ 2147483647) : okZ 32 z = true := by
  apply decide_eq_true
  rw [show lowR 32 true = -2147483648 from by decide, show highR 32 true = 2147483647 from by decide]; exact h
theorem okZ24 {z : Int} (h : -8388608 ≤ z ∧ z ≤ 8388607) : okZ 24 z = true := by
  apply decide_eq_true
  rw [show lowR 24 true = -8388608 from by decide, show highR 24 true = 8388607 from by decide]; exact h
theorem okZ22 {z : Int} (h : -2097152 ≤ z ∧ z ≤ 2097151) : okZ 22 z = true := by
  apply decide_eq_true
  rw [show lowR 22 true = -2097152 from by decide, show highR 22 true = 2097151 from by decide]; exact h
theorem ofX28_ok (tame : Bool) (zs : List Int) : errE (ofX28 tame zs) = 0 := by
  have b0 := bel_bd (nth zs 0) 63 (by decide)
  have b2 := bel_bd (nth zs 1) 604800 (by decide)
  have b3 := bel_bd (nth zs 2) 65536 (by decide)
  have a6 := axT_bd tame zs 6
  have a10 := axT_bd tame zs 10
  have a14 := axT_bd tame zs 14
  refine errE_yes ?_ (fun i hi => ?_) (fun i hi => ?_)
  · unfold hdE
    show 1 ≤ 1 + bel (nth zs 0) 63 ∧ 1 + bel (nth zs 0) 63 ≤ 63 ∧ 0 ≤ (0 : Int) ∧ (0 : Int) ≤ 255 ∧ 0 ≤ bel (nth zs 1) 604800 ∧ bel (nth zs 1) 604800 ≤ 604799 ∧ 0 ≤ bel (nth zs 2) 65536 ∧ bel (nth zs 2) 65536 ≤ 65535
    omega
  · match i, hi with
    | 0, _ => exact sgn_ok _ 32 (by decide)
    | 1, _ => exact sgn_ok _ 24 (by decide)
    | 2, _ => exact sgn_ok _ 16 (by decide)
  · match i, hi with
    | 0, _ => exact ⟨okZ32 a6.1, okZ32 a10.1, okZ32 a14.1⟩
    | 1, _ => exact ⟨okZ24 a6.2.1, okZ24 a10.2.1, okZ24 a14.2.1⟩
    | 2, _ => exact ⟨okZ22 a6.2.2.1, okZ22 a10.2.2.1, okZ22 a14.2.2.1⟩
    | 3, _ => exact ⟨okZ24 a6.2.2.2, okZ24 a10.2.2.2, okZ24 a14.2.2.2⟩
theorem of28X_any (tame : Bool) (zs : List Int) (v : Value) (w : World) (hv : RdI w v zs) : Calls Tryd.prog 16 #[v, .bool tame] w fun e w' => e = .returned (.agg (eV (ofX28 tame zs))) ∧ Bw w w' := by
  have HV := Lib.hid hv
  obtain ⟨ad, cap, rfl⟩ := hv.form
  clear hv
  have NH := Lib.hid (fun i W hW => Nth_any zs (.slice ad zs.length cap) i W hW)
  have SG32 := Lib.hid (fun n W => signed_any n 32 (by decide) W)
  have SG24 := Lib.hid (fun n W => signed_any n 24 (by decide) W)
  have SG22 := Lib.hid (fun n W => signed_any n 22 (by decide) W)
  have SG16 := Lib.hid (fun n W => signed_any n 16 (by decide) W)
  have A6 : Hid (∀ W, RdI W (.slice ad zs.length cap) zs → Calls Tryd.prog 41 #[.slice ad zs.length cap, .int .i64 6, .bool tame] W fun e w' => e = .returned (.agg #[.int .i64 (axT tame zs 6 0), .int .i64 (axT tame zs 6 1), .int .i64 (axT tame zs 6 2), .int .i64 (axT tame zs 6 3)]) ∧ Bw W w') := Lib.hid (fun W hW => axis28_any tame zs (.slice ad zs.length cap) 6 W hW (by decide) (by decide))
  have A10 : Hid (∀ W, RdI W (.slice ad zs.length cap) zs → Calls Tryd.prog 41 #[.slice ad zs.length cap, .int .i64 10, .bool tame] W fun e w' => e = .returned (.agg #[.int .i64 (axT tame zs 10 0), .int .i64 (axT tame zs 10 1), .int .i64 (axT tame zs 10 2), .int .i64 (axT tame zs 10 3)]) ∧ Bw W w') := Lib.hid (fun W hW => axis28_any tame zs (.slice ad zs.length cap) 10 W hW (by decide) (by decide))
  have A14 : Hid (∀ W, RdI W (.slice ad zs.length cap) zs → Calls Tryd.prog 41 #[.slice ad zs.length cap, .int .i64 14, .bool tame] W fun e w' => e = .returned (.agg #[.int .i64 (axT tame zs 14 0), .int .i64 (axT tame zs 14 1), .int .i64 (axT tame zs 14 2), .int .i64 (axT tame zs 14 3)]) ∧ Bw W w') := Lib.hid (fun W hW => axis28_any tame zs (.slice ad zs.length cap) 14 W hW (by decide) (by decide))
  have BE := Lib.hid (fun n k W h1 h2 => Below_any n k W h1 h2)
  have HBD := Lib.hid (bel_bd (nth zs 0) 63 (by decide))
  obtain ⟨g, hg⟩ : ∃ g, w.heap.size = g := ⟨_, rfl⟩
  have HBW := Lib.hid (Bw.alloc (Bw.refl w) (.cells #[.int .i64 0, .int .i64 0, .int .i64 0, .int .i64 0, .int .i64 0, .int .i64 0, .int .i64 0, .int .i64 0, .int .i64 0, .int .i64 0, .int .i64 0, .int .i64 0, .int .i64 0, .int .i64 0, .int .i64 0, .int .i64 0, .int .i64 0, .int .i64 0, .int .i64 0] 25))
  have KR := Lib.hid (Blk.new w 25 #[.int .i64 0, .int .i64 0, .int .i64 0, .int .i64 0, .int .i64 0, .int .i64 0, .int .i64 0, .int .i64 0, .int .i64 0, .int .i64 0, .int .i64 0, .int .i64 0, .int .i64 0, .int .i64 0, .int .i64 0, .int .i64 0, .int .i64 0, .int .i64 0, .int .i64 0])
  rw [hg] at KR
  go_enter Tryd.func16, Tryd.ntmps16
  go_upto_region 1 with fail
  obtain ⟨W0, hW0⟩ : ∃ W0, w.alloc (.cells #[.int .i64 0, .int .i64 0, .int .i64 0, .int .i64 0, .int .i64 0, .int .i64 0, .int .i64 0, .int .i64 0, .int .i64 0, .int .i64 0, .int .i64 0, .int .i64 0, .int .i64 0, .int .i64 0, .int .i64 0, .int .i64 0, .int .i64 0, .int .i64 0, .int .i64 0] 25) = W0 := ⟨_, rfl⟩
  rw [hW0] at HBW KR ⊢
  clear hW0
  have hbd := HBD.out
  go_wp2_with (first | (go_at_call 39; (with_reducible refine Calls.mono (NH.out _ _ (HV.out.mono HBW.out)) ?_); rintro e1 w1 ⟨rfl, hb9⟩; replace HBW := Lib.hid (HBW.out.trans hb9); replace KR := Lib.hid (KR.out.bw hb9); clear hb9) | (go_at_call 17; (with_reducible refine Calls.mono (BE.out _ _ _ ?_ ?_) ?_); (focus decide); (focus decide); rintro e1 w1 ⟨rfl, hb9⟩; replace HBW := Lib.hid (HBW.out.trans hb9); replace KR := Lib.hid (KR.out.bw hb9); clear hb9))
  refine Calls.mono (SG32.out _ _) ?_
  rintro e1 w1 ⟨rfl, hb9⟩
  replace HBW := Lib.hid (HBW.out.trans hb9)
  replace KR := Lib.hid (KR.out.bw hb9)
  clear hb9
  go_wp2_with (first | (go_at_call 39; (with_reducible refine Calls.mono (NH.out _ _ (HV.out.mono HBW.out)) ?_); rintro e1 w1 ⟨rfl, hb9⟩; replace HBW := Lib.hid (HBW.out.trans hb9); replace KR := Lib.hid (KR.out.bw hb9); clear hb9) | (go_at_call 17; (with_reducible refine Calls.mono (BE.out _ _ _ ?_ ?_) ?_); (focus decide); (focus decide); rintro e1 w1 ⟨rfl, hb9⟩; replace HBW := Lib.hid (HBW.out.trans hb9); replace KR := Lib.hid (KR.out.bw hb9); clear hb9))
  refine Calls.mono (SG24.out _ _) ?_
  rintro e1 w1 ⟨rfl, hb9⟩
  replace HBW := Lib.hid (HBW.out.trans hb9)
  replace KR := Lib.hid (KR.out.bw hb9)
  clear hb9
  go_wp2_with (first | (go_at_call 39; (with_reducible refine Calls.mono (NH.out _ _ (HV.out.mono HBW.out)) ?_); rintro e1 w1 ⟨rfl, hb9⟩; replace HBW := Lib.hid (HBW.out.trans hb9); replace KR := Lib.hid (KR.out.bw hb9); clear hb9) | (go_at_call 17; (with_reducible refine Calls.mono (BE.out _ _ _ ?_ ?_) ?_); (focus decide); (focus decide); rintro e1 w1 ⟨rfl, hb9⟩; replace HBW := Lib.hid (HBW.out.trans hb9); replace KR := Lib.hid (KR.out.bw hb9); clear hb9))
  refine Calls.mono (SG16.out _ _) ?_
  rintro e1 w1 ⟨rfl, hb9⟩
  replace HBW := Lib.hid (HBW.out.trans hb9)
  replace KR := Lib.hid (KR.out.bw hb9)
  clear hb9
  go_wp2_with fail
  refine Calls.mono (A6.out _ (HV.out.mono HBW.out)) ?_
  rintro e1 w1 ⟨rfl, hb9⟩
  replace HBW := Lib.hid (HBW.out.trans hb9)
  replace KR := Lib.hid (KR.out.bw hb9)
  clear hb9
  go_wp2_with fail
  refine Calls.mono (A10.out _ (HV.out.mono HBW.out)) ?_
  rintro e1 w1 ⟨rfl, hb9⟩
  replace HBW := Lib.hid (HBW.out.trans hb9)
  replace KR := Lib.hid (KR.out.bw hb9)
  clear hb9
  go_wp2_with fail
  refine Calls.mono (A14.out _ (HV.out.mono HBW.out)) ?_
  rintro e1 w1 ⟨rfl, hb9⟩
  replace HBW := Lib.hid (HBW.out.trans hb9)
  replace KR := Lib.hid (KR.out.bw hb9)
  clear hb9
  go_wp2_with ((with_reducible refine at_store 25 (.tmp 4) (.tmp 34) ?_); refine wpList_store_row rfl 25 (.tmp 4) (.tmp 34) rfl g (eV (ofX28 tame zs)) rfl rfl 25 _ KR.out (by kernel_rfl) rfl (by simp [Value.oneCell', eV]) ?_)
  have F9 := KR.out.row (eV (ofX28 tame zs))
  have B9 := Bw.setRow HBW.out (Nat.le_of_eq hg) (eV (ofX28 tame zs))
  refine bodyPost_ret (v := .agg (eV (ofX28 tame zs))) ?_ rfl ⟨rfl, B9⟩
  exact results_cell_row (p := 4) rfl _ _ g _ _ (0, 0) _ rfl F9 Tryd.underlying25 rfl (by kernel_rfl)
end Go.Proofs.Sky

namespace Go.Proofs.Sky
open Go Go.RowKit Go.Shelf
set_option maxHeartbeats 4000000
set_option maxRecDepth 8000
/-! chapter 28: the law's at, negative, within -/
def lawT (X : Nat → Int) (a : Int) : Int := (X 2 * 1000000000 + a) % 604800000000000
theorem atE_own {X : Nat → Int} {a : Int} (h : errE X = 0) (ha : -7200000000000 ≤ a ∧ a ≤ 7200000000000) : atE X (lawT X a) = (a, 0) := by
  have hb := t0_bd h
  obtain ⟨T0, hT0⟩ : ∃ T0, T0 = X 2 := ⟨_, rfl⟩
  have hl : 0 ≤ lawT X a ∧ lawT X a < 604800000000000 := by unfold lawT; omega
  have hd : turn2 (turn1 (lawT X a - X 2 * 1000000000)) = a := by
    unfold lawT
    rw [← hT0] at hb ⊢
    clear hl hT0
    unfold turn2 turn1
    split <;> split <;> omega
  unfold atE
  rw [if_neg (by omega), if_neg (by omega), hd, if_neg (by omega)]
theorem at28L_any (X : Nat → Int) (a : Int) (h : errE X = 0) (ha : -7200000000000 ≤ a ∧ a ≤ 7200000000000) (w : World) : Calls Tryd.prog 18 #[.agg (eV X), .int .i64 a] w fun e w' => e = .returned (.int .i64 (lawT X a)) ∧ Bw w w' := by
  have hb := t0_bd h
  unfold lawT
  have KX := Lib.hid (Blk.new w 25 (eV X))
  have HW := Lib.hid (Bw.alloc (Bw.refl w) (.cells (eV X) 25))
  have t2 : (eV X)[2]? = some (.int .i64 (X 2)) := rfl
  obtain ⟨g, hg⟩ : ∃ g, w.heap.size = g := ⟨_, rfl⟩
  rw [hg] at KX
  generalize X 2 = T0 at *
  have htm : (T0 * 1000000000 + a + 604800000000000).tmod 604800000000000 = (T0 * 1000000000 + a) % 604800000000000 := by rw [Int.tmod_eq_emod_of_nonneg (by omega)]; omega
  obtain ⟨A, hA⟩ : ∃ A, A = eV X := ⟨_, rfl⟩
  rw [← hA] at KX HW t2 ⊢
  clear hA
  go_enter Tryd.func18, Tryd.ntmps18
  go_upto_region 1 with fail
  obtain ⟨W0, hW0⟩ : ∃ W0, w.alloc (.cells A 25) = W0 := ⟨_, rfl⟩
  rw [hW0] at KX HW ⊢
  clear hW0 hg
  have x2 := KX.out.cell t2
  go_wp2
  go_ret
  exact ⟨rfl, HW.out⟩
end Go.Proofs.Sky
