/-
  lemmas for the theorems of this claim. No conditions beyond those written in the statements.
-/
import Derived.Test.YtpmopobjlpfdaaaDoorAL5
set_option linter.unusedVariables false
set_option linter.unusedSimpArgs false
set_option linter.unnecessarySimpa false
namespace Go.Proofs.Sky
open Go Go.RowKit Go.Shelf
attribute [-go_sem] run_max_int2
attribute [local go_sem] run_mx28
set_option maxHeartbeats 4000000
set_option maxRecDepth 8000
/-! the almanac: At, bound, Error -/
def t3V (L : Nat → Int) : Array Value := #[.int .i64 (L 0), .int .i64 (L 1), .int .i64 (L 2)]
theorem pg_rg {W : World} {g : Nat} {T : TypeId} {x : Nat → Int} (hB : Blk W g T (pgV x)) (i : Nat) (hi : i < 3) : W.rangeAt g (4 + 3 * i) [.int .i64 (x (4 + 3 * i)), .int .i64 (x (5 + 3 * i)), .int .i64 (x (6 + 3 * i))] := by
  intro j v h
  have hj : j < 3 := (List.getElem?_eq_some_iff.1 h).1
  have key : v = .int .i64 (x (4 + 3 * i + j)) := by
    match j, hj with
    | 0, _ => obtain rfl := Option.some.inj h; rfl
    | 1, _ => obtain rfl := Option.some.inj h; show Value.int .i64 (x (5 + 3 * i)) = _; rw [show 5 + 3 * i = 4 + 3 * i + 1 by omega]
    | 2, _ => obtain rfl := Option.some.inj h; show Value.int .i64 (x (6 + 3 * i)) = _; rw [show 6 + 3 * i = 4 + 3 * i + 2 by omega]
  rw [key]
  exact hB.cell (pgV_at x _ (by omega))
def atP (x : Nat → Int) (t : Int) (j : Nat) : Int := if errTm x t = 0 then atQ (x (4 + 3 * j)) (x (5 + 3 * j)) (x (6 + 3 * j)) (arQ (t - x 1)) else 0
theorem t3V_congr {x y : Nat → Int} (h : ∀ j, j < 3 → x j = y j) : t3V x = t3V y := by
  unfold t3V; rw [h 0 (by omega), h 1 (by omega), h 2 (by omega)]
theorem AlAt_any (x : Nat → Int) (t : Int) (w : World) (hw : WdAt w) : Calls Tryd.prog 19 #[.agg (pgV x), .int .i64 t] w fun e w' => e = .returned (.tuple #[.agg (t3V (atP x t)), .int .i64 (errTm x t)]) ∧ Bw w w' := by
  have HWD := Lib.hid hw
  have CK := Lib.hid (fun W h => alcheck_any x t W h)
  have KX := Lib.hid ((Blk.new w 29 (pgV x)).alloc (.cells #[.int .i64 0, .int .i64 0, .int .i64 0] 27))
  have KP := Lib.hid (show Blk ((w.alloc (.cells (pgV x) 29)).alloc (.cells #[.int .i64 0, .int .i64 0, .int .i64 0] 27)) (w.heap.size + 1) 27 #[.int .i64 0, .int .i64 0, .int .i64 0] from by have h9 := Blk.new (w.alloc (.cells (pgV x) 29)) 27 #[.int .i64 0, .int .i64 0, .int .i64 0]; simp only [World.size_alloc] at h9; exact h9)
  have HW := Lib.hid (Bw.alloc (Bw.alloc (Bw.refl w) (.cells (pgV x) 29)) (.cells #[.int .i64 0, .int .i64 0, .int .i64 0] 27))
  have HRG := Lib.hid (fun (W : World) (g : Nat) (hB : Blk W g 29 (pgV x)) (i : Nat) (hi : i < 3) => pg_rg hB i hi)
  have H1 : Hid ((pgV x)[1]? = some (.int .i64 (x 1))) := Lib.hid rfl
  have HOK := Lib.hid (fun (h : errTm x t = 0) => And.intro (pg_lim (errTm_ok h).1) (errTm_ok h).2)
  have HAP := Lib.hid (show ∀ j, atP x t j = if errTm x t = 0 then atQ (x (4 + 3 * j)) (x (5 + 3 * j)) (x (6 + 3 * j)) (arQ (t - x 1)) else 0 from fun j => rfl)
  generalize atP x t = AP at *
  generalize errTm x t = et at *
  obtain ⟨A, hA⟩ : ∃ A, A = pgV x := ⟨_, rfl⟩
  have HSZ : Hid ((Tryd.prog.info? 29).map (·.size) = some A.size) := Lib.hid (by rw [hA]; kernel_rfl)
  rw [← hA] at CK KX KP HW HRG H1 ⊢
  clear hA hw
  obtain ⟨g, hg⟩ : ∃ g, w.heap.size = g := ⟨_, rfl⟩
  rw [hg] at KX KP
  have HG := Lib.hid hg
  go_enter Tryd.func19, Tryd.ntmps19
  go_upto_region 1 with fail
  obtain ⟨W0, hW0⟩ : ∃ W0, (w.alloc (.cells A 29)).alloc (.cells #[.int .i64 0, .int .i64 0, .int .i64 0] 27) = W0 := ⟨_, rfl⟩
  rw [hW0] at KX KP HW ⊢
  clear hW0 hg
  go_upto_region 2 with (first | ((with_reducible refine at_load 29 (.tmp 2) ?_); refine wpList_load_row rfl 29 _ rfl g rfl 29 A (0, 0) _ KX.out Tryd.underlying29 rfl HSZ.out ?_) | (go_at_call 38; (with_reducible refine Calls.mono (CK.out _ (HWD.out.bw HW.out)) ?_); rintro e1 w1 ⟨rfl, hb1⟩; replace KX := Lib.hid (KX.out.bw hb1); replace KP := Lib.hid (KP.out.bw hb1); replace HW := Lib.hid (HW.out.trans hb1); clear hb1))
  by_cases c1 : et = 0
  case neg =>
    have c1z : (et != 0) = true := by simpa using c1
    have HR := Lib.hid (show t3V AP = #[.int .i64 0, .int .i64 0, .int .i64 0] from t3V_congr (y := fun _ => 0) (fun j hj => by rw [HAP.out j, if_neg c1]))
    clear c1
    go_wp2_with ((with_reducible refine at_store 27 (.tmp 4) (.tmp 13) ?_); refine wpList_store_row rfl 27 (.tmp 4) (.tmp 13) rfl (g + 1) #[.int .i64 0, .int .i64 0, .int .i64 0] rfl rfl 27 _ KP.out (by kernel_rfl) rfl (by simp [Value.oneCell']) ?_)
    have F9 := KP.out.row #[.int .i64 0, .int .i64 0, .int .i64 0]
    have B9 := Bw.setRow HW.out (show w.heap.size ≤ g + 1 by have := HG.out; omega) #[.int .i64 0, .int .i64 0, .int .i64 0]
    refine bodyPost_ret (v := .tuple #[.agg #[.int .i64 0, .int .i64 0, .int .i64 0], .int .i64 et]) ?_ rfl ⟨by rw [HR.out], B9⟩
    exact results_two_row (p := 4) (u := 5) rfl _ _ (g + 1) _ rfl (run_loadVar_row _ (g + 1) 27 27 #[.int .i64 0, .int .i64 0, .int .i64 0] (0, 0) _ F9 Tryd.underlying27 rfl (by kernel_rfl))
  case pos =>
    obtain ⟨⟨_, hx1, _, _, hx3⟩, ht0, ht1⟩ := HOK.out c1
    subst c1
    obtain ⟨a0, b0, d0⟩ := hx3 0 (by omega)
    obtain ⟨a1, b1, d1⟩ := hx3 1 (by omega)
    obtain ⟨a2, b2, d2⟩ := hx3 2 (by omega)
    have hab := arQ_bd (t - x 1)
    have HP0 := Lib.hid (show AP 0 = atQ (x 4) (x 5) (x 6) (arQ (t - x 1)) from by rw [HAP.out 0, if_pos rfl])
    have HP1 := Lib.hid (show AP 1 = atQ (x 7) (x 8) (x 9) (arQ (t - x 1)) from by rw [HAP.out 1, if_pos rfl])
    have HP2 := Lib.hid (show AP 2 = atQ (x 10) (x 11) (x 12) (arQ (t - x 1)) from by rw [HAP.out 2, if_pos rfl])
    have AR := Lib.hid (fun W => around_any (t - x 1) (by omega) W)
    have A0 := Lib.hid (fun W hB => al3at_any (x 4) (x 5) (x 6) (arQ (t - x 1)) g 4 a0 b0 d0 (by omega) W (HRG.out W g hB 0 (by omega)))
    have A1 := Lib.hid (fun W hB => al3at_any (x 7) (x 8) (x 9) (arQ (t - x 1)) g 7 a1 b1 d1 (by omega) W (HRG.out W g hB 1 (by omega)))
    have A2 := Lib.hid (fun W hB => al3at_any (x 10) (x 11) (x 12) (arQ (t - x 1)) g 10 a2 b2 d2 (by omega) W (HRG.out W g hB 2 (by omega)))
    have l1 := KX.out.cell H1.out
    clear a0 b0 d0 a1 b1 d1 a2 b2 d2 hx3 HOK HAP HRG
    generalize atQ (x 4) (x 5) (x 6) (arQ (t - x 1)) = q0 at *
    generalize atQ (x 7) (x 8) (x 9) (arQ (t - x 1)) = q1 at *
    generalize atQ (x 10) (x 11) (x 12) (arQ (t - x 1)) = q2 at *
    generalize arQ (t - x 1) = d at *
    generalize x 1 = x1 at *
    have HR := Lib.hid (show t3V AP = #[.int .i64 q0, .int .i64 q1, .int .i64 q2] from by unfold t3V; rw [HP0.out, HP1.out, HP2.out])
    go_upto_region 5 with (go_at_call 39; (with_reducible refine Calls.mono (AR.out _) ?_); rintro e1 w2 ⟨rfl, hb1⟩; replace KX := Lib.hid (KX.out.bw hb1); replace KP := Lib.hid (KP.out.bw hb1); replace HW := Lib.hid (HW.out.trans hb1); clear hb1 l1)
    go_wp2_with (first | (go_at_call 40; (first | (with_reducible refine Calls.mono (A0.out _ KX.out) ?_) | (with_reducible refine Calls.mono (A1.out _ KX.out) ?_) | (with_reducible refine Calls.mono (A2.out _ KX.out) ?_)); rintro e1 w3 ⟨rfl, hb1⟩; replace KX := Lib.hid (KX.out.bw hb1); replace KP := Lib.hid (KP.out.bw hb1); replace HW := Lib.hid (HW.out.trans hb1); clear hb1) | ((with_reducible refine at_store 27 (.tmp 4) (.tmp 29) ?_); refine wpList_store_row rfl 27 (.tmp 4) (.tmp 29) rfl (g + 1) #[.int .i64 q0, .int .i64 q1, .int .i64 q2] rfl rfl 27 _ KP.out (by kernel_rfl) rfl (by simp [Value.oneCell']) ?_))
    have F9 := KP.out.row #[.int .i64 q0, .int .i64 q1, .int .i64 q2]
    have B9 := Bw.setRow HW.out (show w.heap.size ≤ g + 1 by have := HG.out; omega) #[.int .i64 q0, .int .i64 q1, .int .i64 q2]
    refine bodyPost_ret (v := .tuple #[.agg #[.int .i64 q0, .int .i64 q1, .int .i64 q2], .int .i64 0]) ?_ rfl ⟨by rw [HR.out], B9⟩
    exact results_two_row (p := 4) (u := 5) rfl _ _ (g + 1) _ rfl (run_loadVar_row _ (g + 1) 27 27 #[.int .i64 q0, .int .i64 q1, .int .i64 q2] (0, 0) _ F9 Tryd.underlying27 rfl (by kernel_rfl))
def bdQ (x : Nat → Int) (t : Int) : Int := x 2 + (x 3 * ((arQ (t - x 1)).natAbs : Int) + 3599) / 3600
theorem albound_any (x : Nat → Int) (t : Int) (w : World) (h : errTm x t = 0) : Calls Tryd.prog 41 #[.agg (pgV x), .int .i64 t] w fun e w' => e = .returned (.int .i64 (bdQ x t)) ∧ Bw w w' := by
  obtain ⟨hp, ht0, ht1⟩ := errTm_ok h
  obtain ⟨_, hx1, hx2, hx3, _⟩ := pg_lim hp
  clear hp h
  have KX := Lib.hid (Blk.new w 29 (pgV x))
  have HW := Lib.hid (Bw.alloc (Bw.refl w) (.cells (pgV x) 29))
  have H1 : Hid ((pgV x)[1]? = some (.int .i64 (x 1))) := Lib.hid rfl
  have H2 : Hid ((pgV x)[2]? = some (.int .i64 (x 2))) := Lib.hid rfl
  have H3 : Hid ((pgV x)[3]? = some (.int .i64 (x 3))) := Lib.hid rfl
  have AR := Lib.hid (fun W => around_any (t - x 1) (by omega) W)
  have hab := arQ_bd (t - x 1)
  have hm := mx28_abs (arQ (t - x 1))
  have HB := Lib.hid (show bdQ x t = x 2 + (x 3 * ((arQ (t - x 1)).natAbs : Int) + 3599) / 3600 from rfl)
  generalize bdQ x t = bq at *
  generalize arQ (t - x 1) = d at *
  have hn : 0 ≤ (d.natAbs : Int) ∧ (d.natAbs : Int) ≤ 302400 := by omega
  generalize (d.natAbs : Int) = n at *
  obtain ⟨A, hA⟩ : ∃ A, A = pgV x := ⟨_, rfl⟩
  rw [← hA] at KX HW H1 H2 H3 ⊢
  clear hA
  generalize x 1 = x1 at *
  generalize x 2 = x2 at *
  generalize x 3 = x3 at *
  have hm3 : 0 ≤ x3 * n ∧ x3 * n ≤ 400000000000 := ⟨Int.mul_nonneg hx3.1 hn.1, Int.le_trans (Int.mul_le_mul hx3.2 hn.2 hn.1 (by decide)) (by decide)⟩
  have hq : (x3 * n + 3599).tdiv 3600 = (x3 * n + 3599) / 3600 := Int.tdiv_eq_ediv_of_nonneg (by omega)
  have hqb : 0 ≤ (x3 * n + 3599) / 3600 ∧ (x3 * n + 3599) / 3600 ≤ 400000000000 := by omega
  obtain ⟨g, hg⟩ : ∃ g, w.heap.size = g := ⟨_, rfl⟩
  rw [hg] at KX
  go_enter Tryd.func41, Tryd.ntmps41
  go_upto_region 1 with fail
  obtain ⟨W0, hW0⟩ : ∃ W0, w.alloc (.cells A 29) = W0 := ⟨_, rfl⟩
  rw [hW0] at KX HW ⊢
  clear hW0 hg
  have l1 := KX.out.cell H1.out
  have l2 := KX.out.cell H2.out
  have l3 := KX.out.cell H3.out
  go_wp2_with (go_at_call 39; (with_reducible refine Calls.mono (AR.out _) ?_); rintro e1 w2 ⟨rfl, hb1⟩; replace l1 := hb1.cell' l1; replace l2 := hb1.cell' l2; replace l3 := hb1.cell' l3; replace HW := Lib.hid (HW.out.trans hb1); clear hb1)
  go_ret
  exact ⟨ret_int (by rw [HB.out]), HW.out⟩
def bdP (x : Nat → Int) (t : Int) : Int := if errTm x t = 0 then bdQ x t else 0
theorem AlError_any (x : Nat → Int) (t : Int) (w : World) (hw : WdAt w) : Calls Tryd.prog 20 #[.agg (pgV x), .int .i64 t] w fun e w' => e = .returned (.tuple #[.int .i64 (bdP x t), .int .i64 (errTm x t)]) ∧ Bw w w' := by
  have HWD := Lib.hid hw
  have CK := Lib.hid (fun W h => alcheck_any x t W h)
  have BD := Lib.hid (fun W h => albound_any x t W h)
  have KX := Lib.hid (Blk.new w 29 (pgV x))
  have HW := Lib.hid (Bw.alloc (Bw.refl w) (.cells (pgV x) 29))
  have HB := Lib.hid (show bdP x t = if errTm x t = 0 then bdQ x t else 0 from rfl)
  generalize bdP x t = bp at *
  generalize bdQ x t = bq at *
  generalize errTm x t = et at *
  obtain ⟨A, hA⟩ : ∃ A, A = pgV x := ⟨_, rfl⟩
  have HSZ : Hid ((Tryd.prog.info? 29).map (·.size) = some A.size) := Lib.hid (by rw [hA]; kernel_rfl)
  rw [← hA] at CK BD KX HW ⊢
  clear hA hw
  obtain ⟨g, hg⟩ : ∃ g, w.heap.size = g := ⟨_, rfl⟩
  rw [hg] at KX
  go_enter Tryd.func20, Tryd.ntmps20
  go_upto_region 1 with fail
  obtain ⟨W0, hW0⟩ : ∃ W0, w.alloc (.cells A 29) = W0 := ⟨_, rfl⟩
  rw [hW0] at KX HW ⊢
  clear hW0 hg
  go_upto_region 2 with (first | ((with_reducible refine at_load 29 (.tmp 2) ?_); refine wpList_load_row rfl 29 _ rfl g rfl 29 A (0, 0) _ KX.out Tryd.underlying29 rfl HSZ.out ?_) | (go_at_call 38; (with_reducible refine Calls.mono (CK.out _ (HWD.out.bw HW.out)) ?_); rintro e1 w1 ⟨rfl, hb1⟩; replace KX := Lib.hid (KX.out.bw hb1); replace HW := Lib.hid (HW.out.trans hb1); clear hb1))
  by_cases c1 : et = 0
  case neg =>
    have c1z : (et != 0) = true := by simpa using c1
    have HR := Lib.hid (HB.out.trans (if_neg c1))
    clear c1
    go_wp2
    refine bodyPost_ret (v := .tuple #[.int .i64 0, .int .i64 et]) ?_ rfl ⟨by rw [HR.out], HW.out⟩
    simp [results, Tryd.results20, go_sem]
  case pos =>
    have HR := Lib.hid (HB.out.trans (if_pos c1))
    have BD2 := Lib.hid (fun W => BD.out W c1)
    subst c1
    go_wp2_with (first | ((with_reducible refine at_load 29 (.tmp 2) ?_); refine wpList_load_row rfl 29 _ rfl g rfl 29 A (0, 0) _ KX.out Tryd.underlying29 rfl HSZ.out ?_) | (go_at_call 41; (with_reducible refine Calls.mono (BD2.out _) ?_); rintro e1 w2 ⟨rfl, hb1⟩; replace HW := Lib.hid (HW.out.trans hb1); clear hb1))
    refine bodyPost_ret (v := .tuple #[.int .i64 bq, .int .i64 0]) ?_ rfl ⟨by rw [HR.out], HW.out⟩
    simp [results, Tryd.results20, go_sem]
end Go.Proofs.Sky
