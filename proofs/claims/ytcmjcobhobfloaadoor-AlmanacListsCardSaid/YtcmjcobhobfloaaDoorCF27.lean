/-
  lemmas for the theorems of this claim. No conditions beyond those written in the statements.
-/
import Derived.Test.YtcmjcobhobfloaaDoorB27
import Derived.Test.YtcmjcobhobfloaaDoorA27
set_option linter.unusedVariables false
set_option linter.unusedSimpArgs false
set_option linter.unnecessarySimpa false
namespace Go.Proofs.Sky
open Go Go.RowKit Go.Shelf
set_option maxHeartbeats 4000000
set_option maxRecDepth 8000
/-! chapter 27: the reference's around, axis, grown, At, Error -/
theorem Kx.row {g : Nat} {w : World} (hg : g < w.heap.size) (cs : Array Value) : Kx g w (w.setRow g cs) :=
  ⟨⟨rfl, rfl, rfl, by simp, fun k hk => setRow_other w g k cs (by omega)⟩, fun b _ hn => setRow_other w g b cs hn⟩
theorem raround27_any (d : Int) (h : -1000000000000 ≤ d ∧ d ≤ 1000000000000) (w : World) : Calls Tryd.prog 47 #[.int .i64 d] w fun e w' => e = .returned (.int .i64 (arQ d)) ∧ Bw w w' := by
  have HR := Lib.hid (show arQ d = (d + 302400) % 604800 - 302400 from rfl)
  obtain ⟨r, t1, r1, r2, ways⟩ := tmod_way d 604800 (by decide)
  by_cases q1 : r < -302400
  · have HE := Lib.hid (show r + 604800 = arQ d by rw [HR.out]; rcases ways with ⟨y, z⟩ | ⟨y, z⟩ <;> omega)
    have q2 : ¬ 302400 ≤ r + 604800 := by omega
    clear ways
    go_enter Tryd.func47, Tryd.ntmps47
    go_wp2
    go_ret
    exact ⟨ret_int HE.out, Bw.refl _⟩
  by_cases q2 : 302400 ≤ r
  · have HE := Lib.hid (show r - 604800 = arQ d by rw [HR.out]; rcases ways with ⟨y, z⟩ | ⟨y, z⟩ <;> omega)
    clear ways
    go_enter Tryd.func47, Tryd.ntmps47
    go_wp2
    go_ret
    exact ⟨ret_int HE.out, Bw.refl _⟩
  · have HE := Lib.hid (show r = arQ d by rw [HR.out]; rcases ways with ⟨y, z⟩ | ⟨y, z⟩ <;> omega)
    clear ways
    go_enter Tryd.func47, Tryd.ntmps47
    go_wp2
    go_ret
    exact ⟨ret_int HE.out, Bw.refl _⟩
theorem raxis27_any (l0 l1 l2 d : Int) (h0 : -524288 ≤ l0 ∧ l0 ≤ 524287) (h1 : -8192 ≤ l1 ∧ l1 ≤ 8191) (h2 : -2048 ≤ l2 ∧ l2 ≤ 2047) (hd : -302400 ≤ d ∧ d ≤ 302400) (w : World) :
    Calls Tryd.prog 48 #[.agg #[.int .i64 l0, .int .i64 l1, .int .i64 l2], .int .i64 d] w fun e w' => e = .returned (.int .i64 (atQ l0 l1 l2 d)) ∧ Bw w w' := by
  have b1 := mul_bd2 (show -8192 ≤ l1 ∧ l1 ≤ 8192 by omega) hd
  have b2 := mul_bd2 (show -2048 ≤ l2 ∧ l2 ≤ 2048 by omega) hd
  have b3 := mul_bd2 b2 hd
  obtain ⟨N, hN⟩ : ∃ N, N = 1024 * (64 * l0 + l1 * d) + l2 * d * d := ⟨_, rfl⟩
  have hNb : -1000000000000000 ≤ N ∧ N ≤ 1000000000000000 := by omega
  have HR := Lib.hid (show atQ l0 l1 l2 d = if N < 0 then -((-N + 512) / 1024) else (N + 512) / 1024 by
    unfold atQ rn
    rw [show (64 * l0 + l1 * d) * 1024 + l2 * d * d = N by omega]
    by_cases h : N < 0
    · rw [if_pos h, if_pos h]; omega
    · rw [if_neg h, if_neg h]; omega)
  generalize atQ l0 l1 l2 d = q2 at *
  have KX := Lib.hid (Blk.new w 25 #[.int .i64 l0, .int .i64 l1, .int .i64 l2])
  have HW := Lib.hid (Bw.alloc (Bw.refl w) (.cells #[.int .i64 l0, .int .i64 l1, .int .i64 l2] 25))
  obtain ⟨g, hg⟩ : ∃ g, w.heap.size = g := ⟨_, rfl⟩
  rw [hg] at KX
  go_enter Tryd.func48, Tryd.ntmps48
  go_upto_region 1 with fail
  obtain ⟨W0, hW0⟩ : ∃ W0, w.alloc (.cells #[.int .i64 l0, .int .i64 l1, .int .i64 l2] 25) = W0 := ⟨_, rfl⟩
  rw [hW0] at KX HW ⊢
  clear hW0 hg
  have c0 := KX.out.cell (show (#[.int .i64 l0, .int .i64 l1, .int .i64 l2] : Array Value)[0]? = _ from rfl)
  have c1 := KX.out.cell (show (#[.int .i64 l0, .int .i64 l1, .int .i64 l2] : Array Value)[1]? = _ from rfl)
  have c2 := KX.out.cell (show (#[.int .i64 l0, .int .i64 l1, .int .i64 l2] : Array Value)[2]? = _ from rfl)
  go_upto_region 2 with fail
  rw [← hN]
  clear c0 c1 c2 hN b1 b2 b3
  by_cases q1 : N < 0
  · have hq : (-N + 512).tdiv 1024 = (-N + 512) / 1024 := Int.tdiv_eq_ediv_of_nonneg (by omega)
    have hqb : 0 ≤ (-N + 512) / 1024 ∧ (-N + 512) / 1024 ≤ 1000000000000000 := by omega
    have HE := Lib.hid (HR.out.trans (if_pos q1))
    go_wp2
    go_ret
    exact ⟨ret_int HE.out.symm, HW.out⟩
  · have hq : (N + 512).tdiv 1024 = (N + 512) / 1024 := Int.tdiv_eq_ediv_of_nonneg (by omega)
    have hqb : 0 ≤ (N + 512) / 1024 ∧ (N + 512) / 1024 ≤ 1000000000000000 := by omega
    have HE := Lib.hid (HR.out.trans (if_neg q1))
    go_wp2
    go_ret
    exact ⟨ret_int HE.out.symm, HW.out⟩
theorem rgrown27_any (x : Nat → Int) (t : Int) (w : World) (h : errTm x t = 0) : Calls Tryd.prog 49 #[.agg (pgV x), .int .i64 t] w fun e w' => e = .returned (.int .i64 (bdQ x t)) ∧ Bw w w' := by
  obtain ⟨hp, ht0, ht1⟩ := errTm_ok h
  obtain ⟨_, hx1, hx2, hx3, _⟩ := pg_lim hp
  clear hp h
  have KX := Lib.hid (Blk.new w 27 (pgV x))
  have HW := Lib.hid (Bw.alloc (Bw.refl w) (.cells (pgV x) 27))
  have H1 : Hid ((pgV x)[1]? = some (.int .i64 (x 1))) := Lib.hid rfl
  have H2 : Hid ((pgV x)[2]? = some (.int .i64 (x 2))) := Lib.hid rfl
  have H3 : Hid ((pgV x)[3]? = some (.int .i64 (x 3))) := Lib.hid rfl
  have AR := Lib.hid (fun W => raround27_any (t - x 1) (by omega) W)
  have hab := arQ_bd (t - x 1)
  have HB := Lib.hid (show bdQ x t = x 2 + (x 3 * ((arQ (t - x 1)).natAbs : Int) + 3599) / 3600 from rfl)
  generalize bdQ x t = bq at *
  generalize arQ (t - x 1) = d at *
  have hn : 0 ≤ (d.natAbs : Int) ∧ (d.natAbs : Int) ≤ 302400 := by omega
  obtain ⟨n, hnn⟩ : ∃ n : Int, n = (d.natAbs : Int) := ⟨_, rfl⟩
  rw [← hnn] at HB hn
  have HNN := Lib.hid hnn
  clear hnn
  obtain ⟨A, hA⟩ : ∃ A, A = pgV x := ⟨_, rfl⟩
  rw [← hA] at KX HW H1 H2 H3 ⊢
  clear hA
  generalize x 1 = x1 at *
  generalize x 2 = x2 at *
  generalize x 3 = x3 at *
  have hm3 : 0 ≤ x3 * n ∧ x3 * n ≤ 400000000000 := ⟨Int.mul_nonneg hx3.1 hn.1, Int.le_trans (Int.mul_le_mul hx3.2 hn.2 hn.1 (by decide)) (by decide)⟩
  have hq : (x3 * n + 3599).tdiv 3600 = (x3 * n + 3599) / 3600 := Int.tdiv_eq_ediv_of_nonneg (by omega)
  have hqb : 0 ≤ (x3 * n + 3599) / 3600 ∧ (x3 * n + 3599) / 3600 ≤ 400000000000 := by omega
  obtain ⟨g, hg⟩ : ∃ g, w.heap.size = g := ⟨_, rfl⟩
  rw [hg] at KX
  go_enter Tryd.func49, Tryd.ntmps49
  go_upto_region 1 with fail
  obtain ⟨W0, hW0⟩ : ∃ W0, w.alloc (.cells A 27) = W0 := ⟨_, rfl⟩
  rw [hW0] at KX HW ⊢
  clear hW0 hg
  have l1 := KX.out.cell H1.out
  have l2 := KX.out.cell H2.out
  have l3 := KX.out.cell H3.out
  go_upto_region 2 with (go_at_call 47; (with_reducible refine Calls.mono (AR.out _) ?_); rintro e1 w2 ⟨rfl, hb1⟩; replace l1 := hb1.cell' l1; replace l2 := hb1.cell' l2; replace l3 := hb1.cell' l3; replace HW := Lib.hid (HW.out.trans hb1); clear hb1)
  by_cases q1 : d < 0
  · obtain rfl : n = -d := by have := HNN.out; omega
    go_wp2
    go_ret
    exact ⟨ret_int (by rw [HB.out]), HW.out⟩
  · obtain rfl : n = d := by have := HNN.out; omega
    go_wp2
    go_ret
    exact ⟨ret_int (by rw [HB.out]), HW.out⟩
theorem errTm_range {x : Nat → Int} {t : Int} (h : errPg x = 0) (ht : t < 0 ∨ 604800 ≤ t) : errTm x t = 2 := by
  unfold errTm
  rw [if_neg (by omega), if_pos ht]
theorem errTm_page {x : Nat → Int} {t : Int} (h : errPg x ≠ 0) : errTm x t = errPg x := by
  unfold errTm
  rw [if_pos h]
theorem errTm_good {x : Nat → Int} {t : Int} (h : errPg x = 0) (h0 : ¬ t < 0) (h1 : ¬ 604800 ≤ t) : errTm x t = 0 := by
  unfold errTm
  rw [if_neg (by omega), if_neg (by omega)]
theorem RAlError_any (x : Nat → Int) (t : Int) (w : World) : Calls Tryd.prog 21 #[.agg (pgV x), .int .i64 t] w fun e w' => e = .returned (.tuple #[.int .i64 (bdP x t), .int .i64 (errTm x t)]) ∧ Bw w w' := by
  have CK := Lib.hid (fun W => rPgCheck_any x W)
  have BD := Lib.hid (fun W h => rgrown27_any x t W h)
  have KX := Lib.hid (Blk.new w 27 (pgV x))
  have HW := Lib.hid (Bw.alloc (Bw.refl w) (.cells (pgV x) 27))
  have HB := Lib.hid (show bdP x t = if errTm x t = 0 then bdQ x t else 0 from rfl)
  have H1 := Lib.hid (fun h => errTm_page (x := x) (t := t) h)
  have H2 := Lib.hid (fun h h2 => errTm_range (x := x) (t := t) h h2)
  have H3 := Lib.hid (fun h h2 h3 => errTm_good (x := x) (t := t) h h2 h3)
  generalize bdP x t = bp at *
  generalize bdQ x t = bq at *
  generalize errTm x t = et at *
  generalize errPg x = ep at *
  obtain ⟨A, hA⟩ : ∃ A, A = pgV x := ⟨_, rfl⟩
  have HSZ : Hid ((Tryd.prog.info? 27).map (·.size) = some A.size) := Lib.hid (by rw [hA]; kernel_rfl)
  rw [← hA] at CK BD KX HW ⊢
  clear hA
  obtain ⟨g, hg⟩ : ∃ g, w.heap.size = g := ⟨_, rfl⟩
  rw [hg] at KX
  go_enter Tryd.func21, Tryd.ntmps21
  go_upto_region 1 with fail
  obtain ⟨W0, hW0⟩ : ∃ W0, w.alloc (.cells A 27) = W0 := ⟨_, rfl⟩
  rw [hW0] at KX HW ⊢
  clear hW0 hg
  go_upto_region 2 with (first | ((with_reducible refine at_load 27 (.tmp 2) ?_); refine wpList_load_row rfl 27 _ rfl g rfl 27 A (0, 0) _ KX.out Tryd.underlying27 rfl HSZ.out ?_) | (go_at_call 23; (with_reducible refine Calls.mono (CK.out _) ?_); rintro e1 w1 ⟨rfl, hb1⟩; replace KX := Lib.hid (KX.out.bw hb1); replace HW := Lib.hid (HW.out.trans hb1); clear hb1))
  by_cases c1 : ep = 0
  case neg =>
    have c1z : (ep != 0) = true := by simpa using c1
    have HET := Lib.hid (H1.out c1)
    have HR := Lib.hid (HB.out.trans (if_neg (by rw [HET.out]; exact c1)))
    clear c1
    go_wp2
    refine bodyPost_ret (v := .tuple #[.int .i64 0, .int .i64 ep]) ?_ rfl ⟨by rw [HR.out, HET.out], HW.out⟩
    simp [results, Tryd.results21, go_sem]
  case pos =>
    subst c1
    by_cases c2 : t < 0
    case pos =>
      have HET := Lib.hid (H2.out rfl (.inl c2))
      have HR := Lib.hid (HB.out.trans (if_neg (by rw [HET.out]; decide)))
      go_wp2
      refine bodyPost_ret (v := .tuple #[.int .i64 0, .int .i64 2]) ?_ rfl ⟨by rw [HR.out, HET.out], HW.out⟩
      simp [results, Tryd.results21, go_sem]
    by_cases c3 : 604800 ≤ t
    case pos =>
      have HET := Lib.hid (H2.out rfl (.inr c3))
      have HR := Lib.hid (HB.out.trans (if_neg (by rw [HET.out]; decide)))
      go_wp2
      refine bodyPost_ret (v := .tuple #[.int .i64 0, .int .i64 2]) ?_ rfl ⟨by rw [HR.out, HET.out], HW.out⟩
      simp [results, Tryd.results21, go_sem]
    have HET := Lib.hid (H3.out rfl (by omega) (by omega))
    have HR := Lib.hid (HB.out.trans (if_pos HET.out))
    have BD2 := Lib.hid (fun W => BD.out W HET.out)
    go_wp2_with (first | ((with_reducible refine at_load 27 (.tmp 2) ?_); refine wpList_load_row rfl 27 _ rfl g rfl 27 A (0, 0) _ KX.out Tryd.underlying27 rfl HSZ.out ?_) | (go_at_call 49; (with_reducible refine Calls.mono (BD2.out _) ?_); rintro e1 w2 ⟨rfl, hb1⟩; replace HW := Lib.hid (HW.out.trans hb1); clear hb1))
    refine bodyPost_ret (v := .tuple #[.int .i64 bq, .int .i64 0]) ?_ rfl ⟨by rw [HR.out, HET.out], HW.out⟩
    simp [results, Tryd.results21, go_sem]
theorem run_load_3 {o : Oper} {ρ : Operand → Value} (x : Operand) (ho : o.op = .load 25 x) {w : World} (g b : Nat) (hx : ρ x = .pointer (some ⟨g, b, none⟩)) {x0 x1 x2 : Int} (hB : w.rangeAt g b [.int .i64 x0, .int .i64 x1, .int .i64 x2]) : (execOp ρ o).run Tryd.prog w = .ok (.value (.agg #[.int .i64 x0, .int .i64 x1, .int .i64 x2])) w := by
  have h9 : (Instr.loadAt 25 (.pointer (some ⟨g, b, none⟩))).run Tryd.prog w = .ok (.agg #[.int .i64 x0, .int .i64 x1, .int .i64 x2]) w := run_loadAt_mid w g b 25 _ _ hB Tryd.underlying25 rfl (by kernel_rfl)
  unfold execOp
  simp only [ho, hx, Sem.run_bind, Sem.run_pure, Result.andThen_ok, h9]
theorem RAlAt_any (x : Nat → Int) (t : Int) (w : World) : Calls Tryd.prog 19 #[.agg (pgV x), .int .i64 t] w fun e w' => e = .returned (.tuple #[.agg (t3V (atP x t)), .int .i64 (errTm x t)]) ∧ Bw w w' := by
  have CK := Lib.hid (fun W => rPgCheck_any x W)
  have KX := Lib.hid ((Blk.new w 27 (pgV x)).alloc (.cells #[.int .i64 0, .int .i64 0, .int .i64 0] 25))
  have KP := Lib.hid (show Blk ((w.alloc (.cells (pgV x) 27)).alloc (.cells #[.int .i64 0, .int .i64 0, .int .i64 0] 25)) (w.heap.size + 1) 25 #[.int .i64 0, .int .i64 0, .int .i64 0] from by have h9 := Blk.new (w.alloc (.cells (pgV x) 27)) 25 #[.int .i64 0, .int .i64 0, .int .i64 0]; simp only [World.size_alloc] at h9; exact h9)
  have HW := Lib.hid (Bw.alloc (Bw.alloc (Bw.refl w) (.cells (pgV x) 27)) (.cells #[.int .i64 0, .int .i64 0, .int .i64 0] 25))
  have HRG := Lib.hid (fun (W : World) (g : Nat) (hB : Blk W g 27 (pgV x)) (i : Nat) (hi : i < 3) => pg_rg hB i hi)
  have H1 : Hid ((pgV x)[1]? = some (.int .i64 (x 1))) := Lib.hid rfl
  have HOK := Lib.hid (fun (h : errTm x t = 0) => And.intro (pg_lim (errTm_ok h).1) (errTm_ok h).2)
  have HAP := Lib.hid (show ∀ j, atP x t j = if errTm x t = 0 then atQ (x (4 + 3 * j)) (x (5 + 3 * j)) (x (6 + 3 * j)) (arQ (t - x 1)) else 0 from fun j => rfl)
  generalize atP x t = AP at *
  have E1 := Lib.hid (fun h => errTm_page (x := x) (t := t) h)
  have E2 := Lib.hid (fun h h2 => errTm_range (x := x) (t := t) h h2)
  have E3 := Lib.hid (fun h h2 h3 => errTm_good (x := x) (t := t) h h2 h3)
  generalize errTm x t = et at *
  generalize errPg x = ep at *
  obtain ⟨A, hA⟩ : ∃ A, A = pgV x := ⟨_, rfl⟩
  have HSZ : Hid ((Tryd.prog.info? 27).map (·.size) = some A.size) := Lib.hid (by rw [hA]; kernel_rfl)
  rw [← hA] at CK KX KP HW HRG H1 ⊢
  clear hA
  obtain ⟨g, hg⟩ : ∃ g, w.heap.size = g := ⟨_, rfl⟩
  rw [hg] at KX KP
  have HG := Lib.hid hg
  go_enter Tryd.func19, Tryd.ntmps19
  go_upto_region 1 with fail
  obtain ⟨W0, hW0⟩ : ∃ W0, (w.alloc (.cells A 27)).alloc (.cells #[.int .i64 0, .int .i64 0, .int .i64 0] 25) = W0 := ⟨_, rfl⟩
  rw [hW0] at KX KP HW ⊢
  clear hW0 hg
  go_upto_region 2 with (first | ((with_reducible refine at_load 27 (.tmp 2) ?_); refine wpList_load_row rfl 27 _ rfl g rfl 27 A (0, 0) _ KX.out Tryd.underlying27 rfl HSZ.out ?_) | (go_at_call 23; (with_reducible refine Calls.mono (CK.out _) ?_); rintro e1 w1 ⟨rfl, hb1⟩; replace KX := Lib.hid (KX.out.bw hb1); replace KP := Lib.hid (KP.out.bw hb1); replace HW := Lib.hid (HW.out.trans hb1); clear hb1))
  by_cases c1 : ep = 0
  case neg =>
    have c1z : (ep != 0) = true := by simpa using c1
    have HET := Lib.hid (E1.out c1)
    have HR := Lib.hid (show t3V AP = #[.int .i64 0, .int .i64 0, .int .i64 0] from t3V_congr (y := fun _ => 0) (fun j hj => by rw [HAP.out j, if_neg (by rw [HET.out]; exact c1)]))
    clear c1
    go_wp2_with ((with_reducible refine at_store 25 (.tmp 4) (.tmp 12) ?_); refine wpList_store_row rfl 25 (.tmp 4) (.tmp 12) rfl (g + 1) #[.int .i64 0, .int .i64 0, .int .i64 0] rfl rfl 25 _ KP.out (by kernel_rfl) rfl (by simp [Value.oneCell']) ?_)
    have F9 := KP.out.row #[.int .i64 0, .int .i64 0, .int .i64 0]
    have B9 := Bw.setRow HW.out (show w.heap.size ≤ g + 1 by have := HG.out; omega) #[.int .i64 0, .int .i64 0, .int .i64 0]
    refine bodyPost_ret (v := .tuple #[.agg #[.int .i64 0, .int .i64 0, .int .i64 0], .int .i64 ep]) ?_ rfl ⟨by rw [HR.out, HET.out], B9⟩
    exact results_two_row (p := 4) (u := 5) rfl _ _ (g + 1) _ rfl (run_loadVar_row _ (g + 1) 25 25 #[.int .i64 0, .int .i64 0, .int .i64 0] (0, 0) _ F9 Tryd.underlying25 rfl (by kernel_rfl))
  case pos =>
    subst c1
    by_cases c2 : t < 0
    case pos =>
      have HET := Lib.hid (E2.out rfl (.inl c2))
      have HR := Lib.hid (show t3V AP = #[.int .i64 0, .int .i64 0, .int .i64 0] from t3V_congr (y := fun _ => 0) (fun j hj => by rw [HAP.out j, if_neg (by rw [HET.out]; decide)]))
      go_wp2_with ((with_reducible refine at_store 25 (.tmp 4) (.tmp 20) ?_); refine wpList_store_row rfl 25 (.tmp 4) (.tmp 20) rfl (g + 1) #[.int .i64 0, .int .i64 0, .int .i64 0] rfl rfl 25 _ KP.out (by kernel_rfl) rfl (by simp [Value.oneCell']) ?_)
      have F9 := KP.out.row #[.int .i64 0, .int .i64 0, .int .i64 0]
      have B9 := Bw.setRow HW.out (show w.heap.size ≤ g + 1 by have := HG.out; omega) #[.int .i64 0, .int .i64 0, .int .i64 0]
      refine bodyPost_ret (v := .tuple #[.agg #[.int .i64 0, .int .i64 0, .int .i64 0], .int .i64 2]) ?_ rfl ⟨by rw [HR.out, HET.out], B9⟩
      exact results_two_row (p := 4) (u := 5) rfl _ _ (g + 1) _ rfl (run_loadVar_row _ (g + 1) 25 25 #[.int .i64 0, .int .i64 0, .int .i64 0] (0, 0) _ F9 Tryd.underlying25 rfl (by kernel_rfl))
    by_cases c3 : 604800 ≤ t
    case pos =>
      have HET := Lib.hid (E2.out rfl (.inr c3))
      have HR := Lib.hid (show t3V AP = #[.int .i64 0, .int .i64 0, .int .i64 0] from t3V_congr (y := fun _ => 0) (fun j hj => by rw [HAP.out j, if_neg (by rw [HET.out]; decide)]))
      go_wp2_with ((with_reducible refine at_store 25 (.tmp 4) (.tmp 20) ?_); refine wpList_store_row rfl 25 (.tmp 4) (.tmp 20) rfl (g + 1) #[.int .i64 0, .int .i64 0, .int .i64 0] rfl rfl 25 _ KP.out (by kernel_rfl) rfl (by simp [Value.oneCell']) ?_)
      have F9 := KP.out.row #[.int .i64 0, .int .i64 0, .int .i64 0]
      have B9 := Bw.setRow HW.out (show w.heap.size ≤ g + 1 by have := HG.out; omega) #[.int .i64 0, .int .i64 0, .int .i64 0]
      refine bodyPost_ret (v := .tuple #[.agg #[.int .i64 0, .int .i64 0, .int .i64 0], .int .i64 2]) ?_ rfl ⟨by rw [HR.out, HET.out], B9⟩
      exact results_two_row (p := 4) (u := 5) rfl _ _ (g + 1) _ rfl (run_loadVar_row _ (g + 1) 25 25 #[.int .i64 0, .int .i64 0, .int .i64 0] (0, 0) _ F9 Tryd.underlying25 rfl (by kernel_rfl))
    have HET := Lib.hid (E3.out rfl (by omega) (by omega))
    obtain ⟨⟨_, hx1, _, _, hx3⟩, ht0, ht1⟩ := HOK.out HET.out
    obtain ⟨a0, b0, d0⟩ := hx3 0 (by omega)
    obtain ⟨a1, b1, d1⟩ := hx3 1 (by omega)
    obtain ⟨a2, b2, d2⟩ := hx3 2 (by omega)
    have hab := arQ_bd (t - x 1)
    have HP0 := Lib.hid (show AP 0 = atQ (x 4) (x 5) (x 6) (arQ (t - x 1)) from by rw [HAP.out 0, if_pos HET.out])
    have HP1 := Lib.hid (show AP 1 = atQ (x 7) (x 8) (x 9) (arQ (t - x 1)) from by rw [HAP.out 1, if_pos HET.out])
    have HP2 := Lib.hid (show AP 2 = atQ (x 10) (x 11) (x 12) (arQ (t - x 1)) from by rw [HAP.out 2, if_pos HET.out])
    have AR := Lib.hid (fun W => raround27_any (t - x 1) (by omega) W)
    have A0 := Lib.hid (fun W => raxis27_any (x 4) (x 5) (x 6) (arQ (t - x 1)) a0 b0 d0 (by omega) W)
    have A1 := Lib.hid (fun W => raxis27_any (x 7) (x 8) (x 9) (arQ (t - x 1)) a1 b1 d1 (by omega) W)
    have A2 := Lib.hid (fun W => raxis27_any (x 10) (x 11) (x 12) (arQ (t - x 1)) a2 b2 d2 (by omega) W)
    have l1 := KX.out.cell H1.out
    clear a0 b0 d0 a1 b1 d1 a2 b2 d2 hx3 HOK HAP
    have RG0 := Lib.hid (fun W hB => HRG.out W g hB 0 (by omega))
    have RG1 := Lib.hid (fun W hB => HRG.out W g hB 1 (by omega))
    have RG2 := Lib.hid (fun W hB => HRG.out W g hB 2 (by omega))
    simp only [Nat.mul_zero, Nat.add_zero, Nat.mul_one, show 4 + 3 = 7 from rfl, show 5 + 3 = 8 from rfl, show 6 + 3 = 9 from rfl, show 4 + 3 * 2 = 10 from rfl, show 5 + 3 * 2 = 11 from rfl, show 6 + 3 * 2 = 12 from rfl] at RG0 RG1 RG2
    clear HRG
    generalize atQ (x 4) (x 5) (x 6) (arQ (t - x 1)) = q0 at *
    generalize atQ (x 7) (x 8) (x 9) (arQ (t - x 1)) = q1 at *
    generalize atQ (x 10) (x 11) (x 12) (arQ (t - x 1)) = q2 at *
    generalize arQ (t - x 1) = d at *
    generalize x 1 = x1 at *
    have HR := Lib.hid (show t3V AP = #[.int .i64 q0, .int .i64 q1, .int .i64 q2] from by unfold t3V; rw [HP0.out, HP1.out, HP2.out])
    generalize x 4 = y4 at *
    generalize x 5 = y5 at *
    generalize x 6 = y6 at *
    generalize x 7 = y7 at *
    generalize x 8 = y8 at *
    generalize x 9 = y9 at *
    generalize x 10 = y10 at *
    generalize x 11 = y11 at *
    generalize x 12 = y12 at *
    go_upto_region 7 with (go_at_call 47; (with_reducible refine Calls.mono (AR.out _) ?_); rintro e1 w2 ⟨rfl, hb1⟩; replace KX := Lib.hid (KX.out.bw hb1); replace KP := Lib.hid (KP.out.bw hb1); replace HW := Lib.hid (HW.out.trans hb1); clear hb1 l1)
    refine wp_region_held_drew (S := Kx (g + 1) w2) (by kernel_rfl) (Kx.of_bw (Bw.drew (Bw.refl _)) (Nat.le_of_lt KP.out.lt)) (fun hS => ?_)
    replace KP := Lib.hid (KP.out.bw (Bw.drew (Bw.refl _)))
    generalize World.drew _ = wd at hS KP ⊢
    refine take1 (i := 0) (some 26) rfl rfl (by kernel_rfl) (by kernel_rfl) (by kernel_rfl) (fun _ _ _ _ h => h) rfl hS ?_
    apply Exists.intro
    apply And.intro
    · intro W9 hW9; skip; go_simp; try with_reducible rfl
    simp only [Act.put, List.setIfInBounds_toArray, List.set_cons_zero, List.set_cons_succ]
    refine take1 (i := 1) (some 27) rfl rfl (by kernel_rfl) (by kernel_rfl) (by kernel_rfl) (fun _ _ _ _ h => h) rfl hS ?_
    refine Exists.intro (.agg #[.int .i64 y4, .int .i64 y5, .int .i64 y6]) ?_
    apply And.intro
    · intro W9 hW9; skip; exact run_load_3 _ rfl g 4 rfl (RG0.out _ (hW9.blk KX.out (by omega)))
    simp only [Act.put, List.setIfInBounds_toArray, List.set_cons_zero, List.set_cons_succ]
    refine take1 (i := 2) (some 28) rfl rfl (by kernel_rfl) (by kernel_rfl) (by kernel_rfl) (fun _ _ _ _ h => h) rfl hS ?_
    apply Exists.intro
    apply And.intro
    · intro W9 hW9; skip; go_simp; try with_reducible rfl
    simp only [Act.put, List.setIfInBounds_toArray, List.set_cons_zero, List.set_cons_succ]
    refine take1 (i := 4) (some 30) rfl rfl (by kernel_rfl) (by kernel_rfl) (by kernel_rfl) (fun _ _ _ _ h => h) rfl hS ?_
    apply Exists.intro
    apply And.intro
    · intro W9 hW9; skip; go_simp; try with_reducible rfl
    simp only [Act.put, List.setIfInBounds_toArray, List.set_cons_zero, List.set_cons_succ]
    refine take1 (i := 5) (some 31) rfl rfl (by kernel_rfl) (by kernel_rfl) (by kernel_rfl) (fun _ _ _ _ h => h) rfl hS ?_
    refine Exists.intro (.agg #[.int .i64 y7, .int .i64 y8, .int .i64 y9]) ?_
    apply And.intro
    · intro W9 hW9; skip; exact run_load_3 _ rfl g 7 rfl (RG1.out _ (hW9.blk KX.out (by omega)))
    simp only [Act.put, List.setIfInBounds_toArray, List.set_cons_zero, List.set_cons_succ]
    refine take1 (i := 6) (some 32) rfl rfl (by kernel_rfl) (by kernel_rfl) (by kernel_rfl) (fun _ _ _ _ h => h) rfl hS ?_
    apply Exists.intro
    apply And.intro
    · intro W9 hW9; skip; go_simp; try with_reducible rfl
    simp only [Act.put, List.setIfInBounds_toArray, List.set_cons_zero, List.set_cons_succ]
    refine take1 (i := 8) (some 34) rfl rfl (by kernel_rfl) (by kernel_rfl) (by kernel_rfl) (fun _ _ _ _ h => h) rfl hS ?_
    apply Exists.intro
    apply And.intro
    · intro W9 hW9; skip; go_simp; try with_reducible rfl
    simp only [Act.put, List.setIfInBounds_toArray, List.set_cons_zero, List.set_cons_succ]
    refine take1 (i := 9) (some 35) rfl rfl (by kernel_rfl) (by kernel_rfl) (by kernel_rfl) (fun _ _ _ _ h => h) rfl hS ?_
    refine Exists.intro (.agg #[.int .i64 y10, .int .i64 y11, .int .i64 y12]) ?_
    apply And.intro
    · intro W9 hW9; skip; exact run_load_3 _ rfl g 10 rfl (RG2.out _ (hW9.blk KX.out (by omega)))
    simp only [Act.put, List.setIfInBounds_toArray, List.set_cons_zero, List.set_cons_succ]
    refine take1 (i := 10) (some 36) rfl rfl (by kernel_rfl) (by kernel_rfl) (by kernel_rfl) (fun _ _ _ _ h => h) rfl hS ?_
    apply Exists.intro
    apply And.intro
    · intro W9 hW9; skip; go_simp; try with_reducible rfl
    simp only [Act.put, List.setIfInBounds_toArray, List.set_cons_zero, List.set_cons_succ]
    refine wpAnyH_ready (rs := [3]) (by kernel_rfl) (by simp) ?_
    refine AllReadyH.cons rfl (fun K hK => ?_) ?_
    go_simp
    go_wp2_with (go_at_call 48; (with_reducible refine Calls.mono (A0.out _) ?_); rintro e1 wd ⟨rfl, hb13⟩)
    have hle := Nat.le_of_lt KP.out.lt
    replace KP := Lib.hid (KP.out.bw hb13)
    refine hK.out _ _ (hS.trans (Kx.of_bw hb13 hle)) (fun hS => ?_)
    clear hK K
    clear hb13 hle
    refine wpAnyH_ready (rs := [7]) (by kernel_rfl) (by simp) ?_
    refine AllReadyH.cons rfl (fun K hK => ?_) ?_
    go_simp
    go_wp2_with (go_at_call 48; (with_reducible refine Calls.mono (A1.out _) ?_); rintro e1 wd ⟨rfl, hb13⟩)
    have hle := Nat.le_of_lt KP.out.lt
    replace KP := Lib.hid (KP.out.bw hb13)
    refine hK.out _ _ (hS.trans (Kx.of_bw hb13 hle)) (fun hS => ?_)
    clear hK K
    clear hb13 hle
    refine wpAnyH_ready (rs := [11]) (by kernel_rfl) (by simp) ?_
    refine AllReadyH.cons rfl (fun K hK => ?_) ?_
    go_simp
    go_wp2_with (go_at_call 48; (with_reducible refine Calls.mono (A2.out _) ?_); rintro e1 wd ⟨rfl, hb13⟩)
    have hle := Nat.le_of_lt KP.out.lt
    replace KP := Lib.hid (KP.out.bw hb13)
    refine hK.out _ _ (hS.trans (Kx.of_bw hb13 hle)) (fun hS => ?_)
    clear hK K
    clear hb13 hle
    refine take1 (i := 12) (some 38) rfl rfl (by kernel_rfl) (by kernel_rfl) (by kernel_rfl) (fun _ _ _ _ h => h) rfl hS ?_
    apply Exists.intro
    apply And.intro
    · intro W9 hW9; skip; go_simp; try with_reducible rfl
    simp only [Act.put, List.setIfInBounds_toArray, List.set_cons_zero, List.set_cons_succ]
    refine wpAnyH_ready (rs := [13]) (by kernel_rfl) (by simp) ?_
    refine AllReadyH.cons rfl (fun K hK => ?_) ?_
    rw [if_pos (by rfl)]
    have hst := Kx.row KP.out.lt #[.int .i64 q0, .int .i64 q1, .int .i64 q2]
    refine wp_store_row0 25 _ _ rfl rfl (g + 1) #[.int .i64 q0, .int .i64 q1, .int .i64 q2] rfl rfl 25 _ KP.out (by kernel_rfl) (by simp) (by simp [Value.oneCell']) ?_
    replace KP := Lib.hid (KP.out.row #[.int .i64 q0, .int .i64 q1, .int .i64 q2])
    refine hK.out _ _ (hS.trans hst) (fun hS => ?_)
    clear hK K
    clear hst
    refine take1 (i := 14) (some 5) rfl rfl (by kernel_rfl) (by kernel_rfl) (by kernel_rfl) (fun _ _ _ _ h => h) rfl hS ?_
    apply Exists.intro
    apply And.intro
    · intro W9 hW9; skip; go_simp; try with_reducible rfl
    simp only [Act.put, List.setIfInBounds_toArray, List.set_cons_zero, List.set_cons_succ]
    refine wpAnyH_done (by kernel_rfl) ?_ _
    rotate_left
    exact AllReadyH.nil
    exact AllReadyH.nil
    exact AllReadyH.nil
    exact AllReadyH.nil
    all_goals
      go_wp2
      refine bodyPost_ret (v := .tuple #[.agg #[.int .i64 q0, .int .i64 q1, .int .i64 q2], .int .i64 0]) ?_ rfl ⟨by rw [HR.out, HET.out], hS.bw HW.out (by have := HG.out; omega)⟩
      exact results_two_row (p := 4) (u := 5) rfl _ _ (g + 1) _ rfl (run_loadVar_row _ (g + 1) 25 25 #[.int .i64 q0, .int .i64 q1, .int .i64 q2] (0, 0) _ KP.out Tryd.underlying25 rfl (by kernel_rfl))
end Go.Proofs.Sky

namespace Go.Proofs.Sky
open Go Go.RowKit Go.Shelf
set_option maxHeartbeats 1000000
/-! slices.ContainsFunc over ints -/
theorem indexFuncI_any (f : Int → Bool) (g : Nat) (eg : ∀ args w, (callFunc g args).run Tryd.prog w = .ok (.enter g args) w)
   (zs : List Int) (v : Value) (w : World)
   (hp : ∀ p ∈ zs, ∀ W, Bw w W → Calls Tryd.prog g #[.int .i64 p] W fun e w' => e = .returned (.bool (f p)) ∧ Bw W w')
   (hv : RdI w v zs) :
   Calls Tryd.prog 70 #[v, .func (.func g) #[] #[]] w fun e w' => AnyIdx (zs.any f) e ∧ Bw w w' := by
  obtain ⟨h2, a, cap, rfl, h4⟩ := hv
  obtain ⟨n, hn⟩ : ∃ n, n = zs.length := ⟨_, rfl⟩
  rw [← hn] at h2 ⊢
  have HN := Lib.hid hn; clear hn
  have H4 := Lib.hid h4; clear h4
  have HP := Lib.hid hp; clear hp
  go_enter Tryd.func70, Tryd.ntmps70
  go_wp2
  go_loopg [5, 8] n (fun gg _ s8 wr => ∃ kk : Nat, kk ≤ n ∧ n - kk ≤ gg ∧ s8 = .int .i64 kk ∧ Hid (Bw w wr) ∧ Hid (∀ j, j < kk → f (zs.getD j 0) = false))
  case atStart => exact ⟨0, Nat.zero_le _, by omega, rfl, Bw.refl _, fun j hj => absurd hj (Nat.not_lt_zero _)⟩
  case round =>
    obtain ⟨kk, hkk, hg, rfl, hbw, A⟩ := hrel
    by_cases hlt : kk < n
    · have hltz : (kk : Int) < (n : Int) := by omega
      have hq := HN.out
      obtain ⟨b, off, rfl, hb, hc⟩ := H4.out.resolve_left (by intro h; rw [h] at hq; simp at hq; omega)
      have hc1 := hc kk (by omega)
      rw [← hbw.out.cells.1 _ _ hb] at hc1
      have hm := getD_mem zs kk 0 (by omega)
      clear hc H4
      generalize hx : zs.getD kk 0 = x at hc1 hm
      have HX := Lib.hid hx; clear hx hq
      have hcall := HP.out _ hm wr hbw.out
      clear hm HP
      cases hpx : f x with
      | true =>
        rw [hpx] at hcall
        have HPX := Lib.hid hpx; clear hpx
        have HC := Lib.hid hcall; clear hcall
        go_wp2_with (go_at_fn g; refine (HC.out).mono ?_; rintro e w' ⟨rfl, hb2⟩)
        go_ret
        refine ⟨⟨kk, rfl, ?_⟩, Bw.trans hbw.out hb2⟩
        rw [any_of_lt zs f 0 kk (by have := HN.out; omega) (by rw [HX.out]; exact HPX.out)]
        simp
      | false =>
        rw [hpx] at hcall
        have HPX := Lib.hid hpx; clear hpx
        have HC := Lib.hid hcall; clear hcall
        go_wp2_with (go_at_fn g; refine (HC.out).mono ?_; rintro e w' ⟨rfl, hb2⟩)
        go_roundg (n - (kk + 1))
        case measure => omega
        case rel =>
          refine ⟨kk + 1, by omega, by omega, by go_num, Bw.trans hbw.out hb2, fun j hj => ?_⟩
          by_cases e : j = kk
          · subst e
            rw [HX.out]; exact HPX.out
          · exact A.out j (by omega)
    · have hltz : ¬ (kk : Int) < (n : Int) := by omega
      have : kk = n := by omega
      subst this
      go_wp2
      go_ret
      refine ⟨⟨-1, rfl, ?_⟩, hbw.out⟩
      rw [any_none zs f 0 (fun i hi => A.out i (by have := HN.out; omega))]
      rfl
theorem containsFuncI_any (f : Int → Bool) (g : Nat) (eg : ∀ args w, (callFunc g args).run Tryd.prog w = .ok (.enter g args) w)
   (zs : List Int) (v : Value) (w : World)
   (hp : ∀ p ∈ zs, ∀ W, Bw w W → Calls Tryd.prog g #[.int .i64 p] W fun e w' => e = .returned (.bool (f p)) ∧ Bw W w')
   (hv : RdI w v zs) :
   Calls Tryd.prog 53 #[v, .func (.func g) #[] #[]] w fun e w' => e = .returned (.bool (zs.any f)) ∧ Bw w w' := by
  have HC := Lib.hid (indexFuncI_any f g eg zs v w hp hv)
  clear hp hv
  go_enter Tryd.func53, Tryd.ntmps53
  go_wp2_with (go_at_call 70; refine (HC.out).mono ?_; rintro e w' ⟨⟨r, rfl, hr⟩, hb2⟩; have HR := Lib.hid hr; clear hr)
  go_ret
  exact ⟨ret_bool HR.out, hb2⟩
theorem rdI_drop {w : World} {b o n c : Nat} {zs : List Int} (h : RdI w (.slice (some ⟨b, o, none⟩) n c) zs) (i : Nat) (hi : i < n) {c' : Nat} : RdI w (.slice (some ⟨b, o + i, none⟩) (n - i) c') (zs.drop i) := by
  obtain ⟨h1, a, cc, hv, h2⟩ := h
  injection hv with e1 e2 e3
  subst e1 e2 e3
  refine ⟨by rw [List.length_drop]; omega, some ⟨b, o + i, none⟩, c', by rw [List.length_drop], .inr ?_⟩
  rcases h2 with h2 | ⟨b', off, e, hb, hc⟩
  · subst h2; simp at hi
  · injection e with e; injection e with e1 e2
    subst e1 e2
    refine ⟨b, o + i, rfl, hb, fun j hj => ?_⟩
    rw [List.length_drop] at hj
    have := hc (i + j) (by omega)
    rw [show o + i + j = o + (i + j) by omega, this]
    simp [List.getD_eq_getElem?_getD]
theorem nz_any (d : Int) (w : World) : Calls Tryd.prog 54 #[.int .i64 d] w fun e w' => e = .returned (.bool (d != 0)) ∧ Bw w w' := by
  go_enter Tryd.func54, Tryd.ntmps54
  go_wp2
  all_goals (go_ret; exact ⟨rfl, (by repeat (first | exact Bw.refl _ | assumption | refine Bw.alloc ?_ _ | refine Bw.drew ?_ | refine Bw.trans ?_ (by assumption) | refine Bw.setCell ?_ (by simp; try omega) _))⟩)
theorem tail_any (zs : List Int) (v : Value) (w : World) (hv : RdI w v zs) : Calls Tryd.prog 53 #[v, .func (.func 54) #[] #[]] w fun e w' => e = .returned (.bool (zs.any fun d => d != 0)) ∧ Bw w w' :=
  containsFuncI_any (fun d => d != 0) 54 (enters_of Tryd.func54 (by kernel_rfl) rfl) zs v w (fun p _ W _ => nz_any p W) hv
end Go.Proofs.Sky
