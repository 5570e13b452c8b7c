/-
  lemmas for the theorems of this claim. No conditions beyond those written in the statements.
-/
import Derived.Test.YtgeojbmhkmmedaaDoorDA28
import Derived.Laws.StructEq
import Derived.Test.YtgeojbmhkmmedaaDoorBA28
import Derived.Test.YtgeojbmhkmmedaaDoorFA28
set_option linter.unusedVariables false
set_option linter.unusedSimpArgs false
set_option linter.unnecessarySimpa false
namespace Go.Proofs.Sky
open Go Go.RowKit Go.Shelf
set_option maxHeartbeats 4000000
set_option maxRecDepth 8000
/-! equal pages -/
theorem eqA3 (d : Nat) (a b c : Int) (w : World) : (Op.equalIn (d + 2) 22 (.agg #[.int .i64 a, .int .i64 b, .int .i64 c]) (.agg #[.int .i64 a, .int .i64 b, .int .i64 c])).run Tryd.prog w = .ok true w := by
  have hu : Tryd.prog.underlying 22 = some (.array 3 3) := by kernel_rfl
  have hi : Tryd.prog.underlying 3 = some (.int .i64) := by kernel_rfl
  have hs : ∀ w, (sizeOf 3).run Tryd.prog w = .ok 1 w := fun w => by kernel_rfl
  simp [Op.equalIn, run_underlying hu, run_underlying hi, hs, go_sem, part, Std.Legacy.Range.forIn_eq_forIn_range', Std.Legacy.Range.size, List.range'_succ, List.range'_zero, List.forIn_cons, List.forIn_nil]
theorem eqPg_self (x : Nat → Int) (w : World) : (Op.equalIn 10000 32 (.agg (pgV x)) (.agg (pgV x))).run Tryd.prog w = .ok true w := by
  unfold pgV
  generalize x 0 = a0, x 1 = a1, x 2 = a2, x 3 = a3, x 4 = a4, x 5 = a5, x 6 = a6, x 7 = a7, x 8 = a8, x 9 = a9, x 10 = a10, x 11 = a11, x 12 = a12
  rw [show (10000 : Nat) = 9998 + 1 + 1 from rfl, run_equalIn_agg _ _ _ _ _ (by kernel_rfl) (by kernel_rfl)]
  simp only [Program.fieldsOf, Tryd.underlying32]
  have h3 : ∀ w, (sizeOf 22).run Tryd.prog w = .ok 3 w := fun w => by kernel_rfl
  have h1 : ∀ w, (sizeOf 3).run Tryd.prog w = .ok 1 w := fun w => by kernel_rfl
  have i3 : Tryd.prog.underlying 22 = some (.array 3 3) := by kernel_rfl
  have hi : Tryd.prog.underlying 3 = some (.int .i64) := by kernel_rfl
  have q3 := fun d => eqA3 d
  simp [Op.eqFields, part, h3, h1, go_sem, run_underlying i3, run_underlying hi, q3 9997, run_equalIn_int _ _ _ _ _ _ _ hi]
theorem eqPg_guard (x y : Array Value) (op : BinOp) (p q : Operand) (w : World) : (eqGuard op 32 p q (.agg x) (.agg y)).run Tryd.prog w = .ok () w := run_eqGuard_agg w op _ _ _ _ _ (by kernel_rfl)
end Go.Proofs.Sky

namespace Go.Proofs.Sky
open Go Go.RowKit Go.Shelf
set_option maxHeartbeats 2000000
set_option maxRecDepth 8000
/-! chapter 28: Clock, the walk -/
theorem ck_bd {X : Nat → Int} (h : errE X = 0) : (X 4).natAbs ≤ 2147483648 ∧ (X 5).natAbs ≤ 8388608 ∧ (X 6).natAbs ≤ 32768 := by
  have hp := (errE_parts h).2.1
  have h0 := hp 0 (by omega)
  have h1 := hp 1 (by omega)
  have h2 := hp 2 (by omega)
  unfold okZ at h0 h1 h2
  simp only [decide_eq_true_eq] at h0 h1 h2
  rw [show lowR (clB 0) true = -2147483648 from by decide, show highR (clB 0) true = 2147483647 from by decide] at h0
  rw [show lowR (clB 1) true = -8388608 from by decide, show highR (clB 1) true = 8388607 from by decide] at h1
  rw [show lowR (clB 2) true = -32768 from by decide, show highR (clB 2) true = 32767 from by decide] at h2
  have e0 : -2147483648 ≤ X 4 ∧ X 4 ≤ 2147483647 := h0
  have e1 : -8388608 ≤ X 5 ∧ X 5 ≤ 8388607 := h1
  have e2 : -32768 ≤ X 6 ∧ X 6 ≤ 32767 := h2
  clear h0 h1 h2
  omega
theorem rdI_ck {W : World} {g : Nat} {X : Nat → Int} (hB : Blk W g 25 (eV X)) : RdI W (.slice (some ⟨g, 4, none⟩) 3 3) [X 4, X 5, X 6] := by
  refine ⟨by simp, _, _, rfl, .inr ⟨g, 4, rfl, hB.lt, fun k hk => ?_⟩⟩
  have hk4 : k < 3 := hk
  refine hB.cell ((eV_at X (4 + k) (by omega)).trans ?_)
  match k, hk4 with
  | 0, _ => rfl
  | 1, _ => rfl
  | 2, _ => rfl
def ckE (X : Nat → Int) (t : Int) : Int := if (atE X t).2 = 0 then clkQ (X 4) (X 5) (X 6) (atE X t).1 else 0
theorem Clock28_any (X : Nat → Int) (t : Int) (w : World) : Calls Tryd.prog 15 #[.agg (eV X), .int .i64 t] w fun e w' => e = .returned (.tuple #[.int .i64 (ckE X t), .int .i64 (atE X t).2]) ∧ Bw w w' := by
  have AT := Lib.hid (fun W => at28_any X t W)
  have KX := Lib.hid (Blk.new w 25 (eV X))
  have HW := Lib.hid (Bw.alloc (Bw.refl w) (.cells (eV X) 25))
  have HSZ : Hid ((Tryd.prog.info? 25).map (·.size) = some (eV X).size) := Lib.hid (by kernel_rfl)
  have HRA := Lib.hid (fun W g (hB : Blk W g 25 (eV X)) => rdI_ck hB)
  obtain ⟨g, hg⟩ : ∃ g, w.heap.size = g := ⟨_, rfl⟩
  rw [hg] at KX
  have HOK := Lib.hid (fun h => atE_ok (X := X) (t := t) h)
  have HBD := Lib.hid (fun (h : errE X = 0) => ck_bd h)
  have HPS := Lib.hid (show ckE X t = if (atE X t).2 = 0 then clkQ (X 4) (X 5) (X 6) (atE X t).1 else 0 from rfl)
  generalize ckE X t = CE at *
  generalize atE X t = R at *
  obtain ⟨d, er⟩ := R
  dsimp only at AT HOK HPS
  obtain ⟨A, hA⟩ : ∃ A, A = eV X := ⟨_, rfl⟩
  rw [← hA] at AT KX HW HSZ HRA ⊢
  clear hA
  go_enter Tryd.func15, Tryd.ntmps15
  go_upto_region 1 with fail
  obtain ⟨W0, hW0⟩ : ∃ W0, w.alloc (.cells A 25) = W0 := ⟨_, rfl⟩
  rw [hW0] at KX HW ⊢
  clear hW0 hg
  go_upto_region 2 with (first | ((with_reducible refine at_load 25 (.tmp 2) ?_); refine wpList_load_row rfl 25 _ rfl g rfl 25 A (0, 0) _ KX.out Tryd.underlying25 rfl HSZ.out ?_) | (go_at_call 34; (with_reducible refine Calls.mono (AT.out _) ?_); rintro e1 w1 ⟨rfl, hb1⟩; replace KX := Lib.hid (KX.out.bw hb1); replace HW := Lib.hid (HW.out.trans hb1); clear hb1))
  by_cases c1 : er = 0
  case neg =>
    have c1z : (er != 0) = true := by simpa using c1
    have HR := Lib.hid (HPS.out.trans (if_neg c1))
    clear c1
    go_wp2
    refine bodyPost_ret (v := .tuple #[.int .i64 0, .int .i64 er]) ?_ rfl ⟨by rw [HR.out], HW.out⟩
    simp [results, Tryd.results15, go_sem]
  obtain ⟨hx, hd⟩ := HOK.out c1
  subst c1
  have HR := Lib.hid (HPS.out.trans (if_pos rfl))
  obtain ⟨b0, b1, b2⟩ := HBD.out hx
  have hp4 := (clk3 b0 b1 b2 hd).1
  have OV := Lib.hid (fun W => over_clk b0 b1 b2 hd W)
  have VA : Hid (∀ W v vs, RdI W v [X 4, X 5, X 6] → RdI W vs [40, 24, 0] → Calls Tryd.prog 35 #[v, vs, .int .i64 d] W fun e w' => e = .returned (.agg (nV (hW d (xsW [X 4, X 5, X 6] [40, 24, 0] 3)).1 (hW d (xsW [X 4, X 5, X 6] [40, 24, 0] 3)).2)) ∧ Bw W w') := Lib.hid (fun W v vs h1 h2 => valued_any [X 4, X 5, X 6] [40, 24, 0] d v vs W h1 h2 (by simp) (by simp) rfl (fun j hj => by
    have hj4 : j < 3 := hj
    rcases (by omega : j = 0 ∨ j = 1 ∨ j = 2) with rfl | rfl | rfl
    · show -9000000000000000000 ≤ X 4 ∧ X 4 ≤ 9000000000000000000; omega
    · show -9000000000000000000 ≤ X 5 ∧ X 5 ≤ 9000000000000000000; omega
    · show -9000000000000000000 ≤ X 6 ∧ X 6 ≤ 9000000000000000000; omega) (fun j hj => by
    have hj4 : j < 3 := hj
    rcases (by omega : j = 0 ∨ j = 1 ∨ j = 2) with rfl | rfl | rfl <;> decide) (by omega) hp4)
  clear hp4 b0 b1 b2 hx hd HBD HOK HPS AT
  have HRX := Lib.hid (fun W (hB : Blk W g 25 A) => HRA.out W g hB)
  clear HRA
  generalize X 4 = x0 at *
  generalize X 5 = x1 at *
  generalize X 6 = x2 at *
  generalize hW d (xsW [x0, x1, x2] [40, 24, 0] 3) = RES at *
  generalize clkQ x0 x1 x2 d = CQ at *
  have TM1 := Lib.hid (fun W => times28 RES 299792458 (by decide) W)
  have UN : Hid (∀ W, Calls Tryd.prog 37 #[.int .i64 2, .int .i64 50] W fun e w' => e = .returned (.agg (nV (unitW 2 50).1 (unitW 2 50).2)) ∧ Bw W w') := Lib.hid (fun W => unit28_any 2 50 (by decide) (by decide) W)
  generalize unitW 2 50 = UV at *
  have TM2 := Lib.hid (fun W => times28 UV 1000000 (by decide) W)
  generalize timesW RES 299792458 = RS2 at *
  generalize timesW UV 1000000 = UV2 at *
  have RS := Lib.hid (show RdI (w1.alloc (.cells #[.int .i64 40, .int .i64 24, .int .i64 0] 3)) (.slice (some ⟨w1.heap.size, 0, none⟩) 3 3) [40, 24, 0] from RdI.litN w1 #[.int .i64 40, .int .i64 24, .int .i64 0] 3 [40, 24, 0] w1.heap.size rfl (by rfl) (by simp))
  go_upto_region 4 with fail
  go_wp2_with (first | (go_at_call 35; (with_reducible refine Calls.mono (VA.out _ _ _ (HRX.out _ (KX.out.bw (Bw.alloc (Bw.refl w1) (.cells #[.int .i64 40, .int .i64 24, .int .i64 0] 3)))) RS.out) ?_); rintro e1 w4 ⟨rfl, hb1⟩; replace hb1 := (Bw.alloc (Bw.refl w1) (.cells #[.int .i64 40, .int .i64 24, .int .i64 0] 3)).trans hb1; replace KX := Lib.hid (KX.out.bw hb1); replace HW := Lib.hid (HW.out.trans hb1); clear hb1) | (go_at_call 38; (first | (with_reducible refine Calls.mono (TM1.out _) ?_) | (with_reducible refine Calls.mono (TM2.out _) ?_)); rintro e1 w5 ⟨rfl, hb1⟩; replace KX := Lib.hid (KX.out.bw hb1); replace HW := Lib.hid (HW.out.trans hb1); clear hb1) | (go_at_call 37; (with_reducible refine Calls.mono (UN.out _) ?_); rintro e1 w5 ⟨rfl, hb1⟩; replace KX := Lib.hid (KX.out.bw hb1); replace HW := Lib.hid (HW.out.trans hb1); clear hb1) | (go_at_call 36; (with_reducible refine Calls.mono (OV.out _) ?_); rintro e1 w6 ⟨rfl, hb1⟩; replace KX := Lib.hid (KX.out.bw hb1); replace HW := Lib.hid (HW.out.trans hb1); clear hb1))
  refine bodyPost_ret (v := .tuple #[.int .i64 CQ, .int .i64 0]) ?_ rfl ⟨by rw [HR.out], HW.out⟩
  simp [results, Tryd.results15, go_sem]
end Go.Proofs.Sky

namespace Go.Proofs.Sky
open Go Go.RowKit Go.Shelf
set_option maxHeartbeats 4000000
set_option maxRecDepth 8000
/-! chapter 28: the examples -/
theorem wpList_load_roww28 {P : Program} {ops : Array Oper} {rest : List Oper} {o : Oper} {a : Act} {w : World} {Q : Exit → Act → World → Prop} (ty : TypeId) (x : Operand) (ho : o.op = .load ty x)
    (g : Nat) (hx : a.eval x = .pointer (some ⟨g, 0, none⟩)) (t : TypeId) (cs : Array Value) (fr : Nat × Nat) (d : TypeDesc) (hg : w.heap[g]? = some (.cells cs t fr))
    (hu : P.underlying ty = some d) (hd : (match d with | .struct _ | .array _ _ => true | _ => false) = true) (hi : (P.info? ty).map (·.size) = some cs.size) (hw : Region.wanted o (yielded ops a.tmps) = true)
    (h : wpList P ops Q rest (a.put o.dst (.agg cs)) w) : wpList P ops Q (o :: rest) a w := by
  rw [wpList, if_pos hw]
  exact .inl (wp_load_row ty x ho g hx t cs fr d hg hu hd hi h)
theorem eqP_self (x y z : Int) (w : World) : (Op.equalIn 10000 27 (.agg #[.int .i64 x, .int .i64 y, .int .i64 z]) (.agg #[.int .i64 x, .int .i64 y, .int .i64 z])).run Tryd.prog w = .ok true w := by
  rw [show (10000 : Nat) = 9998 + 1 + 1 from rfl, run_equalIn_agg _ _ _ _ _ (by kernel_rfl) (by kernel_rfl)]
  simp only [Program.fieldsOf, Tryd.underlying27]
  have h1 : ∀ w, (sizeOf 3).run Tryd.prog w = .ok 1 w := fun w => by kernel_rfl
  have hi : Tryd.prog.underlying 3 = some (.int .i64) := by kernel_rfl
  simp [Op.eqFields, part, h1, go_sem, run_underlying hi, run_equalIn_int _ _ _ _ _ _ _ hi]
theorem eqP_guard (x y : Array Value) (op : BinOp) (p q : Operand) (w : World) : (eqGuard op 27 p q (.agg x) (.agg y)).run Tryd.prog w = .ok () w := run_eqGuard_agg w op _ _ _ _ _ (by kernel_rfl)
def plX : Nat → Int := fun i => [1, 0, 100, 0, 1024, 0, 0, 1000, -2000, 1024, 0, 0, 0, 0, 4194304, 0, 0, 0, 0].getD i 0
theorem plain28_any (w : World) : Calls Tryd.prog 13 #[] w fun e w' => e = .returned (.agg (eV plX)) ∧ Bw w w' := by
  have KR := Lib.hid (Blk.new w 25 #[.int .i64 0, .int .i64 0, .int .i64 0, .int .i64 0, .int .i64 0, .int .i64 0, .int .i64 0, .int .i64 0, .int .i64 0, .int .i64 0, .int .i64 0, .int .i64 0, .int .i64 0, .int .i64 0, .int .i64 0, .int .i64 0, .int .i64 0, .int .i64 0, .int .i64 0])
  have HW := Lib.hid (Bw.alloc (Bw.refl w) (.cells #[.int .i64 0, .int .i64 0, .int .i64 0, .int .i64 0, .int .i64 0, .int .i64 0, .int .i64 0, .int .i64 0, .int .i64 0, .int .i64 0, .int .i64 0, .int .i64 0, .int .i64 0, .int .i64 0, .int .i64 0, .int .i64 0, .int .i64 0, .int .i64 0, .int .i64 0] 25))
  go_enter Tryd.func13, Tryd.ntmps13
  go_wp2_with ((with_reducible refine at_store 25 (.tmp 0) (.tmp 4) ?_); refine wpList_store_row rfl 25 (.tmp 0) (.tmp 4) rfl w.heap.size (eV plX) rfl rfl 25 _ KR.out (by kernel_rfl) rfl (by simp [Value.oneCell', eV]) ?_)
  refine bodyPost_ret (v := .agg (eV plX)) ?_ rfl ⟨rfl, Bw.setRow HW.out (Nat.le_refl _) _⟩
  exact results_cell_row (p := 0) rfl _ _ w.heap.size _ _ (0, 0) _ rfl (KR.out.row _) Tryd.underlying25 rfl (by kernel_rfl)
theorem pl_at1 : atE plX 101000000000 = (1000000000, 0) := by kernel_rfl
theorem pl_at4 : atE plX 104000000000 = (4000000000, 0) := by kernel_rfl
theorem pl_at0 : atE plX 100000000000 = (0, 0) := by kernel_rfl
theorem pl_err : errE plX = 0 := by kernel_rfl
theorem pl_ps1 : l3V (psE plX 101000000000) = #[.int .i64 14001, .int .i64 0, .int .i64 0] := by kernel_rfl
theorem pl_ps4 : l3V (psE plX 104000000000) = #[.int .i64 8016, .int .i64 4, .int .i64 0] := by kernel_rfl
theorem pl_vs4 : l3V (vsE plX 104000000000) = #[.int .i64 (-1992), .int .i64 3, .int .i64 0] := by kernel_rfl
theorem pl_ck0 : ckE plX 100000000000 = 300 := by kernel_rfl
theorem pl_sp : l3V (spE plX) = #[.int .i64 16400, .int .i64 9720000, .int .i64 0] := by kernel_rfl
theorem stands28_any (t x y : Int) (h1 : (atE plX t).2 = 0) (h2 : l3V (psE plX t) = #[.int .i64 x, .int .i64 y, .int .i64 0]) (w : World) : Calls Tryd.prog 11 #[.int .i64 t, .int .i64 x, .int .i64 y] w fun e w' => e = .returned (.bool true) ∧ Bw w w' := by
  have PL := Lib.hid (fun W => plain28_any W)
  have PS := Lib.hid (fun W => Position28_any plX t W)
  rw [h1, h2] at PS
  have hq := fun W => eqP_self x y 0 W
  have hg := fun W a b op p q => eqP_guard a b op p q W
  obtain ⟨A, hA⟩ : ∃ A, A = eV plX := ⟨_, rfl⟩
  rw [← hA] at PL PS
  clear hA h1 h2
  have HW := Lib.hid (Bw.refl w)
  go_enter Tryd.func11, Tryd.ntmps11
  go_wp2_with (first | (go_at_call 13; (with_reducible refine Calls.mono (PL.out _) ?_); rintro e1 w1 ⟨rfl, hb1⟩; replace HW := Lib.hid (HW.out.trans hb1); clear hb1) | (go_at_call 14; (with_reducible refine Calls.mono (PS.out _) ?_); rintro e1 w2 ⟨rfl, hb1⟩; replace HW := Lib.hid (HW.out.trans hb1); clear hb1))
  go_ret
  exact ⟨rfl, HW.out.trans (Bw.alloc (Bw.refl _) _)⟩
theorem awake28_any (w : World) : Calls Tryd.prog 10 #[] w fun e w' => e = .returned (.bool true) ∧ Bw w w' := by
  have PL := Lib.hid (fun W => plain28_any W)
  have VE := Lib.hid (fun W => Velocity28_any plX 104000000000 W)
  have CK := Lib.hid (fun W => Clock28_any plX 100000000000 W)
  have SP := Lib.hid (fun W => Speed28_any plX W)
  have S1 := Lib.hid (fun W => stands28_any 101000000000 14001 0 (by rw [pl_at1]) pl_ps1 W)
  have S4 := Lib.hid (fun W => stands28_any 104000000000 8016 4 (by rw [pl_at4]) pl_ps4 W)
  rw [pl_at4, pl_vs4] at VE
  rw [pl_at0, pl_ck0] at CK
  rw [pl_err, pl_sp] at SP
  dsimp only at VE CK
  have hq := fun x y z W => eqP_self x y z W
  have hg := fun W a b op p q => eqP_guard a b op p q W
  obtain ⟨A, hA⟩ : ∃ A, A = eV plX := ⟨_, rfl⟩
  rw [← hA] at PL VE CK SP
  clear hA
  have HW := Lib.hid (Bw.refl w)
  go_enter Tryd.func10, Tryd.ntmps10
  go_upto_region 2 with (first | (go_at_call 13; (with_reducible refine Calls.mono (PL.out _) ?_); rintro e1 w1 ⟨rfl, hb1⟩; replace HW := Lib.hid (HW.out.trans hb1); clear hb1) | (go_at_call 12; (with_reducible refine Calls.mono (VE.out _) ?_); rintro e1 w2 ⟨rfl, hb1⟩; replace HW := Lib.hid (HW.out.trans hb1); clear hb1))
  obtain ⟨g1, hg1⟩ : ∃ g1, w2.heap.size = g1 := ⟨_, rfl⟩
  have KV := Lib.hid (Blk.new w2 27 #[.int .i64 (-1992), .int .i64 3, .int .i64 0])
  have hb1 := Bw.alloc (Bw.refl w2) (.cells #[.int .i64 (-1992), .int .i64 3, .int .i64 0] 27)
  rw [hg1] at KV ⊢
  replace HW := Lib.hid (HW.out.trans hb1); clear hb1
  generalize World.alloc w2 _ = w3 at *
  clear hg1
  go_upto_region 3 with (first | (go_at_call 13; (with_reducible refine Calls.mono (PL.out _) ?_); rintro e1 w4 ⟨rfl, hb1⟩; replace KV := Lib.hid (KV.out.bw hb1); replace HW := Lib.hid (HW.out.trans hb1); clear hb1) | (go_at_call 15; (with_reducible refine Calls.mono (CK.out _) ?_); rintro e1 w5 ⟨rfl, hb1⟩; replace KV := Lib.hid (KV.out.bw hb1); replace HW := Lib.hid (HW.out.trans hb1); clear hb1))
  go_upto_region 4 with (first | (go_at_call 13; (with_reducible refine Calls.mono (PL.out _) ?_); rintro e1 w6 ⟨rfl, hb1⟩; replace KV := Lib.hid (KV.out.bw hb1); replace HW := Lib.hid (HW.out.trans hb1); clear hb1) | (go_at_call 6; (with_reducible refine Calls.mono (SP.out _) ?_); rintro e1 w7 ⟨rfl, hb1⟩; replace KV := Lib.hid (KV.out.bw hb1); replace HW := Lib.hid (HW.out.trans hb1); clear hb1))
  obtain ⟨g5, hg5⟩ : ∃ g5, w7.heap.size = g5 := ⟨_, rfl⟩
  have KS := Lib.hid (Blk.new w7 27 #[.int .i64 16400, .int .i64 9720000, .int .i64 0])
  have hb1 := Bw.alloc (Bw.refl w7) (.cells #[.int .i64 16400, .int .i64 9720000, .int .i64 0] 27)
  rw [hg5] at KS ⊢
  replace KV := Lib.hid (KV.out.bw hb1)
  replace HW := Lib.hid (HW.out.trans hb1); clear hb1
  generalize World.alloc w7 _ = w8 at *
  clear hg5
  go_wp2_with (first | (go_at_call 11; (first | (with_reducible refine Calls.mono (S1.out _) ?_) | (with_reducible refine Calls.mono (S4.out _) ?_)); rintro e1 w9 ⟨rfl, hb1⟩; replace KV := Lib.hid (KV.out.bw hb1); replace KS := Lib.hid (KS.out.bw hb1); replace HW := Lib.hid (HW.out.trans hb1); clear hb1) | ((with_reducible refine at_load 27 (.tmp 1) ?_); refine wpList_load_roww28 27 _ rfl g1 rfl 27 #[.int .i64 (-1992), .int .i64 3, .int .i64 0] (0, 0) _ KV.out Tryd.underlying27 rfl (by kernel_rfl) (by rfl) ?_) | ((with_reducible refine at_load 27 (.tmp 5) ?_); refine wpList_load_roww28 27 _ rfl g5 rfl 27 #[.int .i64 16400, .int .i64 9720000, .int .i64 0] (0, 0) _ KS.out Tryd.underlying27 rfl (by kernel_rfl) (by rfl) ?_))
  go_ret
  exact ⟨rfl, HW.out⟩
end Go.Proofs.Sky

namespace Go.Proofs.Sky
open Go Go.RowKit Go.Shelf
set_option maxHeartbeats 4000000
set_option maxRecDepth 8000
/-! chapter 28's cards: OrbitBounds -/
theorem law_bounds (X : Nat → Int) (h : Int) (w : World) (hw : WdAt w) : Calls Tryd.prog 3 #[.agg (eV X), .int .i64 h] w fun e w' => e = .returned (.bool true) ∧ Bw w w' := by
  have HWD := Lib.hid hw
  have SP := Lib.hid (fun W => Speed28_any X W)
  have RS := Lib.hid (fun W => RSpeed28_any X W)
  have CO := Lib.hid (fun W hW => Coarse28_any X h W hW)
  have RC := Lib.hid (fun W => RCoarse28_any X h W)
  have AW := Lib.hid (fun W => awake28_any W)
  unfold l3V at SP RS
  generalize spE X 0 = p0 at *
  generalize spE X 1 = p1 at *
  generalize spE X 2 = p2 at *
  generalize errE X = er at *
  generalize cgE X h = ce at *
  obtain ⟨PX, hPX⟩ : ∃ PX, PX = pgV (cgX X h) := ⟨_, rfl⟩
  have HQ := Lib.hid (show ∀ W, (Op.equalIn 10000 32 (.agg PX) (.agg PX)).run Tryd.prog W = .ok true W from fun W => by rw [hPX]; exact eqPg_self _ W)
  have HS : Hid ((Tryd.prog.info? 32).map (·.size) = some PX.size) := Lib.hid (by rw [hPX]; kernel_rfl)
  have H1 : Hid (PX.all (·.oneCell') = true) := Lib.hid (by rw [hPX]; simp [Value.oneCell', pgV])
  have HN : Hid ((#[.int .i64 0, .int .i64 0, .int .i64 0, .int .i64 0, .int .i64 0, .int .i64 0, .int .i64 0, .int .i64 0, .int .i64 0, .int .i64 0, .int .i64 0, .int .i64 0, .int .i64 0] : Array Value).size = PX.size) := Lib.hid (by rw [hPX]; rfl)
  rw [← hPX] at CO RC
  clear hPX hw
  have KX := Lib.hid (Blk.new w 25 (eV X))
  have HW := Lib.hid (Bw.alloc (Bw.refl w) (.cells (eV X) 25))
  have HSZ : Hid ((Tryd.prog.info? 25).map (·.size) = some (eV X).size) := Lib.hid (by kernel_rfl)
  obtain ⟨g, hg⟩ : ∃ g, w.heap.size = g := ⟨_, rfl⟩
  rw [hg] at KX
  obtain ⟨A, hA⟩ : ∃ A, A = eV X := ⟨_, rfl⟩
  rw [← hA] at SP RS CO RC KX HW HSZ ⊢
  clear hA
  go_enter Tryd.func3, Tryd.ntmps3
  go_upto_region 1 with fail
  obtain ⟨W0, hW0⟩ : ∃ W0, w.alloc (.cells A 25) = W0 := ⟨_, rfl⟩
  rw [hW0] at KX HW ⊢
  clear hW0 hg
  go_upto_region 2 with (first | ((with_reducible refine at_load 25 (.tmp 2) ?_); refine wpList_load_row rfl 25 _ rfl g rfl 25 A (0, 0) _ KX.out Tryd.underlying25 rfl HSZ.out ?_) | (go_at_call 6; (with_reducible refine Calls.mono (SP.out _) ?_); rintro e1 w0 ⟨rfl, hb1⟩; replace KX := Lib.hid (KX.out.bw hb1); replace HW := Lib.hid (HW.out.trans hb1); clear hb1))
  obtain ⟨g5, hg1⟩ : ∃ g5, w0.heap.size = g5 := ⟨_, rfl⟩
  have K5 := Lib.hid (Blk.new w0 27 #[.int .i64 p0, .int .i64 p1, .int .i64 p2])
  have hb1 := Bw.alloc (Bw.refl w0) (.cells #[.int .i64 p0, .int .i64 p1, .int .i64 p2] 27)
  rw [hg1] at K5 ⊢
  replace KX := Lib.hid (KX.out.bw hb1); replace HW := Lib.hid (HW.out.trans hb1); clear hb1
  generalize World.alloc w0 _ = z0 at *
  clear hg1
  go_upto_region 3 with (first | ((with_reducible refine at_load 25 (.tmp 2) ?_); refine wpList_load_row rfl 25 _ rfl g rfl 25 A (0, 0) _ KX.out Tryd.underlying25 rfl HSZ.out ?_) | (go_at_call 7; (with_reducible refine Calls.mono (RS.out _) ?_); rintro e1 w1 ⟨rfl, hb1⟩; replace KX := Lib.hid (KX.out.bw hb1); replace K5 := Lib.hid (K5.out.bw hb1); replace HW := Lib.hid (HW.out.trans hb1); clear hb1))
  obtain ⟨g7, hg1⟩ : ∃ g7, w1.heap.size = g7 := ⟨_, rfl⟩
  have K7 := Lib.hid (Blk.new w1 27 #[.int .i64 p0, .int .i64 p1, .int .i64 p2])
  have hb1 := Bw.alloc (Bw.refl w1) (.cells #[.int .i64 p0, .int .i64 p1, .int .i64 p2] 27)
  rw [hg1] at K7 ⊢
  replace KX := Lib.hid (KX.out.bw hb1); replace K5 := Lib.hid (K5.out.bw hb1); replace HW := Lib.hid (HW.out.trans hb1); clear hb1
  generalize World.alloc w1 _ = z1 at *
  clear hg1
  go_upto_region 4 with (first | ((with_reducible refine at_load 25 (.tmp 2) ?_); refine wpList_load_row rfl 25 _ rfl g rfl 25 A (0, 0) _ KX.out Tryd.underlying25 rfl HSZ.out ?_) | (go_at_call 8; (with_reducible refine Calls.mono (CO.out _ (HWD.out.bw HW.out)) ?_); rintro e1 w2 ⟨rfl, hb1⟩; replace KX := Lib.hid (KX.out.bw hb1); replace K5 := Lib.hid (K5.out.bw hb1); replace K7 := Lib.hid (K7.out.bw hb1); replace HW := Lib.hid (HW.out.trans hb1); clear hb1) | ((with_reducible refine at_store 32 (.tmp 9) (.tmp 27) ?_); refine wpList_store_row rfl 32 (.tmp 9) (.tmp 27) rfl w2.heap.size PX rfl rfl 32 #[.int .i64 0, .int .i64 0, .int .i64 0, .int .i64 0, .int .i64 0, .int .i64 0, .int .i64 0, .int .i64 0, .int .i64 0, .int .i64 0, .int .i64 0, .int .i64 0, .int .i64 0] (Blk.new w2 32 #[.int .i64 0, .int .i64 0, .int .i64 0, .int .i64 0, .int .i64 0, .int .i64 0, .int .i64 0, .int .i64 0, .int .i64 0, .int .i64 0, .int .i64 0, .int .i64 0, .int .i64 0]) HS.out HN.out H1.out ?_))
  obtain ⟨g9, hg1⟩ : ∃ g9, w2.heap.size = g9 := ⟨_, rfl⟩
  have K9 := Lib.hid ((Blk.new w2 32 #[.int .i64 0, .int .i64 0, .int .i64 0, .int .i64 0, .int .i64 0, .int .i64 0, .int .i64 0, .int .i64 0, .int .i64 0, .int .i64 0, .int .i64 0, .int .i64 0, .int .i64 0]).row PX)
  have hb1 := Bw.setRow (Bw.alloc (Bw.refl w2) (.cells #[.int .i64 0, .int .i64 0, .int .i64 0, .int .i64 0, .int .i64 0, .int .i64 0, .int .i64 0, .int .i64 0, .int .i64 0, .int .i64 0, .int .i64 0, .int .i64 0, .int .i64 0] 32)) (Nat.le_of_eq hg1) PX
  rw [hg1] at K9 ⊢
  replace KX := Lib.hid (KX.out.bw hb1); replace K5 := Lib.hid (K5.out.bw hb1); replace K7 := Lib.hid (K7.out.bw hb1); replace HW := Lib.hid (HW.out.trans hb1); clear hb1
  generalize World.setRow (World.alloc w2 _) _ _ = z2 at *
  clear hg1
  go_upto_region 5 with (first | ((with_reducible refine at_load 25 (.tmp 2) ?_); refine wpList_load_row rfl 25 _ rfl g rfl 25 A (0, 0) _ KX.out Tryd.underlying25 rfl HSZ.out ?_) | (go_at_call 9; (with_reducible refine Calls.mono (RC.out _) ?_); rintro e1 w3 ⟨rfl, hb1⟩; replace KX := Lib.hid (KX.out.bw hb1); replace K5 := Lib.hid (K5.out.bw hb1); replace K7 := Lib.hid (K7.out.bw hb1); replace K9 := Lib.hid (K9.out.bw hb1); replace HW := Lib.hid (HW.out.trans hb1); clear hb1) | ((with_reducible refine at_store 32 (.tmp 11) (.tmp 33) ?_); refine wpList_store_row rfl 32 (.tmp 11) (.tmp 33) rfl w3.heap.size PX rfl rfl 32 #[.int .i64 0, .int .i64 0, .int .i64 0, .int .i64 0, .int .i64 0, .int .i64 0, .int .i64 0, .int .i64 0, .int .i64 0, .int .i64 0, .int .i64 0, .int .i64 0, .int .i64 0] (Blk.new w3 32 #[.int .i64 0, .int .i64 0, .int .i64 0, .int .i64 0, .int .i64 0, .int .i64 0, .int .i64 0, .int .i64 0, .int .i64 0, .int .i64 0, .int .i64 0, .int .i64 0, .int .i64 0]) HS.out HN.out H1.out ?_))
  obtain ⟨g11, hg1⟩ : ∃ g11, w3.heap.size = g11 := ⟨_, rfl⟩
  have K11 := Lib.hid ((Blk.new w3 32 #[.int .i64 0, .int .i64 0, .int .i64 0, .int .i64 0, .int .i64 0, .int .i64 0, .int .i64 0, .int .i64 0, .int .i64 0, .int .i64 0, .int .i64 0, .int .i64 0, .int .i64 0]).row PX)
  have hb1 := Bw.setRow (Bw.alloc (Bw.refl w3) (.cells #[.int .i64 0, .int .i64 0, .int .i64 0, .int .i64 0, .int .i64 0, .int .i64 0, .int .i64 0, .int .i64 0, .int .i64 0, .int .i64 0, .int .i64 0, .int .i64 0, .int .i64 0] 32)) (Nat.le_of_eq hg1) PX
  rw [hg1] at K11 ⊢
  replace KX := Lib.hid (KX.out.bw hb1); replace K5 := Lib.hid (K5.out.bw hb1); replace K7 := Lib.hid (K7.out.bw hb1); replace K9 := Lib.hid (K9.out.bw hb1); replace HW := Lib.hid (HW.out.trans hb1); clear hb1
  generalize World.setRow (World.alloc w3 _) _ _ = z3 at *
  clear hg1
  have hq := fun x y z W => eqP_self x y z W
  have hgg := fun W a b op p q => eqP_guard a b op p q W
  have hq2 := HQ.out
  have hgg2 := fun W a b op p q => eqPg_guard a b op p q W
  go_wp2_with (first | (go_at_call 10; (with_reducible refine Calls.mono (AW.out _) ?_); rintro e1 w9 ⟨rfl, hb1⟩; replace HW := Lib.hid (HW.out.trans hb1); clear hb1) | ((with_reducible refine at_load 27 (.tmp 5) ?_); refine wpList_load_roww28 27 _ rfl g5 rfl 27 #[.int .i64 p0, .int .i64 p1, .int .i64 p2] (0, 0) _ K5.out Tryd.underlying27 rfl (by kernel_rfl) (by rfl) ?_) | ((with_reducible refine at_load 27 (.tmp 7) ?_); refine wpList_load_roww28 27 _ rfl g7 rfl 27 #[.int .i64 p0, .int .i64 p1, .int .i64 p2] (0, 0) _ K7.out Tryd.underlying27 rfl (by kernel_rfl) (by rfl) ?_) | ((with_reducible refine at_load 32 (.tmp 9) ?_); refine wpList_load_roww28 32 _ rfl g9 rfl 32 PX (0, 0) _ K9.out Tryd.underlying32 rfl HS.out (by rfl) ?_) | ((with_reducible refine at_load 32 (.tmp 11) ?_); refine wpList_load_roww28 32 _ rfl g11 rfl 32 PX (0, 0) _ K11.out Tryd.underlying32 rfl HS.out (by rfl) ?_))
  go_ret
  exact ⟨rfl, HW.out⟩
end Go.Proofs.Sky
