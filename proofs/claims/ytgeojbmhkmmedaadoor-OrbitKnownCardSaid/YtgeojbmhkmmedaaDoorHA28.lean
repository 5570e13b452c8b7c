/-
  lemmas for the theorems of this claim. No conditions beyond those written in the statements.
-/
import Derived.Test.YtgeojbmhkmmedaaDoorDA28
import Derived.Laws.StructEq
import Derived.Test.YtgeojbmhkmmedaaDoorBA28
import Derived.Test.YtgeojbmhkmmedaaDoorFA28
set_option linter.unusedVariables false
set_option linter.unusedSimpArgs false
set_option linter.unnecessarySimpa false
namespace Go.Proofs.Sky
open Go Go.RowKit Go.Shelf
set_option maxHeartbeats 4000000
set_option maxRecDepth 8000
/-! equal pages -/
theorem eqA3 (d : Nat) (a b c : Int) (w : World) : (Op.equalIn (d + 2) 22 (.agg #[.int .i64 a, .int .i64 b, .int .i64 c]) (.agg #[.int .i64 a, .int .i64 b, .int .i64 c])).run Tryd.prog w = .ok true w := by
  have hu : Tryd.prog.underlying 22 = some (.array 3 3) := by kernel_rfl
  have hi : Tryd.prog.underlying 3 = some (.int .i64) := by kernel_rfl
  have hs : ∀ w, (sizeOf 3).run Tryd.prog w = .ok 1 w := fun w => by kernel_rfl
  simp [Op.equalIn, run_underlying hu, run_underlying hi, hs, go_sem, part, Std.Legacy.Range.forIn_eq_forIn_range', Std.Legacy.Range.size, List.range'_succ, List.range'_zero, List.forIn_cons, List.forIn_nil]
theorem eqPg_self (x : Nat → Int) (w : World) : (Op.equalIn 10000 32 (.agg (pgV x)) (.agg (pgV x))).run Tryd.prog w = .ok true w := by
  unfold pgV
  generalize x 0 = a0, x 1 = a1, x 2 = a2, x 3 = a3, x 4 = a4, x 5 = a5, x 6 = a6, x 7 = a7, x 8 = a8, x 9 = a9, x 10 = a10, x 11 = a11, x 12 = a12
  rw [show (10000 : Nat) = 9998 + 1 + 1 from rfl, run_equalIn_agg _ _ _ _ _ (by kernel_rfl) (by kernel_rfl)]
  simp only [Program.fieldsOf, Tryd.underlying32]
  have h3 : ∀ w, (sizeOf 22).run Tryd.prog w = .ok 3 w := fun w => by kernel_rfl
  have h1 : ∀ w, (sizeOf 3).run Tryd.prog w = .ok 1 w := fun w => by kernel_rfl
  have i3 : Tryd.prog.underlying 22 = some (.array 3 3) := by kernel_rfl
  have hi : Tryd.prog.underlying 3 = some (.int .i64) := by kernel_rfl
  have q3 := fun d => eqA3 d
  simp [Op.eqFields, part, h3, h1, go_sem, run_underlying i3, run_underlying hi, q3 9997, run_equalIn_int _ _ _ _ _ _ _ hi]
theorem eqPg_guard (x y : Array Value) (op : BinOp) (p q : Operand) (w : World) : (eqGuard op 32 p q (.agg x) (.agg y)).run Tryd.prog w = .ok () w := run_eqGuard_agg w op _ _ _ _ _ (by kernel_rfl)
end Go.Proofs.Sky

namespace Go.Proofs.Sky
open Go Go.RowKit Go.Shelf
set_option maxHeartbeats 2000000
set_option maxRecDepth 8000
/-! chapter 28: Clock, the walk -/
theorem ck_bd {X : Nat → Int} (h : errE X = 0) : (X 4).natAbs ≤ 2147483648 ∧ (X 5).natAbs ≤ 8388608 ∧ (X 6).natAbs ≤ 32768 := by
  have hp := (errE_parts h).2.1
  have h0 := hp 0 (by omega)
  have h1 := hp 1 (by omega)
  have h2 := hp 2 (by omega)
  unfold okZ at h0 h1 h2
  simp only [decide_eq_true_eq] at h0 h1 h2
  rw [show lowR (clB 0) true = -2147483648 from by decide, show highR (clB 0) true = 2147483647 from by decide] at h0
  rw [show lowR (clB 1) true = -8388608 from by decide, show highR (clB 1) true = 8388607 from by decide] at h1
  rw [show lowR (clB 2) true = -32768 from by decide, show highR (clB 2) true = 32767 from by decide] at h2
  have e0 : -2147483648 ≤ X 4 ∧ X 4 ≤ 2147483647 := h0
  have e1 : -8388608 ≤ X 5 ∧ X 5 ≤ 8388607 := h1
  have e2 : -32768 ≤ X 6 ∧ X 6 ≤ 32767 := h2
  clear h0 h1 h2
  omega
theorem rdI_ck {W : World} {g : Nat} {X : Nat → Int} (hB : Blk W g 25 (eV X)) : RdI W (.slice (some ⟨g, 4, none⟩) 3 3) [X 4, X 5, X 6] := by
  refine ⟨by simp, _, _, rfl, .inr ⟨g, 4, rfl, hB.lt, fun k hk => ?_⟩⟩
  have hk4 : k < 3 := hk
  refine hB.cell ((eV_at X (4 + k) (by omega)).trans ?_)
  match k, hk4 with
  | 0, _ => rfl
  | 1, _ => rfl
  | 2, _ => rfl
def ckE (X : Nat → Int) (t : Int) : Int := if (atE X t).2 = 0 then clkQ (X 4) (X 5) (X 6) (atE X t).1 else 0
theorem Clock28_any (X : Nat → Int) (t : Int) (w : World) : Calls Tryd.prog 15 #[.agg (eV X), .int .i64 t] w fun e w' => e = .returned (.tuple #[.int .i64 (ckE X t), .int .i64 (atE X t).2]) ∧ Bw w w' := by
  have AT := Lib.hid (fun W => at28_any X t W)
  have KX := Lib.hid (Blk.new w 25 (eV X))
  have HW := Lib.hid (Bw.alloc (Bw.refl w) (.cells (eV X) 25))
  have HSZ : Hid ((Tryd.prog.info? 25).map (·.size) = some (eV X).size) := Lib.hid (by kernel_rfl)
  have HRA := Lib.hid (fun W g (hB : Blk W g 25 (eV X)) => rdI_ck hB)
  obtain ⟨g, hg⟩ : ∃ g, w.heap.size = g := ⟨_, rfl⟩
  rw [hg] at KX
  have HOK := Lib.hid (fun h => atE_ok (X := X) (t := t) h)
  have HBD := Lib.hid (fun (h : errE X = 0) => ck_bd h)
  have HPS := Lib.hid (show ckE X t = if (atE X t).2 = 0 then clkQ (X 4) (X 5) (X 6) (atE X t).1 else 0 from rfl)
  generalize ckE X t = CE at *
  generalize atE X t = R at *
  obtain ⟨d, er⟩ := R
  dsimp only at AT HOK HPS
  obtain ⟨A, hA⟩ : ∃ A, A = eV X := ⟨_, rfl⟩
  rw [← hA] at AT KX HW HSZ HRA ⊢
  clear hA
  go_enter Tryd.func15, Tryd.ntmps15
  go_upto_region 1 with fail
  obtain ⟨W0, hW0⟩ : ∃ W0, w.alloc (.cells A 25) = W0 := ⟨_, rfl⟩
  rw [hW0] at KX HW ⊢
  clear hW0 hg
  go_upto_region 2 with (first | ((with_reducible refine at_load 25 (.tmp 2) ?_); refine wpList_load_row rfl 25 _ rfl g rfl 25 A (0, 0) _ KX.out Tryd.underlying25 rfl HSZ.out ?_) | (go_at_call 34; (with_reducible refine Calls.mono (AT.out _) ?_); rintro e1 w1 ⟨rfl, hb1⟩; replace KX := Lib.hid (KX.out.bw hb1); replace HW := Lib.hid (HW.out.trans hb1); clear hb1))
  by_cases c1 : er = 0
  case neg =>
    have c1z : (er != 0) = true := by simpa using c1
    have HR := Lib.hid (HPS.out.trans (if_neg c1))
    clear c1
    go_wp2
    refine bodyPost_ret (v := .tuple #[.int .i64 0, .int .i64 er]) ?_ rfl ⟨by rw [HR.out], HW.out⟩
    simp [results, Tryd.results15, go_sem]
  obtain ⟨hx, hd⟩ := HOK.out c1
  subst c1
  have HR := Lib.hid (HPS.out.trans (if_pos rfl))
  obtain ⟨b0, b1, b2⟩ := HBD.out hx
  have hp4 := (clk3 b0 b1 b2 hd).1
  have OV := Lib.hid (fun W => over_clk b0 b1 b2 hd W)
  have VA : Hid (∀ W v vs, RdI W v [X 4, X 5, X 6] → RdI W vs [40, 24, 0] → Calls Tryd.prog 35 #[v, vs, .int .i64 d] W fun e w' => e = .returned (.agg (nV (hW d (xsW [X 4, X 5, X 6] [40, 24, 0] 3)).1 (hW d (xsW [X 4, X 5, X 6] [40, 24, 0] 3)).2)) ∧ Bw W w') := Lib.hid (fun W v vs h1 h2 => valued_any [X 4, X 5, X 6] [40, 24, 0] d v vs W h1 h2 (by simp) (by simp) rfl (fun j hj => by
    have hj4 : j < 3 := hj
    rcases (by omega : j = 0 ∨ j = 1 ∨ j = 2) with rfl | rfl | rfl
    · show -9000000000000000000 ≤ X 4 ∧ X 4 ≤ 9000000000000000000; omega
    · show -9000000000000000000 ≤ X 5 ∧ X 5 ≤ 9000000000000000000; omega
    · show -9000000000000000000 ≤ X 6 ∧ X 6 ≤ 9000000000000000000; omega) (fun j hj => by
    have hj4 : j < 3 := hj
    rcases (by omega : j = 0 ∨ j = 1 ∨ j = 2) with rfl | rfl | rfl <;> decide) (by omega) hp4)
  clear hp4 b0 b1 b2 hx hd HBD HOK HPS AT
  have HRX := Lib.hid (fun W (hB : Blk W g 25 A) => HRA.out W g hB)
  clear HRA
  generalize X 4 = x0 at *
  generalize X 5 = x1 at *
  generalize X 6 = x2 at *
  generalize hW d (xsW [x0, x1, x2] [40, 24, 0] 3) = RES at *
  generalize clkQ x0 x1 x2 d = CQ at *
  have TM1 := Lib.hid (fun W => times28 RES 299792458 (by decide) W)
  have UN : Hid (∀ W, Calls Tryd.prog 37 #[.int .i64 2, .int .i64 50] W fun e w' => e = .returned (.agg (nV (unitW 2 50).1 (unitW 2 50).2)) ∧ Bw W w') := Lib.hid (fun W => unit28_any 2 50 (by decide) (by decide) W)
  generalize unitW 2 50 = UV at *
  have TM2 := Lib.hid (fun W => times28 UV 1000000 (by decide) W)
  generalize timesW RES 299792458 = RS2 at *
  generalize timesW UV 1000000 = UV2 at *
  have RS := Lib.hid (show RdI (w1.alloc (.cells #[.int .i64 40, .int .i64 24, .int .i64 0] 3)) (.slice (some ⟨w1.heap.size, 0, none⟩) 3 3) [40, 24, 0] from RdI.litN w1 #[.int .i64 40, .int .i64 24, .int .i64 0] 3 [40, 24, 0] w1.heap.size rfl (by rfl) (by simp))
  go_upto_region 4 with fail
  go_wp2_with (first | (go_at_call 35; (with_reducible refine Calls.mono (VA.out _ _ _ (HRX.out _ (KX.out.bw (Bw.alloc (Bw.refl w1) (.cells #[.int .i64 40, .int .i64 24, .int .i64 0] 3)))) RS.out) ?_); rintro e1 w4 ⟨rfl, hb1⟩; replace hb1 := (Bw.alloc (Bw.refl w1) (.cells #[.int .i64 40, .int .i64 24, .int .i64 0] 3)).trans hb1; replace KX := Lib.hid (KX.out.bw hb1); replace HW := Lib.hid (HW.out.trans hb1); clear hb1) | (go_at_call 38; (first | (with_reducible refine Calls.mono (TM1.out _) ?_) | (with_reducible refine Calls.mono (TM2.out _) ?_)); rintro e1 w5 ⟨rfl, hb1⟩; replace KX := Lib.hid (KX.out.bw hb1); replace HW := Lib.hid (HW.out.trans hb1); clear hb1) | (go_at_call 37; (with_reducible refine Calls.mono (UN.out _) ?_); rintro e1 w5 ⟨rfl, hb1⟩; replace KX := Lib.hid (KX.out.bw hb1); replace HW := Lib.hid (HW.out.trans hb1); clear hb1) | (go_at_call 36; (with_reducible refine Calls.mono (OV.out _) ?_); rintro e1 w6 ⟨rfl, hb1⟩; replace KX := Lib.hid (KX.out.bw hb1); replace HW := Lib.hid (HW.out.trans hb1); clear hb1))
  refine bodyPost_ret (v := .tuple #[.int .i64 CQ, .int .i64 0]) ?_ rfl ⟨by rw [HR.out], HW.out⟩
  simp [results, Tryd.results15, go_sem]
end Go.Proofs.Sky

namespace Go.Proofs.Sky
open Go Go.RowKit Go.Shelf
set_option maxHeartbeats 4000000
set_option maxRecDepth 8000
/-! chapter 28: the examples -/
theorem wpList_load_roww28 {P : Program} {ops : Array Oper} {rest : List Oper} {o : Oper} {a : Act} {w : World} {Q : Exit → Act → World → Prop} (ty : TypeId) (x : Operand) (ho : o.op = .load ty x)
    (g : Nat) (hx : a.eval x = .pointer (some ⟨g, 0, none⟩)) (t : TypeId) (cs : Array Value) (fr : Nat × Nat) (d : TypeDesc) (hg : w.heap[g]? = some (.cells cs t fr))
    (hu : P.underlying ty = some d) (hd : (match d with | .struct _ | .array _ _ => true | _ => false) = true) (hi : (P.info? ty).map (·.size) = some cs.size) (hw : Region.wanted o (yielded ops a.tmps) = true)
    (h : wpList P ops Q rest (a.put o.dst (.agg cs)) w) : wpList P ops Q (o :: rest) a w := by
  rw [wpList, if_pos hw]
  exact .inl (wp_load_row ty x ho g hx t cs fr d hg hu hd hi h)
theorem eqP_self (x y z : Int) (w : World) : (Op.equalIn 10000 27 (.agg #[.int .i64 x, .int .i64 y, .int .i64 z]) (.agg #[.int .i64 x, .int .i64 y, .int .i64 z])).run Tryd.prog w = .ok true w := by
  rw [show (10000 : Nat) = 9998 + 1 + 1 from rfl, run_equalIn_agg _ _ _ _ _ (by kernel_rfl) (by kernel_rfl)]
  simp only [Program.fieldsOf, Tryd.underlying27]
  have h1 : ∀ w, (sizeOf 3).run Tryd.prog w = .ok 1 w := fun w => by kernel_rfl
  have hi : Tryd.prog.underlying 3 = some (.int .i64) := by kernel_rfl
  simp [Op.eqFields, part, h1, go_sem, run_underlying hi, run_equalIn_int _ _ _ _ _ _ _ hi]
theorem eqP_guard (x y : Array Value) (op : BinOp) (p q : Operand) (w : World) : (eqGuard op 27 p q (.agg x) (.agg y)).run Tryd.prog w = .ok () w := run_eqGuard_agg w op _ _ _ _ _ (by kernel_rfl)
def plX : Nat → Int := fun i => [1, 0, 100, 0, 1024, 0, 0, 1000, -2000, 1024, 0, 0, 0, 0, 4194304, 0, 0, 0, 0].getD i 0
theorem plain28_any (w : World) : Calls Tryd.prog 13 #[] w fun e w' => e = .returned (.agg (eV plX)) ∧ Bw w w' := by
  have KR := Lib.hid (Blk.new w 25 #[.int .i64 0, .int .i64 0, .int .i64 0, .int .i64 0, .int .i64 0, .int .i64 0, .int .i64 0, .int .i64 0, .int .i64 0, .int .i64 0, .int .i64 0, .int .i64 0, .int .i64 0, .int .i64 0, .int .i64 0, .int .i64 0, .int .i64 0, .int .i64 0, .int .i64 0])
  have HW := Lib.hid (Bw.alloc (Bw.refl w) (.cells #[.int .i64 0, .int .i64 0, .int .i64 0, .int .i64 0, .int .i64 0, .int .i64 0, .int .i64 0, .int .i64 0, .int .i64 0, .int .i64 0, .int .i64 0, .int .i64 0, .int .i64 0, .int .i64 0, .int .i64 0, .int .i64 0, .int .i64 0, .int .i64 0, .int .i64 0] 25))
  go_enter Tryd.func13, Tryd.ntmps13
  go_wp2_with ((with_reducible refine at_store 25 (.tmp 0) (.tmp 4) ?_); refine wpList_store_row rfl 25 (.tmp 0) (.tmp 4) rfl w.heap.size (eV plX) rfl rfl 25 _ KR.out (by kernel_rfl) rfl (by simp [Value.oneCell', eV]) ?_)
  refine bodyPost_ret (v := .agg (eV plX)) ?_ rfl ⟨rfl, Bw.setRow HW.out (Nat.le_refl _) _⟩
  exact results_cell_row (p := 0) rfl _ _ w.heap.size _ _ (0, 0) _ rfl (KR.out.row _) Tryd.underlying25 rfl (by kernel_rfl)
theorem pl_at1 : atE plX 101000000000 = (1000000000, 0) := by kernel_rfl
theorem pl_at4 : atE plX 104000000000 = (4000000000, 0) := by kernel_rfl
theorem pl_at0 : atE plX 100000000000 = (0, 0) := by kernel_rfl
theorem pl_err : errE plX = 0 := by kernel_rfl
theorem pl_ps1 : l3V (psE plX 101000000000) = #[.int .i64 14001, .int .i64 0, .int .i64 0] := by kernel_rfl
theorem pl_ps4 : l3V (psE plX 104000000000) = #[.int .i64 8016, .int .i64 4, .int .i64 0] := by kernel_rfl
theorem pl_vs4 : l3V (vsE plX 104000000000) = #[.int .i64 (-1992), .int .i64 3, .int .i64 0] := by kernel_rfl
theorem pl_ck0 : ckE plX 100000000000 = 300 := by kernel_rfl
theorem pl_sp : l3V (spE plX) = #[.int .i64 16400, .int .i64 9720000, .int .i64 0] := by kernel_rfl
theorem stands28_any (t x y : Int) (h1 : (atE plX t).2 = 0) (h2 : l3V (psE plX t) = #[.int .i64 x, .int .i64 y, .int .i64 0]) (w : World) : Calls Tryd.prog 11 #[.int .i64 t, .int .i64 x, .int .i64 y] w fun e w' => e = .returned (.bool true) ∧ Bw w w' := by
  have PL := Lib.hid (fun W => plain28_any W)
  have PS := Lib.hid (fun W => Position28_any plX t W)
  rw [h1, h2] at PS
  have hq := fun W => eqP_self x y 0 W
  have hg := fun W a b op p q => eqP_guard a b op p q W
  obtain ⟨A, hA⟩ : ∃ A, A = eV plX := ⟨_, rfl⟩
  rw [← hA] at PL PS
  clear hA h1 h2
  have HW := Lib.hid (Bw.refl w)
  go_enter Tryd.func11, Tryd.ntmps11
  go_wp2_with (first | (go_at_call 13; (with_reducible refine Calls.mono (PL.out _) ?_); rintro e1 w1 ⟨rfl, hb1⟩; replace HW := Lib.hid (HW.out.trans hb1); clear hb1) | (go_at_call 14; (with_reducible refine Calls.mono (PS.out _) ?_); rintro e1 w2 ⟨rfl, hb1⟩; replace HW := Lib.hid (HW.out.trans hb1); clear hb1))
  go_ret
  exact ⟨rfl, HW.out.trans (Bw.alloc (Bw.refl _) _)⟩
theorem awake28_any (w : World) : Calls Tryd.prog 10 #[] w fun e w' => e = .returned (.bool true) ∧ Bw w w' := by
  have PL := Lib.hid (fun W => plain28_any W)
  have VE := Lib.hid (fun W => Velocity28_any plX 104000000000 W)
  have CK := Lib.hid (fun W => Clock28_any plX 100000000000 W)
  have SP := Lib.hid (fun W => Speed28_any plX W)
  have S1 := Lib.hid (fun W => stands28_any 101000000000 14001 0 (by rw [pl_at1]) pl_ps1 W)
  have S4 := Lib.hid (fun W => stands28_any 104000000000 8016 4 (by rw [pl_at4]) pl_ps4 W)
  rw [pl_at4, pl_vs4] at VE
  rw [pl_at0, pl_ck0] at CK
  rw [pl_err, pl_sp] at SP
  dsimp only at VE CK
  have hq := fun x y z W => eqP_self x y z W
  have hg := fun W a b op p q => eqP_guard a b op p q W
  obtain ⟨A, hA⟩ : ∃ A, A = eV plX := ⟨_, rfl⟩
  rw [← hA] at PL VE CK SP
  clear hA
  have HW := Lib.hid (Bw.refl w)
  go_enter Tryd.func10, Tryd.ntmps10
  go_upto_region 2 with (first | (go_at_call 13; (with_reducible refine Calls.mono (PL.out _) ?_); rintro e1 w1 ⟨rfl, hb1⟩; replace HW := Lib.hid (HW.out.trans hb1); clear hb1) | (go_at_call 12; (with_reducible refine Calls.mono (VE.out _) ?_); rintro e1 w2 ⟨rfl, hb1⟩; replace HW := Lib.hid (HW.out.trans hb1); clear hb1))
  obtain ⟨g1, hg1⟩ : ∃ g1, w2.heap.size = g1 := ⟨_, rfl⟩
  have KV := Lib.hid (Blk.new w2 27 #[.int .i64 (-1992), .int .i64 3, .int .i64 0])
  have hb1 := Bw.alloc (Bw.refl w2) (.cells #[.int .i64 (-1992), .int .i64 3, .int .i64 0] 27)
  rw [hg1] at KV ⊢
  replace HW := Lib.hid (HW.out.trans hb1); clear hb1
  generalize World.alloc w2 _ = w3 at *
  clear hg1
  go_upto_region 3 with (first | (go_at_call 13; (with_reducible refine Calls.mono (PL.out _) ?_); rintro e1 w4 ⟨rfl, hb1⟩; replace KV := Lib.hid (KV.out.bw hb1); replace HW := Lib.hid (HW.out.trans hb1); clear hb1) | (go_at_call 15; (with_reducible refine Calls.mono (CK.out _) ?_); rintro e1 w5 ⟨rfl, hb1⟩; replace KV := Lib.hid (KV.out.bw hb1); replace HW := Lib.hid (HW.out.trans hb1); clear hb1))
  go_upto_region 4 with (first | (go_at_call 13; (with_reducible refine Calls.mono (PL.out _) ?_); rintro e1 w6 ⟨rfl, hb1⟩; replace KV := Lib.hid (KV.out.bw hb1); replace HW := Lib.hid (HW.out.trans hb1); clear hb1) | (go_at_call 6; (with_reducible refine Calls.mono (SP.out _) ?_); rintro e1 w7 ⟨rfl, hb1⟩; replace KV := Lib.hid (KV.out.bw hb1); replace HW := Lib.hid (HW.out.trans hb1); clear hb1))
  obtain ⟨g5, hg5⟩ : ∃ g5, w7.heap.size = g5 := ⟨_, rfl⟩
  have KS := Lib.hid (Blk.new w7 27 #[.int .i64 16400, .int .i64 9720000, .int .i64 0])
  have hb1 := Bw.alloc (Bw.refl w7) (.cells #[.int .i64 16400, .int .i64 9720000, .int .i64 0] 27)
  rw [hg5] at KS ⊢
  replace KV := Lib.hid (KV.out.bw hb1)
  replace HW := Lib.hid (HW.out.trans hb1); clear hb1
  generalize World.alloc w7 _ = w8 at *
  clear hg5
  go_wp2_with (first | (go_at_call 11; (first | (with_reducible refine Calls.mono (S1.out _) ?_) | (with_reducible refine Calls.mono (S4.out _) ?_)); rintro e1 w9 ⟨rfl, hb1⟩; replace KV := Lib.hid (KV.out.bw hb1); replace KS := Lib.hid (KS.out.bw hb1); replace HW := Lib.hid (HW.out.trans hb1); clear hb1) | ((with_reducible refine at_load 27 (.tmp 1) ?_); refine wpList_load_roww28 27 _ rfl g1 rfl 27 #[.int .i64 (-1992), .int .i64 3, .int .i64 0] (0, 0) _ KV.out Tryd.underlying27 rfl (by kernel_rfl) (by rfl) ?_) | ((with_reducible refine at_load 27 (.tmp 5) ?_); refine wpList_load_roww28 27 _ rfl g5 rfl 27 #[.int .i64 16400, .int .i64 9720000, .int .i64 0] (0, 0) _ KS.out Tryd.underlying27 rfl (by kernel_rfl) (by rfl) ?_))
  go_ret
  exact ⟨rfl, HW.out⟩
end Go.Proofs.Sky

namespace Go.Proofs.Sky
open Go Go.RowKit Go.Shelf
set_option maxHeartbeats 4000000
set_option maxRecDepth 8000
/-! chapter 28's cards: OrbitKnown -/
def slX : Nat → Int := fun i => [1, 0, 100, 1001, 1024, 0, 0, 1000, -2000, 1024, 0, 0, 0, 0, 0, 0, 0, 0, 0].getD i 0
theorem sl_set : ((eV plX).setIfInBounds 14 (.int .i64 0)).setIfInBounds 3 (.int .i64 1001) = eV slX := by kernel_rfl
theorem sl_cg : cgE slX 1 = 0 := by kernel_rfl
theorem sl_pg : pgV (cgX slX 1) = #[.int .i64 1, .int .i64 100, .int .i64 35, .int .i64 8130, .int .i64 0, .int .i64 (-2), .int .i64 1, .int .i64 0, .int .i64 0, .int .i64 0, .int .i64 0, .int .i64 0, .int .i64 0] := by kernel_rfl
theorem pl_c1 : cgE plX 1 = 5 := by kernel_rfl
theorem pl_c3 : cgE plX 3 = 2 := by kernel_rfl
theorem pl_g1 : pgV (cgX plX 1) = #[.int .i64 0, .int .i64 0, .int .i64 0, .int .i64 0, .int .i64 0, .int .i64 0, .int .i64 0, .int .i64 0, .int .i64 0, .int .i64 0, .int .i64 0, .int .i64 0, .int .i64 0] := by kernel_rfl
theorem pl_g3 : pgV (cgX plX 3) = #[.int .i64 0, .int .i64 0, .int .i64 0, .int .i64 0, .int .i64 0, .int .i64 0, .int .i64 0, .int .i64 0, .int .i64 0, .int .i64 0, .int .i64 0, .int .i64 0, .int .i64 0] := by kernel_rfl
theorem pl_v0 : l3V (vsE plX 100000000000) = #[.int .i64 (-2000), .int .i64 0, .int .i64 0] := by kernel_rfl
theorem pl_o : (atE plX 7300000000001).2 = 17 := by kernel_rfl
theorem pl_op : l3V (psE plX 7300000000001) = #[.int .i64 0, .int .i64 0, .int .i64 0] := by kernel_rfl
theorem pl_m : (atE plX (-1)).2 = 2 := by kernel_rfl
theorem pl_mp : l3V (psE plX (-1)) = #[.int .i64 0, .int .i64 0, .int .i64 0] := by kernel_rfl
theorem pl_w : (atE plX 604800000000000).2 = 2 := by kernel_rfl
theorem pl_wp : l3V (vsE plX 604800000000000) = #[.int .i64 0, .int .i64 0, .int .i64 0] := by kernel_rfl
theorem ze_at : (atE (fun _ => 0) 0).2 = 2 := by kernel_rfl
theorem ze_ck : ckE (fun _ => 0) 0 = 0 := by kernel_rfl
theorem ze_v : eV (fun _ => 0) = #[.int .i64 0, .int .i64 0, .int .i64 0, .int .i64 0, .int .i64 0, .int .i64 0, .int .i64 0, .int .i64 0, .int .i64 0, .int .i64 0, .int .i64 0, .int .i64 0, .int .i64 0, .int .i64 0, .int .i64 0, .int .i64 0, .int .i64 0, .int .i64 0, .int .i64 0] := rfl
theorem kn_a0 : (atE plX 100000000000).2 = 0 := by kernel_rfl
theorem kn_p0 : l3V (psE plX 100000000000) = #[.int .i64 16000, .int .i64 0, .int .i64 0] := by kernel_rfl
theorem kn_a1 : (atE plX 99000000000).2 = 0 := by kernel_rfl
theorem kn_p1 : l3V (psE plX 99000000000) = #[.int .i64 18001, .int .i64 0, .int .i64 0] := by kernel_rfl
theorem kn_a2 : (atE plX 100500000000).2 = 0 := by kernel_rfl
theorem kn_p2 : l3V (psE plX 100500000000) = #[.int .i64 15000, .int .i64 0, .int .i64 0] := by kernel_rfl
theorem kn_a3 : (atE plX 7300000000000).2 = 0 := by kernel_rfl
theorem kn_p3 : l3V (psE plX 7300000000000) = #[.int .i64 37456000, .int .i64 23328000000, .int .i64 0] := by kernel_rfl
theorem law_known28 (w : World) (hw : WdAt w) : Calls Tryd.prog 4 #[] w fun e w' => e = .returned (.bool true) ∧ Bw w w' := by
  have HWD := Lib.hid hw
  have PL := Lib.hid (fun W => plain28_any W)
  have S0 := Lib.hid (fun W => stands28_any 100000000000 16000 0 kn_a0 kn_p0 W)
  have S1 := Lib.hid (fun W => stands28_any 99000000000 18001 0 kn_a1 kn_p1 W)
  have S2 := Lib.hid (fun W => stands28_any 100500000000 15000 0 kn_a2 kn_p2 W)
  have S3 := Lib.hid (fun W => stands28_any 7300000000000 37456000 23328000000 kn_a3 kn_p3 W)
  have VA := Lib.hid (fun W => Velocity28_any plX 100000000000 W)
  have PB := Lib.hid (fun W => Position28_any plX 7300000000001 W)
  have PC := Lib.hid (fun W => Position28_any plX (-1) W)
  have CA := Lib.hid (fun W hW => Coarse28_any plX 1 W hW)
  have CB := Lib.hid (fun W hW => Coarse28_any plX 3 W hW)
  have CK := Lib.hid (fun W => Clock28_any (fun _ => 0) 0 W)
  have VW := Lib.hid (fun W => Velocity28_any plX 604800000000000 W)
  have CS := Lib.hid (fun W hW => Coarse28_any slX 1 W hW)
  have AW := Lib.hid (fun W => awake28_any W)
  rw [show (atE plX 100000000000).2 = 0 by rw [pl_at0], pl_v0] at VA
  rw [pl_o, pl_op] at PB
  rw [pl_m, pl_mp] at PC
  rw [pl_c1, pl_g1] at CA
  rw [pl_c3, pl_g3] at CB
  rw [ze_at, ze_ck, ze_v] at CK
  rw [pl_w, pl_wp] at VW
  rw [sl_cg, sl_pg] at CS
  have HSL := Lib.hid sl_set
  have HSZ : Hid ((Tryd.prog.info? 25).map (·.size) = some (eV plX).size) := Lib.hid (by kernel_rfl)
  have HSS : Hid ((Tryd.prog.info? 25).map (·.size) = some (eV slX).size) := Lib.hid (by kernel_rfl)
  have HO : Hid ((eV plX).all (·.oneCell') = true) := Lib.hid (by simp [Value.oneCell', eV])
  have HN : Hid ((#[.int .i64 0, .int .i64 0, .int .i64 0, .int .i64 0, .int .i64 0, .int .i64 0, .int .i64 0, .int .i64 0, .int .i64 0, .int .i64 0, .int .i64 0, .int .i64 0, .int .i64 0, .int .i64 0, .int .i64 0, .int .i64 0, .int .i64 0, .int .i64 0, .int .i64 0] : Array Value).size = (eV plX).size) := Lib.hid rfl
  have H14 : Hid ((eV plX)[14]? = some (.int .i64 4194304)) := Lib.hid (by kernel_rfl)
  have H3 : Hid ((eV plX)[3]? = some (.int .i64 0)) := Lib.hid (by kernel_rfl)
  obtain ⟨A, hA⟩ : ∃ A, A = eV plX := ⟨_, rfl⟩
  obtain ⟨B, hB⟩ : ∃ B, B = eV slX := ⟨_, rfl⟩
  rw [← hA] at PL VA PB PC CA CB VW HSL HSZ HO HN H14 H3
  rw [← hB] at CS HSL HSS
  clear hA hB hw
  have HW := Lib.hid (Bw.refl w)
  go_enter Tryd.func4, Tryd.ntmps4
  go_upto_region 3 with (go_at_call 11; (first | (with_reducible refine Calls.mono (S0.out _) ?_) | (with_reducible refine Calls.mono (S1.out _) ?_) | (with_reducible refine Calls.mono (S2.out _) ?_) | (with_reducible refine Calls.mono (S3.out _) ?_)); rintro e1 ws ⟨rfl, hb1⟩; replace HW := Lib.hid (HW.out.trans hb1); clear hb1)
  go_upto_region 4 with (first | (go_at_call 13; (with_reducible refine Calls.mono (PL.out _) ?_); rintro e1 wp ⟨rfl, hb1⟩; replace HW := Lib.hid (HW.out.trans hb1); clear hb1) | (go_at_call 12; (with_reducible refine Calls.mono (VA.out _) ?_); rintro e1 w3 ⟨rfl, hb1⟩; replace HW := Lib.hid (HW.out.trans hb1); clear hb1))
  have hb1 := Bw.alloc (Bw.refl w3) (.cells #[.int .i64 (-2000), .int .i64 0, .int .i64 0] 27)
  obtain ⟨g1, hg1⟩ : ∃ g1, w3.heap.size = g1 := ⟨_, rfl⟩
  have K1 := Lib.hid (Blk.new w3 27 #[.int .i64 (-2000), .int .i64 0, .int .i64 0])
  rw [hg1] at K1 ⊢
  replace HW := Lib.hid (HW.out.trans hb1); clear hb1
  generalize World.alloc w3 _ = z3 at *
  clear hg1
  go_upto_region 5 with (first | (go_at_call 13; (with_reducible refine Calls.mono (PL.out _) ?_); rintro e1 wp ⟨rfl, hb1⟩; replace K1 := Lib.hid (K1.out.bw hb1); replace HW := Lib.hid (HW.out.trans hb1); clear hb1) | (go_at_call 14; (with_reducible refine Calls.mono (PB.out _) ?_); rintro e1 w4 ⟨rfl, hb1⟩; replace K1 := Lib.hid (K1.out.bw hb1); replace HW := Lib.hid (HW.out.trans hb1); clear hb1))
  have hb1 := Bw.alloc (Bw.refl w4) (.cells #[.int .i64 0, .int .i64 0, .int .i64 0] 27)
  replace K1 := Lib.hid (K1.out.bw hb1); replace HW := Lib.hid (HW.out.trans hb1); clear hb1
  generalize World.alloc w4 _ = z4 at *
  go_upto_region 6 with (first | (go_at_call 13; (with_reducible refine Calls.mono (PL.out _) ?_); rintro e1 wp ⟨rfl, hb1⟩; replace K1 := Lib.hid (K1.out.bw hb1); replace HW := Lib.hid (HW.out.trans hb1); clear hb1) | (go_at_call 14; (with_reducible refine Calls.mono (PC.out _) ?_); rintro e1 w5 ⟨rfl, hb1⟩; replace K1 := Lib.hid (K1.out.bw hb1); replace HW := Lib.hid (HW.out.trans hb1); clear hb1))
  have hb1 := Bw.alloc (Bw.refl w5) (.cells #[.int .i64 0, .int .i64 0, .int .i64 0] 27)
  replace K1 := Lib.hid (K1.out.bw hb1); replace HW := Lib.hid (HW.out.trans hb1); clear hb1
  generalize World.alloc w5 _ = z5 at *
  go_upto_region 7 with (first | (go_at_call 13; (with_reducible refine Calls.mono (PL.out _) ?_); rintro e1 wp ⟨rfl, hb1⟩; replace K1 := Lib.hid (K1.out.bw hb1); replace HW := Lib.hid (HW.out.trans hb1); clear hb1) | (go_at_call 8; (with_reducible refine Calls.mono (CA.out _ (HWD.out.bw HW.out)) ?_); rintro e1 w6 ⟨rfl, hb1⟩; replace K1 := Lib.hid (K1.out.bw hb1); replace HW := Lib.hid (HW.out.trans hb1); clear hb1) | ((with_reducible refine at_store 32 (.tmp 7) (.tmp 49) ?_); refine wpList_store_row rfl 32 (.tmp 7) (.tmp 49) rfl w6.heap.size #[.int .i64 0, .int .i64 0, .int .i64 0, .int .i64 0, .int .i64 0, .int .i64 0, .int .i64 0, .int .i64 0, .int .i64 0, .int .i64 0, .int .i64 0, .int .i64 0, .int .i64 0] rfl rfl 32 #[.int .i64 0, .int .i64 0, .int .i64 0, .int .i64 0, .int .i64 0, .int .i64 0, .int .i64 0, .int .i64 0, .int .i64 0, .int .i64 0, .int .i64 0, .int .i64 0, .int .i64 0] (Blk.new w6 32 #[.int .i64 0, .int .i64 0, .int .i64 0, .int .i64 0, .int .i64 0, .int .i64 0, .int .i64 0, .int .i64 0, .int .i64 0, .int .i64 0, .int .i64 0, .int .i64 0, .int .i64 0]) (by kernel_rfl) (by simp) (by simp [Value.oneCell']) ?_))
  obtain ⟨g7, hg1⟩ : ∃ g7, w6.heap.size = g7 := ⟨_, rfl⟩
  have hb1 := Bw.setRow (Bw.alloc (Bw.refl w6) (.cells #[.int .i64 0, .int .i64 0, .int .i64 0, .int .i64 0, .int .i64 0, .int .i64 0, .int .i64 0, .int .i64 0, .int .i64 0, .int .i64 0, .int .i64 0, .int .i64 0, .int .i64 0] 32)) (Nat.le_of_eq hg1) #[.int .i64 0, .int .i64 0, .int .i64 0, .int .i64 0, .int .i64 0, .int .i64 0, .int .i64 0, .int .i64 0, .int .i64 0, .int .i64 0, .int .i64 0, .int .i64 0, .int .i64 0]
  rw [hg1]
  replace K1 := Lib.hid (K1.out.bw hb1); replace HW := Lib.hid (HW.out.trans hb1); clear hb1
  generalize World.setRow (World.alloc w6 _) _ _ = z6 at *
  clear hg1
  go_upto_region 8 with (first | (go_at_call 13; (with_reducible refine Calls.mono (PL.out _) ?_); rintro e1 wp ⟨rfl, hb1⟩; replace K1 := Lib.hid (K1.out.bw hb1); replace HW := Lib.hid (HW.out.trans hb1); clear hb1) | (go_at_call 8; (with_reducible refine Calls.mono (CB.out _ (HWD.out.bw HW.out)) ?_); rintro e1 w7 ⟨rfl, hb1⟩; replace K1 := Lib.hid (K1.out.bw hb1); replace HW := Lib.hid (HW.out.trans hb1); clear hb1) | ((with_reducible refine at_store 32 (.tmp 9) (.tmp 54) ?_); refine wpList_store_row rfl 32 (.tmp 9) (.tmp 54) rfl w7.heap.size #[.int .i64 0, .int .i64 0, .int .i64 0, .int .i64 0, .int .i64 0, .int .i64 0, .int .i64 0, .int .i64 0, .int .i64 0, .int .i64 0, .int .i64 0, .int .i64 0, .int .i64 0] rfl rfl 32 #[.int .i64 0, .int .i64 0, .int .i64 0, .int .i64 0, .int .i64 0, .int .i64 0, .int .i64 0, .int .i64 0, .int .i64 0, .int .i64 0, .int .i64 0, .int .i64 0, .int .i64 0] (Blk.new w7 32 #[.int .i64 0, .int .i64 0, .int .i64 0, .int .i64 0, .int .i64 0, .int .i64 0, .int .i64 0, .int .i64 0, .int .i64 0, .int .i64 0, .int .i64 0, .int .i64 0, .int .i64 0]) (by kernel_rfl) (by simp) (by simp [Value.oneCell']) ?_))
  obtain ⟨g9, hg1⟩ : ∃ g9, w7.heap.size = g9 := ⟨_, rfl⟩
  have hb1 := Bw.setRow (Bw.alloc (Bw.refl w7) (.cells #[.int .i64 0, .int .i64 0, .int .i64 0, .int .i64 0, .int .i64 0, .int .i64 0, .int .i64 0, .int .i64 0, .int .i64 0, .int .i64 0, .int .i64 0, .int .i64 0, .int .i64 0] 32)) (Nat.le_of_eq hg1) #[.int .i64 0, .int .i64 0, .int .i64 0, .int .i64 0, .int .i64 0, .int .i64 0, .int .i64 0, .int .i64 0, .int .i64 0, .int .i64 0, .int .i64 0, .int .i64 0, .int .i64 0]
  rw [hg1]
  replace K1 := Lib.hid (K1.out.bw hb1); replace HW := Lib.hid (HW.out.trans hb1); clear hb1
  generalize World.setRow (World.alloc w7 _) _ _ = z7 at *
  clear hg1
  go_upto_region 9 with (go_at_call 15; (with_reducible refine Calls.mono (CK.out _) ?_); rintro e1 w8 ⟨rfl, hb1⟩; replace K1 := Lib.hid (K1.out.bw hb1); replace HW := Lib.hid (HW.out.trans hb1); clear hb1)
  go_upto_region 10 with (first | (go_at_call 13; (with_reducible refine Calls.mono (PL.out _) ?_); rintro e1 wp ⟨rfl, hb1⟩; replace K1 := Lib.hid (K1.out.bw hb1); replace HW := Lib.hid (HW.out.trans hb1); clear hb1) | (go_at_call 12; (with_reducible refine Calls.mono (VW.out _) ?_); rintro e1 w9 ⟨rfl, hb1⟩; replace K1 := Lib.hid (K1.out.bw hb1); replace HW := Lib.hid (HW.out.trans hb1); clear hb1))
  have hb1 := Bw.alloc (Bw.refl w9) (.cells #[.int .i64 0, .int .i64 0, .int .i64 0] 27)
  replace K1 := Lib.hid (K1.out.bw hb1); replace HW := Lib.hid (HW.out.trans hb1); clear hb1
  generalize World.alloc w9 _ = z9 at *
  have hq := fun x y z W => eqP_self x y z W
  have hgg := fun W a b op p q => eqP_guard a b op p q W
  go_upto_region 12 with ((with_reducible refine at_load 27 (.tmp 1) ?_); refine wpList_load_roww28 27 _ rfl g1 rfl 27 #[.int .i64 (-2000), .int .i64 0, .int .i64 0] (0, 0) _ K1.out Tryd.underlying27 rfl (by kernel_rfl) (by rfl) ?_)
  clear hq hgg K1
  go_upto_region 13 with (first | (go_at_call 13; (with_reducible refine Calls.mono (PL.out _) ?_); rintro e1 w12 ⟨rfl, hb1⟩; replace HW := Lib.hid (HW.out.trans hb1); clear hb1) | ((with_reducible refine at_store 25 (.tmp 15) (.tmp 97) ?_); refine wpList_store_row rfl 25 (.tmp 15) (.tmp 97) rfl w12.heap.size A rfl rfl 25 #[.int .i64 0, .int .i64 0, .int .i64 0, .int .i64 0, .int .i64 0, .int .i64 0, .int .i64 0, .int .i64 0, .int .i64 0, .int .i64 0, .int .i64 0, .int .i64 0, .int .i64 0, .int .i64 0, .int .i64 0, .int .i64 0, .int .i64 0, .int .i64 0, .int .i64 0] (Blk.new w12 25 #[.int .i64 0, .int .i64 0, .int .i64 0, .int .i64 0, .int .i64 0, .int .i64 0, .int .i64 0, .int .i64 0, .int .i64 0, .int .i64 0, .int .i64 0, .int .i64 0, .int .i64 0, .int .i64 0, .int .i64 0, .int .i64 0, .int .i64 0, .int .i64 0, .int .i64 0]) HSZ.out HN.out HO.out ?_))
  obtain ⟨g15, hg1⟩ : ∃ g15, w12.heap.size = g15 := ⟨_, rfl⟩
  have hb1 := Bw.setRow (Bw.alloc (Bw.refl w12) (.cells #[.int .i64 0, .int .i64 0, .int .i64 0, .int .i64 0, .int .i64 0, .int .i64 0, .int .i64 0, .int .i64 0, .int .i64 0, .int .i64 0, .int .i64 0, .int .i64 0, .int .i64 0, .int .i64 0, .int .i64 0, .int .i64 0, .int .i64 0, .int .i64 0, .int .i64 0] 25)) (Nat.le_of_eq hg1) A
  have K15 := Lib.hid ((Blk.new w12 25 #[.int .i64 0, .int .i64 0, .int .i64 0, .int .i64 0, .int .i64 0, .int .i64 0, .int .i64 0, .int .i64 0, .int .i64 0, .int .i64 0, .int .i64 0, .int .i64 0, .int .i64 0, .int .i64 0, .int .i64 0, .int .i64 0, .int .i64 0, .int .i64 0, .int .i64 0]).row A)
  rw [hg1] at K15 ⊢
  have HG15 := Lib.hid (show w.heap.size ≤ g15 by have := HW.out.size; omega)
  replace HW := Lib.hid (HW.out.trans hb1)
  clear hb1
  generalize World.setRow (World.alloc w12 _) _ _ = z12 at *
  clear hg1
  have l14 := K15.out.cell H14.out
  have l3 := K15.out.cell H3.out
  have f14 := K15.out.frozen 14
  have f3 := K15.out.frozen 3
  go_upto_region 14 with fail
  have K16 := (K15.out.set 14 (.int .i64 0)).set 3 (.int .i64 1001)
  rw [HSL.out] at K16
  replace K15 := Lib.hid K16
  replace HW := Lib.hid (show Bw w ((z12.setCell ⟨g15, 14, none⟩ (.int .i64 0)).setCell ⟨g15, 3, none⟩ (.int .i64 1001)) from Bw.setCell (Bw.setCell HW.out HG15.out _) HG15.out _)
  clear K16 l14 l3 f14 f3
  generalize World.setCell (World.setCell z12 _ _) _ _ = z13 at *
  go_upto_region 15 with (first | ((with_reducible refine at_load 25 (.tmp 15) ?_); refine wpList_load_row rfl 25 _ rfl g15 rfl 25 B (0, 0) _ K15.out Tryd.underlying25 rfl HSS.out ?_) | (go_at_call 8; (with_reducible refine Calls.mono (CS.out _ (HWD.out.bw HW.out)) ?_); rintro e1 w14 ⟨rfl, hb1⟩; replace K15 := Lib.hid (K15.out.bw hb1); replace HW := Lib.hid (HW.out.trans hb1); clear hb1) | ((with_reducible refine at_store 32 (.tmp 16) (.tmp 104) ?_); refine wpList_store_row rfl 32 (.tmp 16) (.tmp 104) rfl w14.heap.size #[.int .i64 1, .int .i64 100, .int .i64 35, .int .i64 8130, .int .i64 0, .int .i64 (-2), .int .i64 1, .int .i64 0, .int .i64 0, .int .i64 0, .int .i64 0, .int .i64 0, .int .i64 0] rfl rfl 32 #[.int .i64 0, .int .i64 0, .int .i64 0, .int .i64 0, .int .i64 0, .int .i64 0, .int .i64 0, .int .i64 0, .int .i64 0, .int .i64 0, .int .i64 0, .int .i64 0, .int .i64 0] (Blk.new w14 32 #[.int .i64 0, .int .i64 0, .int .i64 0, .int .i64 0, .int .i64 0, .int .i64 0, .int .i64 0, .int .i64 0, .int .i64 0, .int .i64 0, .int .i64 0, .int .i64 0, .int .i64 0]) (by kernel_rfl) (by simp) (by simp [Value.oneCell']) ?_))
  obtain ⟨g16, hg1⟩ : ∃ g16, w14.heap.size = g16 := ⟨_, rfl⟩
  have hb1 := Bw.setRow (Bw.alloc (Bw.refl w14) (.cells #[.int .i64 0, .int .i64 0, .int .i64 0, .int .i64 0, .int .i64 0, .int .i64 0, .int .i64 0, .int .i64 0, .int .i64 0, .int .i64 0, .int .i64 0, .int .i64 0, .int .i64 0] 32)) (Nat.le_of_eq hg1) #[.int .i64 1, .int .i64 100, .int .i64 35, .int .i64 8130, .int .i64 0, .int .i64 (-2), .int .i64 1, .int .i64 0, .int .i64 0, .int .i64 0, .int .i64 0, .int .i64 0, .int .i64 0]
  have K16 := Lib.hid ((Blk.new w14 32 #[.int .i64 0, .int .i64 0, .int .i64 0, .int .i64 0, .int .i64 0, .int .i64 0, .int .i64 0, .int .i64 0, .int .i64 0, .int .i64 0, .int .i64 0, .int .i64 0, .int .i64 0]).row #[.int .i64 1, .int .i64 100, .int .i64 35, .int .i64 8130, .int .i64 0, .int .i64 (-2), .int .i64 1, .int .i64 0, .int .i64 0, .int .i64 0, .int .i64 0, .int .i64 0, .int .i64 0])
  rw [hg1] at K16 ⊢
  replace HW := Lib.hid (HW.out.trans hb1)
  clear hb1 K15
  generalize World.setRow (World.alloc w14 _) _ _ = z14 at *
  clear hg1
  have hq2 : ∀ W, (Op.equalIn 10000 32 (.agg #[.int .i64 1, .int .i64 100, .int .i64 35, .int .i64 8130, .int .i64 0, .int .i64 (-2), .int .i64 1, .int .i64 0, .int .i64 0, .int .i64 0, .int .i64 0, .int .i64 0, .int .i64 0]) (.agg #[.int .i64 1, .int .i64 100, .int .i64 35, .int .i64 8130, .int .i64 0, .int .i64 (-2), .int .i64 1, .int .i64 0, .int .i64 0, .int .i64 0, .int .i64 0, .int .i64 0, .int .i64 0])).run Tryd.prog W = .ok true W := fun W => eqPg_self (fun i => [1, 100, 35, 8130, 0, -2, 1, 0, 0, 0, 0, 0, 0].getD i 0) W
  have hgg2 := fun W a b op p q => eqPg_guard a b op p q W
  go_wp2_with (first | (go_at_call 10; (with_reducible refine Calls.mono (AW.out _) ?_); rintro e1 w15 ⟨rfl, hb1⟩; replace K16 := Lib.hid (K16.out.bw hb1); replace HW := Lib.hid (HW.out.trans hb1); clear hb1) | ((with_reducible refine at_load 32 (.tmp 16) ?_); refine wpList_load_roww28 32 _ rfl g16 rfl 32 #[.int .i64 1, .int .i64 100, .int .i64 35, .int .i64 8130, .int .i64 0, .int .i64 (-2), .int .i64 1, .int .i64 0, .int .i64 0, .int .i64 0, .int .i64 0, .int .i64 0, .int .i64 0] (0, 0) _ K16.out Tryd.underlying32 rfl (by kernel_rfl) (by rfl) ?_))
  go_ret
  exact ⟨rfl, HW.out⟩
end Go.Proofs.Sky
