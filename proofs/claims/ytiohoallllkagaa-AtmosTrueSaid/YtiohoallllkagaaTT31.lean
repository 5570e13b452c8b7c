/-
  lemmas for the theorems of this claim. No conditions beyond those written in the statements.
-/
import Derived.Test.YtiohoallllkagaaSP31
import Derived.Laws.StructEq
import Derived.Test.YtiohoallllkagaaK31
import Derived.Test.YtiohoallllkagaaB31b
import Derived.Deep.Cut
set_option linter.unusedVariables false
set_option linter.unusedSimpArgs false
set_option linter.unnecessarySimpa false
namespace Go.Proofs.Sky
open Go Go.RowKit Go.Shelf
set_option maxHeartbeats 2000000
set_option maxRecDepth 4000
theorem eqA4 (d : Nat) (a b c e : Int) (w : World) : (Op.equalIn (d + 2) 22 (.agg #[.int .i64 a, .int .i64 b, .int .i64 c, .int .i64 e]) (.agg #[.int .i64 a, .int .i64 b, .int .i64 c, .int .i64 e])).run Try.prog w = .ok true w := by
  have hu : Try.prog.underlying 22 = some (.array 4 3) := by kernel_rfl
  have hi : Try.prog.underlying 3 = some (.int .i64) := by kernel_rfl
  have hs : ∀ w, (sizeOf 3).run Try.prog w = .ok 1 w := fun w => by kernel_rfl
  simp [Op.equalIn, run_underlying hu, run_underlying hi, hs, go_sem, part, Std.Legacy.Range.forIn_eq_forIn_range', Std.Legacy.Range.size, List.range'_succ, List.range'_zero, List.forIn_cons, List.forIn_nil]
theorem eqA3 (d : Nat) (a b c : Int) (w : World) : (Op.equalIn (d + 2) 23 (.agg #[.int .i64 a, .int .i64 b, .int .i64 c]) (.agg #[.int .i64 a, .int .i64 b, .int .i64 c])).run Try.prog w = .ok true w := by
  have hu : Try.prog.underlying 23 = some (.array 3 3) := by kernel_rfl
  have hi : Try.prog.underlying 3 = some (.int .i64) := by kernel_rfl
  have hs : ∀ w, (sizeOf 3).run Try.prog w = .ok 1 w := fun w => by kernel_rfl
  simp [Op.equalIn, run_underlying hu, run_underlying hi, hs, go_sem, part, Std.Legacy.Range.forIn_eq_forIn_range', Std.Legacy.Range.size, List.range'_succ, List.range'_zero, List.forIn_cons, List.forIn_nil]
theorem eqAt_self (x : Nat → Int) (w : World) : (Op.equalIn 10000 25 (.agg (atV x)) (.agg (atV x))).run Try.prog w = .ok true w := by
  unfold atV
  generalize x 0 = a0, x 1 = a1, x 2 = a2, x 3 = a3, x 4 = a4, x 5 = a5, x 6 = a6, x 7 = a7, x 8 = a8
  rw [show (10000 : Nat) = 9998 + 1 + 1 from rfl, run_equalIn_agg _ _ _ _ _ (by kernel_rfl) (by kernel_rfl)]
  simp only [Program.fieldsOf, Try.underlying25]
  have h4 : ∀ w, (sizeOf 22).run Try.prog w = .ok 4 w := fun w => by kernel_rfl
  have h3 : ∀ w, (sizeOf 23).run Try.prog w = .ok 3 w := fun w => by kernel_rfl
  have h1 : ∀ w, (sizeOf 3).run Try.prog w = .ok 1 w := fun w => by kernel_rfl
  have i4 : Try.prog.underlying 22 = some (.array 4 3) := by kernel_rfl
  have i3 : Try.prog.underlying 23 = some (.array 3 3) := by kernel_rfl
  have hi : Try.prog.underlying 3 = some (.int .i64) := by kernel_rfl
  have q4 := eqA4 9997 a0 a1 a2 a3
  have q3 := eqA3 9997 a4 a5 a6
  simp [Op.eqFields, part, h4, h3, h1, go_sem, run_underlying i4, run_underlying i3, run_underlying hi, q4, q3, run_equalIn_int _ _ _ _ _ _ _ hi]
theorem eqAt_guard (x y : Nat → Int) (op : BinOp) (p q : Operand) (w : World) : (eqGuard op 25 p q (.agg (atV x)) (.agg (atV y))).run Try.prog w = .ok () w := run_eqGuard_agg w op _ _ _ _ _ (by kernel_rfl)
end Go.Proofs.Sky

namespace Go.Proofs.Sky
open Go Go.RowKit Go.Shelf
set_option maxHeartbeats 4000000
set_option maxRecDepth 4000
/-! chapter 31: the chapter's examples -/
def xP : Nat → Int := fun i => [2000, 3000, 0, 1000, 2300, 5000, 8000, 500, 100].getD i 0
theorem errXP : errA xP = 0 := by decide
theorem plain_any (w : World) : Calls Try.prog 24 #[] w fun e w' => e = .returned (.agg #[.int .i64 2000, .int .i64 3000, .int .i64 0, .int .i64 1000, .int .i64 2300, .int .i64 5000, .int .i64 8000, .int .i64 500, .int .i64 100]) ∧ Bw w w' := by
  go_enter Try.func24, Try.ntmps24
  go_wp2
  refine bodyPost_ret (v := .agg #[.int .i64 2000, .int .i64 3000, .int .i64 0, .int .i64 1000, .int .i64 2300, .int .i64 5000, .int .i64 8000, .int .i64 500, .int .i64 100]) ?_ rfl ⟨rfl, (by repeat (first | exact Bw.refl _ | assumption | refine Bw.alloc ?_ _ | refine Bw.drew ?_ | refine Bw.trans ?_ (by assumption) | refine Bw.setCell ?_ (by simp; try omega) _))⟩
  simp [results, Try.results24, go_sem]
theorem delays_true (x : Nat → Int) (up i t : Int) (w : World) (hi : ionoD x up = i) (ht : tropoD x up = t) (he : errD x up = 0) :
    Calls Try.prog 23 #[.agg #[.int .i64 (x 0), .int .i64 (x 1), .int .i64 (x 2), .int .i64 (x 3), .int .i64 (x 4), .int .i64 (x 5), .int .i64 (x 6), .int .i64 (x 7), .int .i64 (x 8)], .int .i64 up, .int .i64 i, .int .i64 t] w fun e w' => e = .returned (.bool true) ∧ Bw w w' := by
  have DL := Lib.hid (fun W => Delay_any x up W)
  rw [hi, ht, he] at DL
  clear hi ht he
  have HBW := Lib.hid (Bw.alloc (Bw.refl w) (.cells (atV x) 25))
  have KX := Lib.hid (Blk.new w 25 (atV x))
  unfold atV at HBW KX
  go_enter Try.func23, Try.ntmps23
  go_wp2_with (go_at_call 9; (with_reducible refine Calls.mono (DL.out _) ?_); rintro e1 w1 ⟨rfl, hb9⟩; replace HBW := Lib.hid (HBW.out.trans hb9); clear hb9)
  go_ret
  exact ⟨rfl, HBW.out⟩
theorem corrects_true (ub bd : Int) (w : World) (h1 : 0 ≤ ub) (h2 : ub ≤ 1073741824) (h : bd = 612 + (27000 * ub + 1073741823) / 1073741824) :
    Calls Try.prog 25 #[.int .i64 ub, .int .i64 bd] w fun e w' => e = .returned (.bool true) ∧ Bw w w' := by
  have CR : Hid (∀ W, Calls Try.prog 16 #[.agg #[.int .i64 2000, .int .i64 3000, .int .i64 0, .int .i64 1000, .int .i64 2300, .int .i64 5000, .int .i64 8000, .int .i64 500, .int .i64 100], .int .i64 1000000, .int .i64 10, .int .i64 536870912, .int .i64 ub] W fun e w' => e = .returned (.tuple #[.int .i64 989575, .int .i64 bd, .int .i64 0]) ∧ Bw W w') := Lib.hid (fun W => by
    have h9 := Correct_ok xP 1000000 10 536870912 ub W errXP ⟨by decide, by decide, by decide, by decide, h1, h2⟩ (by decide)
    rw [show (1000000 : Int) - rndH (hsum xP (zD 536870912) 4 4) 90 - rndH (hsum (fun i => xP (4 + i)) (zD 536870912) 3 3) 60 = 989575 by decide, show (10 : Int) + xP 7 + xP 8 + (slopeN xP * ub + 1073741824 - 1) / 1073741824 + 2 = bd by rw [h, show slopeN xP = 27000 by decide, show (10 : Int) + xP 7 + xP 8 = 610 by decide]; omega] at h9
    exact h9)
  have PL := Lib.hid (fun W => plain_any W)
  clear h h1 h2
  go_enter Try.func25, Try.ntmps25
  go_wp2_with (first | (go_at_call 24; (with_reducible refine Calls.mono (PL.out _) ?_); rintro e1 w1 ⟨rfl, hb1⟩) | (go_at_call 16; (with_reducible refine Calls.mono (CR.out _) ?_); rintro e1 w2 ⟨rfl, hb2⟩))
  go_ret
  exact ⟨rfl, hb1.trans hb2⟩
theorem awake_any (w : World) : Calls Try.prog 15 #[] w fun e w' => e = .returned (.bool true) ∧ Bw w w' := by
  have PL := Lib.hid (fun W => plain_any W)
  have SL : Hid (∀ W, Calls Try.prog 11 #[.agg #[.int .i64 2000, .int .i64 3000, .int .i64 0, .int .i64 1000, .int .i64 2300, .int .i64 5000, .int .i64 8000, .int .i64 500, .int .i64 100]] W fun e w' => e = .returned (.tuple #[.int .i64 27000, .int .i64 0]) ∧ Bw W w') := Lib.hid (fun W => by have h9 := Slope_any xP W; exact h9)
  have FR : Hid (∀ W, Calls Try.prog 18 #[.agg #[.int .i64 2000, .int .i64 3000, .int .i64 0, .int .i64 1000, .int .i64 2300, .int .i64 5000, .int .i64 8000, .int .i64 500, .int .i64 100], .int .i64 3] W fun e w' => FrP W.heap.size 3 5 (FrA xP) 0 e w' ∧ Bw W w') := Lib.hid (fun W => Frame_any xP 3 W errXP (by decide) (by decide))
  unfold FrP at FR
  have RD : Hid (∀ W v, RdI W v (FrA xP) → Capd v → Calls Try.prog 20 #[.agg #[.int .i64 3, .int .i64 5, v]] W fun e w' => e = .returned (.tuple #[.agg #[.int .i64 2000, .int .i64 3000, .int .i64 0, .int .i64 1000, .int .i64 2300, .int .i64 5000, .int .i64 8000, .int .i64 500, .int .i64 100], .int .i64 0]) ∧ Bw W w') := Lib.hid (fun W v hv hc => Read_back errXP 3 (by decide) (by decide) v W hv hc)
  have DE : Hid (∀ W, Calls Try.prog 23 #[.agg #[.int .i64 2000, .int .i64 3000, .int .i64 0, .int .i64 1000, .int .i64 2300, .int .i64 5000, .int .i64 8000, .int .i64 500, .int .i64 100], .int .i64 536870912, .int .i64 3625, .int .i64 6800] W fun e w' => e = .returned (.bool true) ∧ Bw W w') := Lib.hid (fun W => delays_true xP 536870912 3625 6800 W (by decide) (by decide) (by decide))
  have CO := Lib.hid (fun W => corrects_true 0 612 W (by decide) (by decide) (by decide))
  generalize FrA xP = FA at *
  go_enter Try.func15, Try.ntmps15
  go_upto_region 2 with (first | (go_at_call 24; (with_reducible refine Calls.mono (PL.out _) ?_); rintro e1 w1 ⟨rfl, hb1⟩) | (go_at_call 11; (with_reducible refine Calls.mono (SL.out _) ?_); rintro e1 w2 ⟨rfl, hb2⟩))
  have HBW := Lib.hid (hb1.trans hb2)
  clear hb1 hb2
  go_upto_region 3 with (first | (go_at_call 24; (with_reducible refine Calls.mono (PL.out _) ?_); rintro e1 w3 ⟨rfl, hb3⟩) | (go_at_call 18; (with_reducible refine Calls.mono (FR.out _) ?_); rintro e1 w4 ⟨⟨v4, rfl, hr4, hf4, hc4⟩, hb4⟩; obtain ⟨a4, c4, rfl⟩ := hr4.form))
  have FX := Blk.new w4 38 #[.int .i64 3, .int .i64 5, .slice a4 FA.length c4]
  have HR := Lib.hid (hr4.mono (Bw.alloc (Bw.refl w4) (.cells #[.int .i64 3, .int .i64 5, .slice a4 FA.length c4] 38)))
  have HC := Lib.hid hc4
  replace HBW := Lib.hid (Bw.alloc (HBW.out.trans (hb3.trans hb4)) (.cells #[.int .i64 3, .int .i64 5, .slice a4 FA.length c4] 38))
  clear hr4 hf4 hc4 hb3 hb4
  generalize hWF : w4.alloc (.cells #[.int .i64 3, .int .i64 5, .slice a4 FA.length c4] 38) = WF at FX HR HBW ⊢
  clear hWF
  have g0 : WF.cell? ⟨w4.heap.size, 0, none⟩ = some (.int .i64 3) := FX.cell rfl
  have g1 : WF.cell? ⟨w4.heap.size, 1, none⟩ = some (.int .i64 5) := FX.cell rfl
  have g2 : WF.cell? ⟨w4.heap.size, 2, none⟩ = some (.slice a4 FA.length c4) := FX.cell rfl
  go_upto_region 4 with (go_at_call 20; (with_reducible refine Calls.mono (RD.out _ _ HR.out HC.out) ?_); rintro e1 w5 ⟨rfl, hb5⟩)
  replace HBW := Lib.hid (Bw.alloc (HBW.out.trans hb5) (.cells #[.int .i64 2000, .int .i64 3000, .int .i64 0, .int .i64 1000, .int .i64 2300, .int .i64 5000, .int .i64 8000, .int .i64 500, .int .i64 100] 25))
  have MX := Blk.new w5 25 #[.int .i64 2000, .int .i64 3000, .int .i64 0, .int .i64 1000, .int .i64 2300, .int .i64 5000, .int .i64 8000, .int .i64 500, .int .i64 100]
  have h1 := (Bw.alloc hb5 (.cells #[.int .i64 2000, .int .i64 3000, .int .i64 0, .int .i64 1000, .int .i64 2300, .int .i64 5000, .int .i64 8000, .int .i64 500, .int .i64 100] 25)).cell' g1
  generalize hW4 : w5.alloc (.cells #[.int .i64 2000, .int .i64 3000, .int .i64 0, .int .i64 1000, .int .i64 2300, .int .i64 5000, .int .i64 8000, .int .i64 500, .int .i64 100] 25) = W4 at MX HBW h1 ⊢
  clear hW4 g0 g1 g2 hb5
  have e9 := fun p' : Ext W4 => Ext.cell' h1 p'
  have e0 := fun p' : Ext W4 => Ext.cell' (MX.cell (j := 0) (v := .int .i64 2000) rfl) p'
  have e1 := fun p' : Ext W4 => Ext.cell' (MX.cell (j := 1) (v := .int .i64 3000) rfl) p'
  have e2 := fun p' : Ext W4 => Ext.cell' (MX.cell (j := 2) (v := .int .i64 0) rfl) p'
  have e3 := fun p' : Ext W4 => Ext.cell' (MX.cell (j := 3) (v := .int .i64 1000) rfl) p'
  have e4 := fun p' : Ext W4 => Ext.cell' (MX.cell (j := 4) (v := .int .i64 2300) rfl) p'
  have e5 := fun p' : Ext W4 => Ext.cell' (MX.cell (j := 5) (v := .int .i64 5000) rfl) p'
  have e6 := fun p' : Ext W4 => Ext.cell' (MX.cell (j := 6) (v := .int .i64 8000) rfl) p'
  have e7 := fun p' : Ext W4 => Ext.cell' (MX.cell (j := 7) (v := .int .i64 500) rfl) p'
  have e8 := fun p' : Ext W4 => Ext.cell' (MX.cell (j := 8) (v := .int .i64 100) rfl) p'
  clear h1
  have hq1 : ∀ w, (Op.equalIn 10000 25 (.agg #[.int .i64 2000, .int .i64 3000, .int .i64 0, .int .i64 1000, .int .i64 2300, .int .i64 5000, .int .i64 8000, .int .i64 500, .int .i64 100]) (.agg #[.int .i64 2000, .int .i64 3000, .int .i64 0, .int .i64 1000, .int .i64 2300, .int .i64 5000, .int .i64 8000, .int .i64 500, .int .i64 100])).run Try.prog w = .ok true w := fun w => eqAt_self xP w
  have hq2 : ∀ w op p q, (eqGuard op 25 p q (.agg #[.int .i64 2000, .int .i64 3000, .int .i64 0, .int .i64 1000, .int .i64 2300, .int .i64 5000, .int .i64 8000, .int .i64 500, .int .i64 100]) (.agg #[.int .i64 2000, .int .i64 3000, .int .i64 0, .int .i64 1000, .int .i64 2300, .int .i64 5000, .int .i64 8000, .int .i64 500, .int .i64 100])).run Try.prog w = .ok () w := fun w op p q => eqAt_guard xP xP op p q w
  (refine wp_region_quiet_ext (by kernel_rfl) (by kernel_rfl) ?_; (repeat (go_big_quiet_step ((first | (go_at_call 24; with_reducible refine Calls.ext_of (PL.out _)) | (go_at_call 23; with_reducible refine Calls.ext_of (DE.out _)) | (go_at_call 25; with_reducible refine Calls.ext_of (CO.out _)))))); refine wpQuiet_nil ?_; rintro wq ⟨⟨_, hbq⟩, rfl⟩; obtain ⟨hccq, hffq⟩ := Bw.cells hbq; have hszq := Bw.size hbq)
  replace HBW := Lib.hid (HBW.out.trans hbq)
  go_wp2
  go_ret
  exact ⟨rfl, HBW.out⟩
end Go.Proofs.Sky

namespace Go.Proofs.Sky
open Go Go.RowKit Go.Shelf
set_option maxHeartbeats 4000000
set_option maxRecDepth 4000
theorem run_mxI2 {P : Program} {w : World} (ts : Array TypeId) (t : TypeId) (k k' : IntKind) (x y : Int) : (Builtin.max_ ts t #[.int k x, .int k' y]).run P w = .ok (.int k (max x y)) w := by
  rw [run_max_int2 w ts t k k' x y]
  congr 2
  split <;> omega
theorem run_mnI2 {P : Program} {w : World} (ts : Array TypeId) (t : TypeId) (k k' : IntKind) (x y : Int) : (Builtin.min_ ts t #[.int k x, .int k' y]).run P w = .ok (.int k (min x y)) w := by
  rw [run_min_int2 w ts t k k' x y]
  congr 2
  split <;> omega
attribute [-go_sem] run_max_int2 run_min_int2
attribute [local go_sem] run_mxI2 run_mnI2
theorem true_plain {x : Nat → Int} (h : errA x = 0) (a b B : Int) (ha : 0 ≤ a ∧ a ≤ 1073741824) (hb : 0 ≤ b ∧ b ≤ 1073741824) (h1 : -B ≤ a - b) (h2 : a - b ≤ B) :
    ionoD x a + tropoD x a - ionoD x b - tropoD x b ≤ (slopeN x * B + 1073741824 - 1) / 1073741824 + 2 ∧ -(ionoD x a + tropoD x a - ionoD x b - tropoD x b) ≤ (slopeN x * B + 1073741824 - 1) / 1073741824 + 2 := by
  have hd := delta h a b B ha hb h1 h2
  generalize slopeN x * B = P at *
  omega
theorem Correct_ok2 (x : Nat → Int) (ln bb up ub : Int) (w : World) (h : errA x = 0) (hr : -10000000000000 ≤ ln ∧ ln ≤ 10000000000000 ∧ 0 ≤ bb ∧ bb ≤ 10000000000000 ∧ 0 ≤ ub ∧ ub ≤ 1073741824) (hu : 0 ≤ up ∧ up ≤ 1073741824) :
    Calls Try.prog 16 #[.agg #[.int .i64 (x 0), .int .i64 (x 1), .int .i64 (x 2), .int .i64 (x 3), .int .i64 (x 4), .int .i64 (x 5), .int .i64 (x 6), .int .i64 (x 7), .int .i64 (x 8)], .int .i64 ln, .int .i64 bb, .int .i64 up, .int .i64 ub] w fun e w' => e = .returned (.tuple #[.int .i64 (ln - ionoD x up - tropoD x up), .int .i64 (bb + x 7 + x 8 + (slopeN x * ub + 1073741824 - 1) / 1073741824 + 2), .int .i64 0]) ∧ Bw w w' := by
  have h9 := Correct_ok x ln bb up ub w h hr hu
  unfold ionoD tropoD
  rw [if_pos ⟨h, hu⟩, if_pos ⟨h, hu⟩]
  exact h9
theorem law_true (zs ms : List Int) (v v2 : Value) (length up upBy : Int) (w : World) (hv : RdI w v zs) (hv2 : RdI w v2 ms) : Calls Try.prog 7 #[v, .int .i64 length, .int .i64 up, .int .i64 upBy, v2] w fun e w' => e = .returned (.bool true) ∧ Bw w w' := by
  have HV := Lib.hid hv
  have HV2 := Lib.hid hv2
  obtain ⟨ad, cap, rfl⟩ := hv.form
  obtain ⟨ad2, cap2, rfl⟩ := hv2.form
  clear hv hv2
  have OF := Lib.hid (fun W hW => of_any zs (.slice ad zs.length cap) W hW)
  have hx0 := ofX_ok zs
  generalize ofX zs = x at OF hx0
  unfold atV at OF
  have CKA := Lib.hid (show ∀ W1 g, Blk W1 g 25 (atV x) → ∀ i, i < 9 → W1.cell? ⟨g, i, none⟩ = some (.int .i64 (x i)) from fun W1 g hB i hi => hB.cell (atV_at x i hi))
  unfold atV at CKA
  have hall := errA_all hx0
  have h7 := hall 7 (by omega)
  have h8 := hall 8 (by omega)
  clear hall
  have NT := Lib.hid (fun i W hW => Nth_any ms (.slice ad2 ms.length cap2) i W hW)
  have BL := Lib.hid (fun W => Below_any length 1000000000001 W (by decide) (by decide))
  have bL := bel_bd length 1000000000001 (by decide)
  generalize bel length 1000000000001 = L at BL bL
  have BU := Lib.hid (fun W => Below_any up 1073741825 W (by decide) (by decide))
  have bU := bel_bd up 1073741825 (by decide)
  generalize bel up 1073741825 = U at BU bU
  have BB := Lib.hid (fun W => Below_any upBy 1073741825 W (by decide) (by decide))
  have bB := bel_bd upBy 1073741825 (by decide)
  generalize bel upBy 1073741825 = B at BB bB
  have BY := Lib.hid (fun W => Below_any (nth ms 0) 1000001 W (by decide) (by decide))
  have bY := bel_bd (nth ms 0) 1000001 (by decide)
  generalize bel (nth ms 0) 1000001 = Y at BY bY
  have B1 := Lib.hid (fun W => Below_any (nth ms 1) (2 * x 7 + 1) W (by omega) (by omega))
  have b1 := bel_bd (nth ms 1) (2 * x 7 + 1) (by omega)
  generalize bel (nth ms 1) (2 * x 7 + 1) = e1 at B1 b1
  have B2 := Lib.hid (fun W => Below_any (nth ms 2) (2 * x 8 + 1) W (by omega) (by omega))
  have b2 := bel_bd (nth ms 2) (2 * x 8 + 1) (by omega)
  generalize bel (nth ms 2) (2 * x 8 + 1) = e2 at B2 b2
  have B3 := Lib.hid (fun W => Below_any (nth ms 3) (2 * Y + 1) W (by omega) (by omega))
  have b3 := bel_bd (nth ms 3) (2 * Y + 1) (by omega)
  generalize bel (nth ms 3) (2 * Y + 1) = e3 at B3 b3
  have B4 := Lib.hid (fun W => Below_any (nth ms 4) (2 * B + 1) W (by omega) (by omega))
  have b4 := bel_bd (nth ms 4) (2 * B + 1) (by omega)
  generalize bel (nth ms 4) (2 * B + 1) = e4 at B4 b4
  have DU := Lib.hid (fun W => Delay_any x U W)
  have eU : errD x U = 0 := by unfold errD; rw [if_pos hx0, if_pos (by omega)]
  rw [eU] at DU
  clear eU
  obtain ⟨S, hS⟩ : ∃ S : Int, S = (max 0 (min 1073741824 (U + e4 - B))) := ⟨_, rfl⟩
  have bS : 0 ≤ S ∧ S ≤ 1073741824 := by omega
  have hpl := true_plain hx0 U S B (by omega) bS (by omega) (by omega)
  have hiU := iono_bd hx0 U (by omega)
  have hiS := iono_bd hx0 S bS
  obtain ⟨M, hM⟩ : ∃ M : Int, M = L + ionoD x U + e1 - x 7 + tropoD x U + e2 - x 8 + e3 - Y := ⟨_, rfl⟩
  have CR := Lib.hid (fun W => Correct_ok2 x M Y S B W hx0 (by omega) bS)
  have hsl := slope_bd hx0
  have hmu := mul_bd3 (slopeN x) B 9000000 1073741824 (by omega) (by omega) (by omega) (by omega)
  have hmn : 0 ≤ slopeN x * B := Int.mul_nonneg (by omega) (by omega)
  generalize ionoD x U = p at *
  generalize tropoD x U = q at *
  generalize ionoD x S = r at *
  generalize tropoD x S = s at *
  generalize slopeN x * B = sb at *
  obtain ⟨BD, hBD⟩ : ∃ BD : Int, BD = Y + x 7 + x 8 + (sb + 1073741824 - 1) / 1073741824 + 2 := ⟨_, rfl⟩
  obtain ⟨F, hF⟩ : ∃ F : Int, F = M - r - s := ⟨_, rfl⟩
  rw [← hBD, ← hF] at CR
  have f1 : F - L ≤ BD := by omega
  have f2 : L - F ≤ BD := by omega
  have f3 : Y ≤ BD := by omega
  have f4 : -40000000000000 ≤ F ∧ F ≤ 40000000000000 := by omega
  have f5 : BD ≤ 40000000000000 := by omega
  clear hF hBD hpl hmu hmn hsl hiS
  have HF := Lib.hid (And.intro f1 (And.intro f2 (And.intro f3 (And.intro f4 f5))))
  clear f1 f2 f3 f4 f5
  have AW := Lib.hid (fun W => awake_any W)
  clear hx0
  have HBW := Lib.hid (Bw.refl w)
  go_enter Try.func7, Try.ntmps7
  go_upto_region 2 with (go_at_call 26; (with_reducible refine Calls.mono (OF.out _ (HV.out.mono HBW.out)) ?_); rintro e9 w1 ⟨rfl, hb9⟩; replace HBW := Lib.hid (HBW.out.trans hb9); clear hb9)
  have MX := Lib.hid (Blk.new w1 25 #[.int .i64 (x 0), .int .i64 (x 1), .int .i64 (x 2), .int .i64 (x 3), .int .i64 (x 4), .int .i64 (x 5), .int .i64 (x 6), .int .i64 (x 7), .int .i64 (x 8)])
  replace HBW := Lib.hid (Bw.alloc HBW.out (.cells #[.int .i64 (x 0), .int .i64 (x 1), .int .i64 (x 2), .int .i64 (x 3), .int .i64 (x 4), .int .i64 (x 5), .int .i64 (x 6), .int .i64 (x 7), .int .i64 (x 8)] 25))
  obtain ⟨G, hG⟩ : ∃ G, w1.heap.size = G := ⟨_, rfl⟩
  generalize w1.alloc (.cells #[.int .i64 (x 0), .int .i64 (x 1), .int .i64 (x 2), .int .i64 (x 3), .int .i64 (x 4), .int .i64 (x 5), .int .i64 (x 6), .int .i64 (x 7), .int .i64 (x 8)] 25) = u1 at MX HBW ⊢
  rw [hG] at MX ⊢
  clear hG OF
  have k0 : u1.cell? ⟨G, 0, none⟩ = some (.int .i64 (x 0)) := CKA.out _ _ MX.out 0 (by omega)
  have k1 : u1.cell? ⟨G, 1, none⟩ = some (.int .i64 (x 1)) := CKA.out _ _ MX.out 1 (by omega)
  have k2 : u1.cell? ⟨G, 2, none⟩ = some (.int .i64 (x 2)) := CKA.out _ _ MX.out 2 (by omega)
  have k3 : u1.cell? ⟨G, 3, none⟩ = some (.int .i64 (x 3)) := CKA.out _ _ MX.out 3 (by omega)
  have k4 : u1.cell? ⟨G, 4, none⟩ = some (.int .i64 (x 4)) := CKA.out _ _ MX.out 4 (by omega)
  have k5 : u1.cell? ⟨G, 5, none⟩ = some (.int .i64 (x 5)) := CKA.out _ _ MX.out 5 (by omega)
  have k6 : u1.cell? ⟨G, 6, none⟩ = some (.int .i64 (x 6)) := CKA.out _ _ MX.out 6 (by omega)
  have k7 : u1.cell? ⟨G, 7, none⟩ = some (.int .i64 (x 7)) := CKA.out _ _ MX.out 7 (by omega)
  have k8 : u1.cell? ⟨G, 8, none⟩ = some (.int .i64 (x 8)) := CKA.out _ _ MX.out 8 (by omega)
  go_upto_region 8 with (first | (go_at_call 27; (with_reducible first | refine Calls.mono (BL.out _) ?_ | refine Calls.mono (BU.out _) ?_ | refine Calls.mono (BB.out _) ?_ | refine Calls.mono (BY.out _) ?_); rintro e9 w1 ⟨rfl, hb9⟩; replace HBW := Lib.hid (HBW.out.trans hb9); replace MX := Lib.hid (MX.out.bw hb9); clear hb9; clear k0 k1 k2 k3 k4 k5 k6 k7 k8; have k0 : w1.cell? ⟨G, 0, none⟩ = some (.int .i64 (x 0)) := CKA.out _ _ MX.out 0 (by omega); have k1 : w1.cell? ⟨G, 1, none⟩ = some (.int .i64 (x 1)) := CKA.out _ _ MX.out 1 (by omega); have k2 : w1.cell? ⟨G, 2, none⟩ = some (.int .i64 (x 2)) := CKA.out _ _ MX.out 2 (by omega); have k3 : w1.cell? ⟨G, 3, none⟩ = some (.int .i64 (x 3)) := CKA.out _ _ MX.out 3 (by omega); have k4 : w1.cell? ⟨G, 4, none⟩ = some (.int .i64 (x 4)) := CKA.out _ _ MX.out 4 (by omega); have k5 : w1.cell? ⟨G, 5, none⟩ = some (.int .i64 (x 5)) := CKA.out _ _ MX.out 5 (by omega); have k6 : w1.cell? ⟨G, 6, none⟩ = some (.int .i64 (x 6)) := CKA.out _ _ MX.out 6 (by omega); have k7 : w1.cell? ⟨G, 7, none⟩ = some (.int .i64 (x 7)) := CKA.out _ _ MX.out 7 (by omega); have k8 : w1.cell? ⟨G, 8, none⟩ = some (.int .i64 (x 8)) := CKA.out _ _ MX.out 8 (by omega)) | (go_at_call 28; (with_reducible first | refine Calls.mono (NT.out _ _ (HV2.out.mono HBW.out)) ?_); rintro e9 w1 ⟨rfl, hb9⟩; replace HBW := Lib.hid (HBW.out.trans hb9); replace MX := Lib.hid (MX.out.bw hb9); clear hb9; clear k0 k1 k2 k3 k4 k5 k6 k7 k8; have k0 : w1.cell? ⟨G, 0, none⟩ = some (.int .i64 (x 0)) := CKA.out _ _ MX.out 0 (by omega); have k1 : w1.cell? ⟨G, 1, none⟩ = some (.int .i64 (x 1)) := CKA.out _ _ MX.out 1 (by omega); have k2 : w1.cell? ⟨G, 2, none⟩ = some (.int .i64 (x 2)) := CKA.out _ _ MX.out 2 (by omega); have k3 : w1.cell? ⟨G, 3, none⟩ = some (.int .i64 (x 3)) := CKA.out _ _ MX.out 3 (by omega); have k4 : w1.cell? ⟨G, 4, none⟩ = some (.int .i64 (x 4)) := CKA.out _ _ MX.out 4 (by omega); have k5 : w1.cell? ⟨G, 5, none⟩ = some (.int .i64 (x 5)) := CKA.out _ _ MX.out 5 (by omega); have k6 : w1.cell? ⟨G, 6, none⟩ = some (.int .i64 (x 6)) := CKA.out _ _ MX.out 6 (by omega); have k7 : w1.cell? ⟨G, 7, none⟩ = some (.int .i64 (x 7)) := CKA.out _ _ MX.out 7 (by omega); have k8 : w1.cell? ⟨G, 8, none⟩ = some (.int .i64 (x 8)) := CKA.out _ _ MX.out 8 (by omega)) | (go_at_call 9; (with_reducible first | refine Calls.mono (DU.out _) ?_); rintro e9 w1 ⟨rfl, hb9⟩; replace HBW := Lib.hid (HBW.out.trans hb9); replace MX := Lib.hid (MX.out.bw hb9); clear hb9; clear k0 k1 k2 k3 k4 k5 k6 k7 k8; have k0 : w1.cell? ⟨G, 0, none⟩ = some (.int .i64 (x 0)) := CKA.out _ _ MX.out 0 (by omega); have k1 : w1.cell? ⟨G, 1, none⟩ = some (.int .i64 (x 1)) := CKA.out _ _ MX.out 1 (by omega); have k2 : w1.cell? ⟨G, 2, none⟩ = some (.int .i64 (x 2)) := CKA.out _ _ MX.out 2 (by omega); have k3 : w1.cell? ⟨G, 3, none⟩ = some (.int .i64 (x 3)) := CKA.out _ _ MX.out 3 (by omega); have k4 : w1.cell? ⟨G, 4, none⟩ = some (.int .i64 (x 4)) := CKA.out _ _ MX.out 4 (by omega); have k5 : w1.cell? ⟨G, 5, none⟩ = some (.int .i64 (x 5)) := CKA.out _ _ MX.out 5 (by omega); have k6 : w1.cell? ⟨G, 6, none⟩ = some (.int .i64 (x 6)) := CKA.out _ _ MX.out 6 (by omega); have k7 : w1.cell? ⟨G, 7, none⟩ = some (.int .i64 (x 7)) := CKA.out _ _ MX.out 7 (by omega); have k8 : w1.cell? ⟨G, 8, none⟩ = some (.int .i64 (x 8)) := CKA.out _ _ MX.out 8 (by omega)))
  have HM := Lib.hid hM
  have HS := Lib.hid hS
  clear hM hS
  go_cut [16] from 41 (fun s16 wc => s16 = .int .i64 M ∧ Hid (Bw w1 wc))
  case first =>
    have c7 := fun p' : Ext w1 => Ext.cell' k7 p'
    have c8 := fun p' : Ext w1 => Ext.cell' k8 p'
    clear k0 k1 k2 k3 k4 k5 k6 k7 k8
    (refine wp_region_quiet_ext (by kernel_rfl) (by kernel_rfl) ?_; (repeat (go_big_quiet_step ((first | (go_at_call 28; with_reducible refine Calls.ext_of (NT.out _ _ (HV2.out.mono (HBW.out.trans (Ext.b _))))) | (go_at_call 27; with_reducible first | refine Calls.ext_of (B1.out _) | refine Calls.ext_of (B2.out _) | refine Calls.ext_of (B3.out _)))))); refine wpQuiet_nil ?_; rintro wq ⟨⟨_, hbq⟩, rfl⟩; obtain ⟨hccq, hffq⟩ := Bw.cells hbq; have hszq := Bw.size hbq)
    go_wp2
    go_meet
    exact ⟨by rw [HM.out], Lib.hid hbq⟩
  case rest =>
    obtain ⟨rfl, hb2⟩ := hcut
    replace HBW := Lib.hid (HBW.out.trans hb2.out)
    replace MX := Lib.hid (MX.out.bw hb2.out)
    clear hb2 k0 k1 k2 k3 k4 k5 k6 k7 k8
    have k0 : wc.cell? ⟨G, 0, none⟩ = some (.int .i64 (x 0)) := CKA.out _ _ MX.out 0 (by omega)
    have k1 : wc.cell? ⟨G, 1, none⟩ = some (.int .i64 (x 1)) := CKA.out _ _ MX.out 1 (by omega)
    have k2 : wc.cell? ⟨G, 2, none⟩ = some (.int .i64 (x 2)) := CKA.out _ _ MX.out 2 (by omega)
    have k3 : wc.cell? ⟨G, 3, none⟩ = some (.int .i64 (x 3)) := CKA.out _ _ MX.out 3 (by omega)
    have k4 : wc.cell? ⟨G, 4, none⟩ = some (.int .i64 (x 4)) := CKA.out _ _ MX.out 4 (by omega)
    have k5 : wc.cell? ⟨G, 5, none⟩ = some (.int .i64 (x 5)) := CKA.out _ _ MX.out 5 (by omega)
    have k6 : wc.cell? ⟨G, 6, none⟩ = some (.int .i64 (x 6)) := CKA.out _ _ MX.out 6 (by omega)
    have k7 : wc.cell? ⟨G, 7, none⟩ = some (.int .i64 (x 7)) := CKA.out _ _ MX.out 7 (by omega)
    have k8 : wc.cell? ⟨G, 8, none⟩ = some (.int .i64 (x 8)) := CKA.out _ _ MX.out 8 (by omega)
    go_upto_region 9 with fail
    go_cut [17] from 77 (fun s17 wz => s17 = .int .i64 S ∧ Hid (Bw wc wz))
    case first =>
      have HB2 := Lib.hid (Bw.refl wc)
      clear k0 k1 k2 k3 k4 k5 k6 k7 k8
      go_wp2_with (first | (go_at_call 28; (with_reducible refine Calls.mono (NT.out _ _ (HV2.out.mono (HBW.out.trans HB2.out))) ?_); rintro e9 w5 ⟨rfl, hb9⟩; replace HB2 := Lib.hid (HB2.out.trans hb9); clear hb9) | (go_at_call 27; (with_reducible refine Calls.mono (B4.out _) ?_); rintro e9 w5 ⟨rfl, hb9⟩; replace HB2 := Lib.hid (HB2.out.trans hb9); clear hb9))
      go_meet
      exact ⟨by rw [HS.out], HB2⟩
    case rest =>
      obtain ⟨rfl, hb2⟩ := hcut
      replace HBW := Lib.hid (HBW.out.trans hb2.out)
      replace MX := Lib.hid (MX.out.bw hb2.out)
      clear hb2 k0 k1 k2 k3 k4 k5 k6 k7 k8
      have k0 : wc.cell? ⟨G, 0, none⟩ = some (.int .i64 (x 0)) := CKA.out _ _ MX.out 0 (by omega)
      have k1 : wc.cell? ⟨G, 1, none⟩ = some (.int .i64 (x 1)) := CKA.out _ _ MX.out 1 (by omega)
      have k2 : wc.cell? ⟨G, 2, none⟩ = some (.int .i64 (x 2)) := CKA.out _ _ MX.out 2 (by omega)
      have k3 : wc.cell? ⟨G, 3, none⟩ = some (.int .i64 (x 3)) := CKA.out _ _ MX.out 3 (by omega)
      have k4 : wc.cell? ⟨G, 4, none⟩ = some (.int .i64 (x 4)) := CKA.out _ _ MX.out 4 (by omega)
      have k5 : wc.cell? ⟨G, 5, none⟩ = some (.int .i64 (x 5)) := CKA.out _ _ MX.out 5 (by omega)
      have k6 : wc.cell? ⟨G, 6, none⟩ = some (.int .i64 (x 6)) := CKA.out _ _ MX.out 6 (by omega)
      have k7 : wc.cell? ⟨G, 7, none⟩ = some (.int .i64 (x 7)) := CKA.out _ _ MX.out 7 (by omega)
      have k8 : wc.cell? ⟨G, 8, none⟩ = some (.int .i64 (x 8)) := CKA.out _ _ MX.out 8 (by omega)
      clear bS
      go_upto_region 11 with ((go_at_call 16; (with_reducible first | refine Calls.mono (CR.out _) ?_); rintro e9 w1 ⟨rfl, hb9⟩; replace HBW := Lib.hid (HBW.out.trans hb9); replace MX := Lib.hid (MX.out.bw hb9); clear hb9; clear k0 k1 k2 k3 k4 k5 k6 k7 k8; have k0 : w1.cell? ⟨G, 0, none⟩ = some (.int .i64 (x 0)) := CKA.out _ _ MX.out 0 (by omega); have k1 : w1.cell? ⟨G, 1, none⟩ = some (.int .i64 (x 1)) := CKA.out _ _ MX.out 1 (by omega); have k2 : w1.cell? ⟨G, 2, none⟩ = some (.int .i64 (x 2)) := CKA.out _ _ MX.out 2 (by omega); have k3 : w1.cell? ⟨G, 3, none⟩ = some (.int .i64 (x 3)) := CKA.out _ _ MX.out 3 (by omega); have k4 : w1.cell? ⟨G, 4, none⟩ = some (.int .i64 (x 4)) := CKA.out _ _ MX.out 4 (by omega); have k5 : w1.cell? ⟨G, 5, none⟩ = some (.int .i64 (x 5)) := CKA.out _ _ MX.out 5 (by omega); have k6 : w1.cell? ⟨G, 6, none⟩ = some (.int .i64 (x 6)) := CKA.out _ _ MX.out 6 (by omega); have k7 : w1.cell? ⟨G, 7, none⟩ = some (.int .i64 (x 7)) := CKA.out _ _ MX.out 7 (by omega); have k8 : w1.cell? ⟨G, 8, none⟩ = some (.int .i64 (x 8)) := CKA.out _ _ MX.out 8 (by omega)))
      obtain ⟨f1, f2, f3, f4, f5⟩ := HF.out
      clear HF
      go_wp2_with ((go_at_call 15; (with_reducible first | refine Calls.mono (AW.out _) ?_); rintro e9 w1 ⟨rfl, hb9⟩; replace HBW := Lib.hid (HBW.out.trans hb9); replace MX := Lib.hid (MX.out.bw hb9); clear hb9; clear k0 k1 k2 k3 k4 k5 k6 k7 k8; have k0 : w1.cell? ⟨G, 0, none⟩ = some (.int .i64 (x 0)) := CKA.out _ _ MX.out 0 (by omega); have k1 : w1.cell? ⟨G, 1, none⟩ = some (.int .i64 (x 1)) := CKA.out _ _ MX.out 1 (by omega); have k2 : w1.cell? ⟨G, 2, none⟩ = some (.int .i64 (x 2)) := CKA.out _ _ MX.out 2 (by omega); have k3 : w1.cell? ⟨G, 3, none⟩ = some (.int .i64 (x 3)) := CKA.out _ _ MX.out 3 (by omega); have k4 : w1.cell? ⟨G, 4, none⟩ = some (.int .i64 (x 4)) := CKA.out _ _ MX.out 4 (by omega); have k5 : w1.cell? ⟨G, 5, none⟩ = some (.int .i64 (x 5)) := CKA.out _ _ MX.out 5 (by omega); have k6 : w1.cell? ⟨G, 6, none⟩ = some (.int .i64 (x 6)) := CKA.out _ _ MX.out 6 (by omega); have k7 : w1.cell? ⟨G, 7, none⟩ = some (.int .i64 (x 7)) := CKA.out _ _ MX.out 7 (by omega); have k8 : w1.cell? ⟨G, 8, none⟩ = some (.int .i64 (x 8)) := CKA.out _ _ MX.out 8 (by omega)))
      go_ret
      exact ⟨rfl, HBW.out⟩
end Go.Proofs.Sky
