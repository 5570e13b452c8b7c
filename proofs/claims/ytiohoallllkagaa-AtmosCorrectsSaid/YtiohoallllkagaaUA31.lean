/-
  lemmas for the theorems of this claim. No conditions beyond those written in the statements.
-/
import Derived.Test.YtiohoallllkagaaSP31
import Derived.Laws.StructEq
import Derived.Test.YtiohoallllkagaaK31
import Derived.Test.YtiohoallllkagaaB31b
import Derived.Deep.Cut
import Derived.Test.YtiohoallllkagaaRdAt
set_option linter.unusedVariables false
set_option linter.unusedSimpArgs false
set_option linter.unnecessarySimpa false
namespace Go.Proofs.Sky
open Go Go.RowKit Go.Shelf
set_option maxHeartbeats 2000000
set_option maxRecDepth 4000
theorem eqA4 (d : Nat) (a b c e : Int) (w : World) : (Op.equalIn (d + 2) 22 (.agg #[.int .i64 a, .int .i64 b, .int .i64 c, .int .i64 e]) (.agg #[.int .i64 a, .int .i64 b, .int .i64 c, .int .i64 e])).run Try.prog w = .ok true w := by
  have hu : Try.prog.underlying 22 = some (.array 4 3) := by kernel_rfl
  have hi : Try.prog.underlying 3 = some (.int .i64) := by kernel_rfl
  have hs : ∀ w, (sizeOf 3).run Try.prog w = .ok 1 w := fun w => by kernel_rfl
  simp [Op.equalIn, run_underlying hu, run_underlying hi, hs, go_sem, part, Std.Legacy.Range.forIn_eq_forIn_range', Std.Legacy.Range.size, List.range'_succ, List.range'_zero, List.forIn_cons, List.forIn_nil]
theorem eqA3 (d : Nat) (a b c : Int) (w : World) : (Op.equalIn (d + 2) 23 (.agg #[.int .i64 a, .int .i64 b, .int .i64 c]) (.agg #[.int .i64 a, .int .i64 b, .int .i64 c])).run Try.prog w = .ok true w := by
  have hu : Try.prog.underlying 23 = some (.array 3 3) := by kernel_rfl
  have hi : Try.prog.underlying 3 = some (.int .i64) := by kernel_rfl
  have hs : ∀ w, (sizeOf 3).run Try.prog w = .ok 1 w := fun w => by kernel_rfl
  simp [Op.equalIn, run_underlying hu, run_underlying hi, hs, go_sem, part, Std.Legacy.Range.forIn_eq_forIn_range', Std.Legacy.Range.size, List.range'_succ, List.range'_zero, List.forIn_cons, List.forIn_nil]
theorem eqAt_self (x : Nat → Int) (w : World) : (Op.equalIn 10000 25 (.agg (atV x)) (.agg (atV x))).run Try.prog w = .ok true w := by
  unfold atV
  generalize x 0 = a0, x 1 = a1, x 2 = a2, x 3 = a3, x 4 = a4, x 5 = a5, x 6 = a6, x 7 = a7, x 8 = a8
  rw [show (10000 : Nat) = 9998 + 1 + 1 from rfl, run_equalIn_agg _ _ _ _ _ (by kernel_rfl) (by kernel_rfl)]
  simp only [Program.fieldsOf, Try.underlying25]
  have h4 : ∀ w, (sizeOf 22).run Try.prog w = .ok 4 w := fun w => by kernel_rfl
  have h3 : ∀ w, (sizeOf 23).run Try.prog w = .ok 3 w := fun w => by kernel_rfl
  have h1 : ∀ w, (sizeOf 3).run Try.prog w = .ok 1 w := fun w => by kernel_rfl
  have i4 : Try.prog.underlying 22 = some (.array 4 3) := by kernel_rfl
  have i3 : Try.prog.underlying 23 = some (.array 3 3) := by kernel_rfl
  have hi : Try.prog.underlying 3 = some (.int .i64) := by kernel_rfl
  have q4 := eqA4 9997 a0 a1 a2 a3
  have q3 := eqA3 9997 a4 a5 a6
  simp [Op.eqFields, part, h4, h3, h1, go_sem, run_underlying i4, run_underlying i3, run_underlying hi, q4, q3, run_equalIn_int _ _ _ _ _ _ _ hi]
theorem eqAt_guard (x y : Nat → Int) (op : BinOp) (p q : Operand) (w : World) : (eqGuard op 25 p q (.agg (atV x)) (.agg (atV y))).run Try.prog w = .ok () w := run_eqGuard_agg w op _ _ _ _ _ (by kernel_rfl)
end Go.Proofs.Sky

namespace Go.Proofs.Sky
open Go Go.RowKit Go.Shelf
set_option maxHeartbeats 4000000
set_option maxRecDepth 4000
/-! chapter 31: the chapter's examples -/
def xP : Nat → Int := fun i => [2000, 3000, 0, 1000, 2300, 5000, 8000, 500, 100].getD i 0
theorem errXP : errA xP = 0 := by decide
theorem plain_any (w : World) : Calls Try.prog 24 #[] w fun e w' => e = .returned (.agg #[.int .i64 2000, .int .i64 3000, .int .i64 0, .int .i64 1000, .int .i64 2300, .int .i64 5000, .int .i64 8000, .int .i64 500, .int .i64 100]) ∧ Bw w w' := by
  go_enter Try.func24, Try.ntmps24
  go_wp2
  refine bodyPost_ret (v := .agg #[.int .i64 2000, .int .i64 3000, .int .i64 0, .int .i64 1000, .int .i64 2300, .int .i64 5000, .int .i64 8000, .int .i64 500, .int .i64 100]) ?_ rfl ⟨rfl, (by repeat (first | exact Bw.refl _ | assumption | refine Bw.alloc ?_ _ | refine Bw.drew ?_ | refine Bw.trans ?_ (by assumption) | refine Bw.setCell ?_ (by simp; try omega) _))⟩
  simp [results, Try.results24, go_sem]
theorem delays_true (x : Nat → Int) (up i t : Int) (w : World) (hi : ionoD x up = i) (ht : tropoD x up = t) (he : errD x up = 0) :
    Calls Try.prog 23 #[.agg #[.int .i64 (x 0), .int .i64 (x 1), .int .i64 (x 2), .int .i64 (x 3), .int .i64 (x 4), .int .i64 (x 5), .int .i64 (x 6), .int .i64 (x 7), .int .i64 (x 8)], .int .i64 up, .int .i64 i, .int .i64 t] w fun e w' => e = .returned (.bool true) ∧ Bw w w' := by
  have DL := Lib.hid (fun W => Delay_any x up W)
  rw [hi, ht, he] at DL
  clear hi ht he
  have HBW := Lib.hid (Bw.alloc (Bw.refl w) (.cells (atV x) 25))
  have KX := Lib.hid (Blk.new w 25 (atV x))
  unfold atV at HBW KX
  go_enter Try.func23, Try.ntmps23
  go_wp2_with (go_at_call 9; (with_reducible refine Calls.mono (DL.out _) ?_); rintro e1 w1 ⟨rfl, hb9⟩; replace HBW := Lib.hid (HBW.out.trans hb9); clear hb9)
  go_ret
  exact ⟨rfl, HBW.out⟩
theorem corrects_true (ub bd : Int) (w : World) (h1 : 0 ≤ ub) (h2 : ub ≤ 1073741824) (h : bd = 612 + (27000 * ub + 1073741823) / 1073741824) :
    Calls Try.prog 25 #[.int .i64 ub, .int .i64 bd] w fun e w' => e = .returned (.bool true) ∧ Bw w w' := by
  have CR : Hid (∀ W, Calls Try.prog 16 #[.agg #[.int .i64 2000, .int .i64 3000, .int .i64 0, .int .i64 1000, .int .i64 2300, .int .i64 5000, .int .i64 8000, .int .i64 500, .int .i64 100], .int .i64 1000000, .int .i64 10, .int .i64 536870912, .int .i64 ub] W fun e w' => e = .returned (.tuple #[.int .i64 989575, .int .i64 bd, .int .i64 0]) ∧ Bw W w') := Lib.hid (fun W => by
    have h9 := Correct_ok xP 1000000 10 536870912 ub W errXP ⟨by decide, by decide, by decide, by decide, h1, h2⟩ (by decide)
    rw [show (1000000 : Int) - rndH (hsum xP (zD 536870912) 4 4) 90 - rndH (hsum (fun i => xP (4 + i)) (zD 536870912) 3 3) 60 = 989575 by decide, show (10 : Int) + xP 7 + xP 8 + (slopeN xP * ub + 1073741824 - 1) / 1073741824 + 2 = bd by rw [h, show slopeN xP = 27000 by decide, show (10 : Int) + xP 7 + xP 8 = 610 by decide]; omega] at h9
    exact h9)
  have PL := Lib.hid (fun W => plain_any W)
  clear h h1 h2
  go_enter Try.func25, Try.ntmps25
  go_wp2_with (first | (go_at_call 24; (with_reducible refine Calls.mono (PL.out _) ?_); rintro e1 w1 ⟨rfl, hb1⟩) | (go_at_call 16; (with_reducible refine Calls.mono (CR.out _) ?_); rintro e1 w2 ⟨rfl, hb2⟩))
  go_ret
  exact ⟨rfl, hb1.trans hb2⟩
theorem awake_any (w : World) : Calls Try.prog 15 #[] w fun e w' => e = .returned (.bool true) ∧ Bw w w' := by
  have PL := Lib.hid (fun W => plain_any W)
  have SL : Hid (∀ W, Calls Try.prog 11 #[.agg #[.int .i64 2000, .int .i64 3000, .int .i64 0, .int .i64 1000, .int .i64 2300, .int .i64 5000, .int .i64 8000, .int .i64 500, .int .i64 100]] W fun e w' => e = .returned (.tuple #[.int .i64 27000, .int .i64 0]) ∧ Bw W w') := Lib.hid (fun W => by have h9 := Slope_any xP W; exact h9)
  have FR : Hid (∀ W, Calls Try.prog 18 #[.agg #[.int .i64 2000, .int .i64 3000, .int .i64 0, .int .i64 1000, .int .i64 2300, .int .i64 5000, .int .i64 8000, .int .i64 500, .int .i64 100], .int .i64 3] W fun e w' => FrP W.heap.size 3 5 (FrA xP) 0 e w' ∧ Bw W w') := Lib.hid (fun W => Frame_any xP 3 W errXP (by decide) (by decide))
  unfold FrP at FR
  have RD : Hid (∀ W v, RdI W v (FrA xP) → Capd v → Calls Try.prog 20 #[.agg #[.int .i64 3, .int .i64 5, v]] W fun e w' => e = .returned (.tuple #[.agg #[.int .i64 2000, .int .i64 3000, .int .i64 0, .int .i64 1000, .int .i64 2300, .int .i64 5000, .int .i64 8000, .int .i64 500, .int .i64 100], .int .i64 0]) ∧ Bw W w') := Lib.hid (fun W v hv hc => Read_back errXP 3 (by decide) (by decide) v W hv hc)
  have DE : Hid (∀ W, Calls Try.prog 23 #[.agg #[.int .i64 2000, .int .i64 3000, .int .i64 0, .int .i64 1000, .int .i64 2300, .int .i64 5000, .int .i64 8000, .int .i64 500, .int .i64 100], .int .i64 536870912, .int .i64 3625, .int .i64 6800] W fun e w' => e = .returned (.bool true) ∧ Bw W w') := Lib.hid (fun W => delays_true xP 536870912 3625 6800 W (by decide) (by decide) (by decide))
  have CO := Lib.hid (fun W => corrects_true 0 612 W (by decide) (by decide) (by decide))
  generalize FrA xP = FA at *
  go_enter Try.func15, Try.ntmps15
  go_upto_region 2 with (first | (go_at_call 24; (with_reducible refine Calls.mono (PL.out _) ?_); rintro e1 w1 ⟨rfl, hb1⟩) | (go_at_call 11; (with_reducible refine Calls.mono (SL.out _) ?_); rintro e1 w2 ⟨rfl, hb2⟩))
  have HBW := Lib.hid (hb1.trans hb2)
  clear hb1 hb2
  go_upto_region 3 with (first | (go_at_call 24; (with_reducible refine Calls.mono (PL.out _) ?_); rintro e1 w3 ⟨rfl, hb3⟩) | (go_at_call 18; (with_reducible refine Calls.mono (FR.out _) ?_); rintro e1 w4 ⟨⟨v4, rfl, hr4, hf4, hc4⟩, hb4⟩; obtain ⟨a4, c4, rfl⟩ := hr4.form))
  have FX := Blk.new w4 38 #[.int .i64 3, .int .i64 5, .slice a4 FA.length c4]
  have HR := Lib.hid (hr4.mono (Bw.alloc (Bw.refl w4) (.cells #[.int .i64 3, .int .i64 5, .slice a4 FA.length c4] 38)))
  have HC := Lib.hid hc4
  replace HBW := Lib.hid (Bw.alloc (HBW.out.trans (hb3.trans hb4)) (.cells #[.int .i64 3, .int .i64 5, .slice a4 FA.length c4] 38))
  clear hr4 hf4 hc4 hb3 hb4
  generalize hWF : w4.alloc (.cells #[.int .i64 3, .int .i64 5, .slice a4 FA.length c4] 38) = WF at FX HR HBW ⊢
  clear hWF
  have g0 : WF.cell? ⟨w4.heap.size, 0, none⟩ = some (.int .i64 3) := FX.cell rfl
  have g1 : WF.cell? ⟨w4.heap.size, 1, none⟩ = some (.int .i64 5) := FX.cell rfl
  have g2 : WF.cell? ⟨w4.heap.size, 2, none⟩ = some (.slice a4 FA.length c4) := FX.cell rfl
  go_upto_region 4 with (go_at_call 20; (with_reducible refine Calls.mono (RD.out _ _ HR.out HC.out) ?_); rintro e1 w5 ⟨rfl, hb5⟩)
  replace HBW := Lib.hid (Bw.alloc (HBW.out.trans hb5) (.cells #[.int .i64 2000, .int .i64 3000, .int .i64 0, .int .i64 1000, .int .i64 2300, .int .i64 5000, .int .i64 8000, .int .i64 500, .int .i64 100] 25))
  have MX := Blk.new w5 25 #[.int .i64 2000, .int .i64 3000, .int .i64 0, .int .i64 1000, .int .i64 2300, .int .i64 5000, .int .i64 8000, .int .i64 500, .int .i64 100]
  have h1 := (Bw.alloc hb5 (.cells #[.int .i64 2000, .int .i64 3000, .int .i64 0, .int .i64 1000, .int .i64 2300, .int .i64 5000, .int .i64 8000, .int .i64 500, .int .i64 100] 25)).cell' g1
  generalize hW4 : w5.alloc (.cells #[.int .i64 2000, .int .i64 3000, .int .i64 0, .int .i64 1000, .int .i64 2300, .int .i64 5000, .int .i64 8000, .int .i64 500, .int .i64 100] 25) = W4 at MX HBW h1 ⊢
  clear hW4 g0 g1 g2 hb5
  have e9 := fun p' : Ext W4 => Ext.cell' h1 p'
  have e0 := fun p' : Ext W4 => Ext.cell' (MX.cell (j := 0) (v := .int .i64 2000) rfl) p'
  have e1 := fun p' : Ext W4 => Ext.cell' (MX.cell (j := 1) (v := .int .i64 3000) rfl) p'
  have e2 := fun p' : Ext W4 => Ext.cell' (MX.cell (j := 2) (v := .int .i64 0) rfl) p'
  have e3 := fun p' : Ext W4 => Ext.cell' (MX.cell (j := 3) (v := .int .i64 1000) rfl) p'
  have e4 := fun p' : Ext W4 => Ext.cell' (MX.cell (j := 4) (v := .int .i64 2300) rfl) p'
  have e5 := fun p' : Ext W4 => Ext.cell' (MX.cell (j := 5) (v := .int .i64 5000) rfl) p'
  have e6 := fun p' : Ext W4 => Ext.cell' (MX.cell (j := 6) (v := .int .i64 8000) rfl) p'
  have e7 := fun p' : Ext W4 => Ext.cell' (MX.cell (j := 7) (v := .int .i64 500) rfl) p'
  have e8 := fun p' : Ext W4 => Ext.cell' (MX.cell (j := 8) (v := .int .i64 100) rfl) p'
  clear h1
  have hq1 : ∀ w, (Op.equalIn 10000 25 (.agg #[.int .i64 2000, .int .i64 3000, .int .i64 0, .int .i64 1000, .int .i64 2300, .int .i64 5000, .int .i64 8000, .int .i64 500, .int .i64 100]) (.agg #[.int .i64 2000, .int .i64 3000, .int .i64 0, .int .i64 1000, .int .i64 2300, .int .i64 5000, .int .i64 8000, .int .i64 500, .int .i64 100])).run Try.prog w = .ok true w := fun w => eqAt_self xP w
  have hq2 : ∀ w op p q, (eqGuard op 25 p q (.agg #[.int .i64 2000, .int .i64 3000, .int .i64 0, .int .i64 1000, .int .i64 2300, .int .i64 5000, .int .i64 8000, .int .i64 500, .int .i64 100]) (.agg #[.int .i64 2000, .int .i64 3000, .int .i64 0, .int .i64 1000, .int .i64 2300, .int .i64 5000, .int .i64 8000, .int .i64 500, .int .i64 100])).run Try.prog w = .ok () w := fun w op p q => eqAt_guard xP xP op p q w
  (refine wp_region_quiet_ext (by kernel_rfl) (by kernel_rfl) ?_; (repeat (go_big_quiet_step ((first | (go_at_call 24; with_reducible refine Calls.ext_of (PL.out _)) | (go_at_call 23; with_reducible refine Calls.ext_of (DE.out _)) | (go_at_call 25; with_reducible refine Calls.ext_of (CO.out _)))))); refine wpQuiet_nil ?_; rintro wq ⟨⟨_, hbq⟩, rfl⟩; obtain ⟨hccq, hffq⟩ := Bw.cells hbq; have hszq := Bw.size hbq)
  replace HBW := Lib.hid (HBW.out.trans hbq)
  go_wp2
  go_ret
  exact ⟨rfl, HBW.out⟩
end Go.Proofs.Sky

namespace Go.Proofs.Sky
open Go Go.RowKit Go.Shelf
set_option maxHeartbeats 4000000
set_option maxRecDepth 4000
theorem run_mxI {P : Program} {w : World} (ts : Array TypeId) (t : TypeId) (k k' : IntKind) (x y : Int) : (Builtin.max_ ts t #[.int k x, .int k' y]).run P w = .ok (.int k (max x y)) w := by
  rw [run_max_int2 w ts t k k' x y]
  congr 2
  split <;> omega
theorem run_mnI {P : Program} {w : World} (ts : Array TypeId) (t : TypeId) (k k' : IntKind) (x y : Int) : (Builtin.min_ ts t #[.int k x, .int k' y]).run P w = .ok (.int k (min x y)) w := by
  rw [run_min_int2 w ts t k k' x y]
  congr 2
  split <;> omega
attribute [-go_sem] run_max_int2 run_min_int2
attribute [local go_sem] run_mxI run_mnI
theorem zeroFr (w : World) : (zeroValue 38).run Try.prog w = .ok (.agg #[.int .i64 0, .int .i64 0, .slice none 0 0]) w := by kernel_rfl
theorem law_slopes (zs : List Int) (v : Value) (a b tow : Int) (w : World) (hv : RdI w v zs) : Calls Try.prog 8 #[v, .int .i64 a, .int .i64 b, .int .i64 tow] w fun e w' => e = .returned (.bool true) ∧ Bw w w' := by
  have HV := Lib.hid hv
  obtain ⟨ad, cap, rfl⟩ := hv.form
  clear hv
  have OF := Lib.hid (fun W hW => of_any zs (.slice ad zs.length cap) W hW)
  have hx0 := ofX_ok zs
  generalize ofX zs = x at OF hx0
  unfold atV at OF
  have CKA := Lib.hid (show ∀ W1 g, Blk W1 g 25 (atV x) → ∀ i, i < 9 → W1.cell? ⟨g, i, none⟩ = some (.int .i64 (x i)) from fun W1 g hB i hi => hB.cell (atV_at x i hi))
  unfold atV at CKA
  have BA := Lib.hid (fun W => Below_any a 1073741825 W (by decide) (by decide))
  have BB := Lib.hid (fun W => Below_any b 1073741825 W (by decide) (by decide))
  have BT := Lib.hid (fun W => Below_any tow 131072 W (by decide) (by decide))
  have ba := bel_bd a 1073741825 (by decide)
  have bb := bel_bd b 1073741825 (by decide)
  have bt := bel_bd tow 131072 (by decide)
  generalize bel a 1073741825 = a1 at BA ba
  generalize bel b 1073741825 = b1 at BB bb
  generalize bel tow 131072 = tw at BT bt
  have DA := Lib.hid (fun W => Delay_any x a1 W)
  have DB := Lib.hid (fun W => Delay_any x b1 W)
  have SL := Lib.hid (fun W => Slope_any x W)
  have ea : errD x a1 = 0 := by unfold errD; rw [if_pos hx0, if_pos (by omega)]
  have eb : errD x b1 = 0 := by unfold errD; rw [if_pos hx0, if_pos (by omega)]
  rw [ea] at DA
  rw [eb] at DB
  rw [if_pos hx0, hx0] at SL
  clear ea eb
  have hs := slope_bd hx0
  have hpl := slopes_plain hx0 a1 b1 _ (by omega) (by omega) rfl
  have hia := iono_bd hx0 a1 (by omega)
  have hib := iono_bd hx0 b1 (by omega)
  have hmm := mul_bd3 (slopeN x) (max a1 b1 - min a1 b1) 9000000 1073741824 (by omega) (by omega) (by omega) (by omega)
  have hz := zenith hx0
  have hh := horizon hx0
  have hbd := errA_bd hx0
  have DZ := Lib.hid (fun W => delays_true x 1073741824 _ _ W hz.1 hz.2.1 hz.2.2)
  have DH := Lib.hid (fun W => delays_true x 0 _ _ W hh.1 hh.2.1 hh.2.2)
  have FR := Lib.hid (fun W => Frame_ok x tw W hx0 ⟨by omega, by omega⟩)
  unfold FrP at FR
  have FL := Lib.hid (packed31 hx0).1
  have RD := Lib.hid (fun W v hv hc => Read_back hx0 tw (by omega) (by omega) v W hv hc)
  unfold atV at RD
  have FL2 : Hid ((FrA x).length = 206) := FL
  unfold FrA at FL FL2 RD
  generalize (packR 206 FS31 ((List.range 9).map fun i => x i)).1 = FA at FR FL RD
  clear FL2
  have hq1 := fun w => eqAt_self x w
  have hq2 := fun w op p q => eqAt_guard x x op p q w
  unfold atV at hq1 hq2
  have AW := Lib.hid (fun W => awake_any W)
  have bd0 := hbd 0 (by omega)
  have bd1 := hbd 1 (by omega)
  have bd2 := hbd 2 (by omega)
  have bd3 := hbd 3 (by omega)
  have bd4 := hbd 4 (by omega)
  have bd5 := hbd 5 (by omega)
  have bd6 := hbd 6 (by omega)
  clear hbd hz hh hx0
  generalize ionoD x a1 = p at *
  generalize tropoD x a1 = q at *
  generalize ionoD x b1 = r at *
  generalize tropoD x b1 = s at *
  generalize slopeN x = sn at *
  have HBW := Lib.hid (Bw.refl w)
  go_enter Try.func8, Try.ntmps8
  go_upto_region 2 with (go_at_call 26; (with_reducible refine Calls.mono (OF.out _ (HV.out.mono HBW.out)) ?_); rintro e1 w1 ⟨rfl, hb9⟩; replace HBW := Lib.hid (HBW.out.trans hb9); clear hb9)
  have MX := Lib.hid (Blk.new w1 25 #[.int .i64 (x 0), .int .i64 (x 1), .int .i64 (x 2), .int .i64 (x 3), .int .i64 (x 4), .int .i64 (x 5), .int .i64 (x 6), .int .i64 (x 7), .int .i64 (x 8)])
  replace HBW := Lib.hid (Bw.alloc HBW.out (.cells #[.int .i64 (x 0), .int .i64 (x 1), .int .i64 (x 2), .int .i64 (x 3), .int .i64 (x 4), .int .i64 (x 5), .int .i64 (x 6), .int .i64 (x 7), .int .i64 (x 8)] 25))
  obtain ⟨G, hG⟩ : ∃ G, w1.heap.size = G := ⟨_, rfl⟩
  generalize w1.alloc (.cells #[.int .i64 (x 0), .int .i64 (x 1), .int .i64 (x 2), .int .i64 (x 3), .int .i64 (x 4), .int .i64 (x 5), .int .i64 (x 6), .int .i64 (x 7), .int .i64 (x 8)] 25) = u1 at MX HBW ⊢
  rw [hG] at MX ⊢
  clear hG OF
  have k0 : u1.cell? ⟨G, 0, none⟩ = some (.int .i64 (x 0)) := CKA.out _ _ MX.out 0 (by omega)
  have k1 : u1.cell? ⟨G, 1, none⟩ = some (.int .i64 (x 1)) := CKA.out _ _ MX.out 1 (by omega)
  have k2 : u1.cell? ⟨G, 2, none⟩ = some (.int .i64 (x 2)) := CKA.out _ _ MX.out 2 (by omega)
  have k3 : u1.cell? ⟨G, 3, none⟩ = some (.int .i64 (x 3)) := CKA.out _ _ MX.out 3 (by omega)
  have k4 : u1.cell? ⟨G, 4, none⟩ = some (.int .i64 (x 4)) := CKA.out _ _ MX.out 4 (by omega)
  have k5 : u1.cell? ⟨G, 5, none⟩ = some (.int .i64 (x 5)) := CKA.out _ _ MX.out 5 (by omega)
  have k6 : u1.cell? ⟨G, 6, none⟩ = some (.int .i64 (x 6)) := CKA.out _ _ MX.out 6 (by omega)
  have k7 : u1.cell? ⟨G, 7, none⟩ = some (.int .i64 (x 7)) := CKA.out _ _ MX.out 7 (by omega)
  have k8 : u1.cell? ⟨G, 8, none⟩ = some (.int .i64 (x 8)) := CKA.out _ _ MX.out 8 (by omega)
  go_upto_region 8 with (first | (go_at_call 27; (with_reducible first | refine Calls.mono (BA.out _) ?_ | refine Calls.mono (BB.out _) ?_); rintro e1 w1 ⟨rfl, hb9⟩; replace HBW := Lib.hid (HBW.out.trans hb9); replace MX := Lib.hid (MX.out.bw hb9); clear hb9; clear k0 k1 k2 k3 k4 k5 k6 k7 k8; have k0 : w1.cell? ⟨G, 0, none⟩ = some (.int .i64 (x 0)) := CKA.out _ _ MX.out 0 (by omega); have k1 : w1.cell? ⟨G, 1, none⟩ = some (.int .i64 (x 1)) := CKA.out _ _ MX.out 1 (by omega); have k2 : w1.cell? ⟨G, 2, none⟩ = some (.int .i64 (x 2)) := CKA.out _ _ MX.out 2 (by omega); have k3 : w1.cell? ⟨G, 3, none⟩ = some (.int .i64 (x 3)) := CKA.out _ _ MX.out 3 (by omega); have k4 : w1.cell? ⟨G, 4, none⟩ = some (.int .i64 (x 4)) := CKA.out _ _ MX.out 4 (by omega); have k5 : w1.cell? ⟨G, 5, none⟩ = some (.int .i64 (x 5)) := CKA.out _ _ MX.out 5 (by omega); have k6 : w1.cell? ⟨G, 6, none⟩ = some (.int .i64 (x 6)) := CKA.out _ _ MX.out 6 (by omega); have k7 : w1.cell? ⟨G, 7, none⟩ = some (.int .i64 (x 7)) := CKA.out _ _ MX.out 7 (by omega); have k8 : w1.cell? ⟨G, 8, none⟩ = some (.int .i64 (x 8)) := CKA.out _ _ MX.out 8 (by omega)) | (go_at_call 9; (with_reducible first | refine Calls.mono (DA.out _) ?_ | refine Calls.mono (DB.out _) ?_); rintro e1 w1 ⟨rfl, hb9⟩; replace HBW := Lib.hid (HBW.out.trans hb9); replace MX := Lib.hid (MX.out.bw hb9); clear hb9; clear k0 k1 k2 k3 k4 k5 k6 k7 k8; have k0 : w1.cell? ⟨G, 0, none⟩ = some (.int .i64 (x 0)) := CKA.out _ _ MX.out 0 (by omega); have k1 : w1.cell? ⟨G, 1, none⟩ = some (.int .i64 (x 1)) := CKA.out _ _ MX.out 1 (by omega); have k2 : w1.cell? ⟨G, 2, none⟩ = some (.int .i64 (x 2)) := CKA.out _ _ MX.out 2 (by omega); have k3 : w1.cell? ⟨G, 3, none⟩ = some (.int .i64 (x 3)) := CKA.out _ _ MX.out 3 (by omega); have k4 : w1.cell? ⟨G, 4, none⟩ = some (.int .i64 (x 4)) := CKA.out _ _ MX.out 4 (by omega); have k5 : w1.cell? ⟨G, 5, none⟩ = some (.int .i64 (x 5)) := CKA.out _ _ MX.out 5 (by omega); have k6 : w1.cell? ⟨G, 6, none⟩ = some (.int .i64 (x 6)) := CKA.out _ _ MX.out 6 (by omega); have k7 : w1.cell? ⟨G, 7, none⟩ = some (.int .i64 (x 7)) := CKA.out _ _ MX.out 7 (by omega); have k8 : w1.cell? ⟨G, 8, none⟩ = some (.int .i64 (x 8)) := CKA.out _ _ MX.out 8 (by omega)) | (go_at_call 11; (with_reducible first | refine Calls.mono (SL.out _) ?_); rintro e1 w1 ⟨rfl, hb9⟩; replace HBW := Lib.hid (HBW.out.trans hb9); replace MX := Lib.hid (MX.out.bw hb9); clear hb9; clear k0 k1 k2 k3 k4 k5 k6 k7 k8; have k0 : w1.cell? ⟨G, 0, none⟩ = some (.int .i64 (x 0)) := CKA.out _ _ MX.out 0 (by omega); have k1 : w1.cell? ⟨G, 1, none⟩ = some (.int .i64 (x 1)) := CKA.out _ _ MX.out 1 (by omega); have k2 : w1.cell? ⟨G, 2, none⟩ = some (.int .i64 (x 2)) := CKA.out _ _ MX.out 2 (by omega); have k3 : w1.cell? ⟨G, 3, none⟩ = some (.int .i64 (x 3)) := CKA.out _ _ MX.out 3 (by omega); have k4 : w1.cell? ⟨G, 4, none⟩ = some (.int .i64 (x 4)) := CKA.out _ _ MX.out 4 (by omega); have k5 : w1.cell? ⟨G, 5, none⟩ = some (.int .i64 (x 5)) := CKA.out _ _ MX.out 5 (by omega); have k6 : w1.cell? ⟨G, 6, none⟩ = some (.int .i64 (x 6)) := CKA.out _ _ MX.out 6 (by omega); have k7 : w1.cell? ⟨G, 7, none⟩ = some (.int .i64 (x 7)) := CKA.out _ _ MX.out 7 (by omega); have k8 : w1.cell? ⟨G, 8, none⟩ = some (.int .i64 (x 8)) := CKA.out _ _ MX.out 8 (by omega)))
  go_cut [18] from 67 (fun s18 wc => ∃ M : Int, s18 = .int .i64 M ∧ wc = w1 ∧ Hid (p + q - r - s ≤ M ∧ -(p + q - r - s) ≤ M ∧ M ≤ 10000000))
  case first =>
    go_wp2
    go_meet
    exact ⟨_, rfl, rfl, Lib.hid ⟨hpl.1, hpl.2, by omega⟩⟩
  case rest =>
    obtain ⟨M, rfl, hwc, hM⟩ := hcut
    replace hwc := hwc.symm
    subst hwc
    clear hpl hmm hs
    obtain ⟨m1, m2, m3⟩ := hM.out
    clear hM
    go_upto_region 12 with fail
    clear m1 m2 m3 k0 k1 k2 k3 k4 k5 k6 k7 k8
    go_cut [20, 21] from 94 (fun s20 s21 wc => ∃ g20 a20 c20, s20 = .pointer (some ⟨g20, 0, none⟩) ∧ s21 = .int .i64 0 ∧ Hid (Bw w1 wc) ∧ Hid (Blk wc g20 38 #[.int .i64 tw, .int .i64 5, .slice a20 206 c20]) ∧ Hid (RdI wc (.slice a20 206 c20) FA) ∧ Hid (Capd (.slice a20 206 c20)))
    case first =>
      refine wp_region_held_drew (S := Bw w1) (by kernel_rfl) (Bw.drew (Bw.refl _)) (fun hS => ?_)
      generalize World.drew _ = wd at hS ⊢
      refine take1 (i := 0) (some 95) rfl rfl (by kernel_rfl) (by kernel_rfl) (by kernel_rfl) (fun _ _ _ _ h => h) rfl hS ?_
      apply Exists.intro
      apply And.intro
      · intro W9 hW9; skip; exact run_load_row 25 _ rfl G rfl 25 #[.int .i64 (x 0), .int .i64 (x 1), .int .i64 (x 2), .int .i64 (x 3), .int .i64 (x 4), .int .i64 (x 5), .int .i64 (x 6), .int .i64 (x 7), .int .i64 (x 8)] _ (MX.out.bw hW9) Try.underlying25 rfl (by kernel_rfl)
      simp only [Act.put, List.setIfInBounds_toArray, List.set_cons_zero, List.set_cons_succ]
      refine take1 (i := 1) (some 96) rfl rfl (by kernel_rfl) (by kernel_rfl) (by kernel_rfl) (fun _ _ _ _ h => h) rfl hS ?_
      apply Exists.intro
      apply And.intro
      · intro W9 hW9; skip; go_simp; try with_reducible rfl
      simp only [Act.put, List.setIfInBounds_toArray, List.set_cons_zero, List.set_cons_succ]
      refine wpAnyH_ready (rs := [2, 7]) (by kernel_rfl) (by simp) ?_
      refine AllReadyH.cons rfl (fun K hK => ?_) ?_
      go_simp
      go_wp2_with (go_at_call 27; (with_reducible refine Calls.mono (BT.out _) ?_); rintro e1 w97 ⟨rfl, hb97⟩)
      refine hK.out _ _ (hS.trans hb97) (fun hS => ?_)
      clear hK K
      refine wpAnyH_ready (rs := [3, 7]) (by kernel_rfl) (by simp) ?_
      refine AllReadyH.cons rfl (fun K hK => ?_) ?_
      go_simp
      go_wp2_with (go_at_call 18; (with_reducible refine Calls.mono (FR.out _) ?_); rintro e1 w98 ⟨⟨v20, rfl, hr20, hf20, hc20⟩, hb98⟩)
      obtain ⟨a20, c20, rfl⟩ := hr20.form
      rw [FL.out] at hr20 hf20 hc20 ⊢
      have HC20 := Lib.hid hc20
      have HD := Lib.hid hr20
      clear hr20 hf20 hc20
      refine hK.out _ _ (hS.trans hb98) (fun hS => ?_)
      clear hK K
      refine take1 (i := 4) (some 94) rfl rfl (by kernel_rfl) (by kernel_rfl) (by kernel_rfl) (fun _ _ _ _ h => h) rfl hS ?_
      apply Exists.intro
      apply And.intro
      · intro W9 hW9; skip; go_simp; try with_reducible rfl
      simp only [Act.put, List.setIfInBounds_toArray, List.set_cons_zero, List.set_cons_succ]
      refine take1 (i := 5) (some 99) rfl rfl (by kernel_rfl) (by kernel_rfl) (by kernel_rfl) (fun _ _ _ _ h => h) rfl hS ?_
      apply Exists.intro
      apply And.intro
      · intro W9 hW9; skip; go_simp; try with_reducible rfl
      simp only [Act.put, List.setIfInBounds_toArray, List.set_cons_zero, List.set_cons_succ]
      refine take1 (i := 6) (some 100) rfl rfl (by kernel_rfl) (by kernel_rfl) (by kernel_rfl) (fun _ _ _ _ h => h) rfl hS ?_
      apply Exists.intro
      apply And.intro
      · intro W9 hW9; skip; go_simp; try with_reducible rfl
      simp only [Act.put, List.setIfInBounds_toArray, List.set_cons_zero, List.set_cons_succ]
      refine wpAnyH_ready (rs := [7]) (by kernel_rfl) (by simp) ?_
      refine AllReadyH.cons rfl (fun K hK => ?_) ?_
      rw [if_pos (by rfl)]
      refine wp_alloc_new 38 rfl (some 20) rfl _ (zeroFr _) ?_
      intro g20 w20 hg20 hN hbw
      simp only [Act.put, List.setIfInBounds_toArray, List.set_cons_zero, List.set_cons_succ]
      have NB := Lib.hid hN
      have HG := Lib.hid (Nat.le_trans hS.size hg20)
      have NE := Lib.hid (HD.out.off hg20)
      replace HD := Lib.hid (HD.out.mono hbw)
      clear hN
      refine hK.out _ _ (hS.trans hbw) (fun hS => ?_)
      clear hK K
      refine wpAnyH_ready (rs := [8]) (by kernel_rfl) (by simp) ?_
      refine AllReadyH.cons rfl (fun K hK => ?_) ?_
      rw [if_pos (by rfl)]
      refine wp_store_row0 38 _ _ rfl rfl g20 #[.int .i64 tw, .int .i64 5, .slice a20 206 c20] rfl rfl 38 #[.int .i64 0, .int .i64 0, .slice none 0 0] NB.out (by kernel_rfl) rfl (by simp [Value.oneCell']) ?_
      replace NB := Lib.hid (NB.out.row #[.int .i64 tw, .int .i64 5, .slice a20 206 c20])
      replace HD := Lib.hid (HD.out.rowOff NE.out #[.int .i64 tw, .int .i64 5, .slice a20 206 c20])
      refine hK.out _ _ (Bw.setRow hS HG.out #[.int .i64 tw, .int .i64 5, .slice a20 206 c20]) (fun hS => ?_)
      clear hK K
      refine take1 (i := 9) (some 21) rfl rfl (by kernel_rfl) (by kernel_rfl) (by kernel_rfl) (fun _ _ _ _ h => h) rfl hS ?_
      apply Exists.intro
      apply And.intro
      · intro W9 hW9; skip; go_simp; try with_reducible rfl
      simp only [Act.put, List.setIfInBounds_toArray, List.set_cons_zero, List.set_cons_succ]
      refine wpAnyH_done (by kernel_rfl) ?_ _
      rotate_left
      exact AllReadyH.nil
      exact AllReadyH.nil
      refine AllReadyH.cons rfl (fun K hK => ?_) ?_
      rw [if_pos (by rfl)]
      refine wp_alloc_new 38 rfl (some 20) rfl _ (zeroFr _) ?_
      intro g20 w20 hg20 hN hbw
      simp only [Act.put, List.setIfInBounds_toArray, List.set_cons_zero, List.set_cons_succ]
      have NB := Lib.hid hN
      have HG := Lib.hid (Nat.le_trans hS.size hg20)
      clear hN
      refine hK.out _ _ (hS.trans hbw) (fun hS => ?_)
      clear hK K
      refine wpAnyH_ready (rs := [3]) (by kernel_rfl) (by simp) ?_
      refine AllReadyH.cons rfl (fun K hK => ?_) ?_
      go_simp
      go_wp2_with (go_at_call 18; (with_reducible refine Calls.mono (FR.out _) ?_); rintro e1 w98 ⟨⟨v20, rfl, hr20, hf20, hc20⟩, hb98⟩)
      obtain ⟨a20, c20, rfl⟩ := hr20.form
      rw [FL.out] at hr20 hf20 hc20 ⊢
      have HC20 := Lib.hid hc20
      have NE := Lib.hid (hf20.off NB.out.lt FA)
      replace NB := Lib.hid (NB.out.bw hb98)
      have HD := Lib.hid hr20
      clear hr20 hf20 hc20
      refine hK.out _ _ (hS.trans hb98) (fun hS => ?_)
      clear hK K
      refine take1 (i := 4) (some 94) rfl rfl (by kernel_rfl) (by kernel_rfl) (by kernel_rfl) (fun _ _ _ _ h => h) rfl hS ?_
      apply Exists.intro
      apply And.intro
      · intro W9 hW9; skip; go_simp; try with_reducible rfl
      simp only [Act.put, List.setIfInBounds_toArray, List.set_cons_zero, List.set_cons_succ]
      refine take1 (i := 5) (some 99) rfl rfl (by kernel_rfl) (by kernel_rfl) (by kernel_rfl) (fun _ _ _ _ h => h) rfl hS ?_
      apply Exists.intro
      apply And.intro
      · intro W9 hW9; skip; go_simp; try with_reducible rfl
      simp only [Act.put, List.setIfInBounds_toArray, List.set_cons_zero, List.set_cons_succ]
      refine take1 (i := 6) (some 100) rfl rfl (by kernel_rfl) (by kernel_rfl) (by kernel_rfl) (fun _ _ _ _ h => h) rfl hS ?_
      apply Exists.intro
      apply And.intro
      · intro W9 hW9; skip; go_simp; try with_reducible rfl
      simp only [Act.put, List.setIfInBounds_toArray, List.set_cons_zero, List.set_cons_succ]
      refine wpAnyH_ready (rs := [8]) (by kernel_rfl) (by simp) ?_
      refine AllReadyH.cons rfl (fun K hK => ?_) ?_
      rw [if_pos (by rfl)]
      refine wp_store_row0 38 _ _ rfl rfl g20 #[.int .i64 tw, .int .i64 5, .slice a20 206 c20] rfl rfl 38 #[.int .i64 0, .int .i64 0, .slice none 0 0] NB.out (by kernel_rfl) rfl (by simp [Value.oneCell']) ?_
      replace NB := Lib.hid (NB.out.row #[.int .i64 tw, .int .i64 5, .slice a20 206 c20])
      replace HD := Lib.hid (HD.out.rowOff NE.out #[.int .i64 tw, .int .i64 5, .slice a20 206 c20])
      refine hK.out _ _ (Bw.setRow hS HG.out #[.int .i64 tw, .int .i64 5, .slice a20 206 c20]) (fun hS => ?_)
      clear hK K
      refine take1 (i := 9) (some 21) rfl rfl (by kernel_rfl) (by kernel_rfl) (by kernel_rfl) (fun _ _ _ _ h => h) rfl hS ?_
      apply Exists.intro
      apply And.intro
      · intro W9 hW9; skip; go_simp; try with_reducible rfl
      simp only [Act.put, List.setIfInBounds_toArray, List.set_cons_zero, List.set_cons_succ]
      refine wpAnyH_done (by kernel_rfl) ?_ _
      rotate_left
      exact AllReadyH.nil
      exact AllReadyH.nil
      exact AllReadyH.nil
      refine AllReadyH.cons rfl (fun K hK => ?_) ?_
      rw [if_pos (by rfl)]
      refine wp_alloc_new 38 rfl (some 20) rfl _ (zeroFr _) ?_
      intro g20 w20 hg20 hN hbw
      simp only [Act.put, List.setIfInBounds_toArray, List.set_cons_zero, List.set_cons_succ]
      have NB := Lib.hid hN
      have HG := Lib.hid (Nat.le_trans hS.size hg20)
      clear hN
      refine hK.out _ _ (hS.trans hbw) (fun hS => ?_)
      clear hK K
      refine wpAnyH_ready (rs := [2]) (by kernel_rfl) (by simp) ?_
      refine AllReadyH.cons rfl (fun K hK => ?_) ?_
      go_simp
      go_wp2_with (go_at_call 27; (with_reducible refine Calls.mono (BT.out _) ?_); rintro e1 w97 ⟨rfl, hb97⟩)
      replace NB := Lib.hid (NB.out.bw hb97)
      refine hK.out _ _ (hS.trans hb97) (fun hS => ?_)
      clear hK K
      refine wpAnyH_ready (rs := [3]) (by kernel_rfl) (by simp) ?_
      refine AllReadyH.cons rfl (fun K hK => ?_) ?_
      go_simp
      go_wp2_with (go_at_call 18; (with_reducible refine Calls.mono (FR.out _) ?_); rintro e1 w98 ⟨⟨v20, rfl, hr20, hf20, hc20⟩, hb98⟩)
      obtain ⟨a20, c20, rfl⟩ := hr20.form
      rw [FL.out] at hr20 hf20 hc20 ⊢
      have HC20 := Lib.hid hc20
      have NE := Lib.hid (hf20.off NB.out.lt FA)
      replace NB := Lib.hid (NB.out.bw hb98)
      have HD := Lib.hid hr20
      clear hr20 hf20 hc20
      refine hK.out _ _ (hS.trans hb98) (fun hS => ?_)
      clear hK K
      refine take1 (i := 4) (some 94) rfl rfl (by kernel_rfl) (by kernel_rfl) (by kernel_rfl) (fun _ _ _ _ h => h) rfl hS ?_
      apply Exists.intro
      apply And.intro
      · intro W9 hW9; skip; go_simp; try with_reducible rfl
      simp only [Act.put, List.setIfInBounds_toArray, List.set_cons_zero, List.set_cons_succ]
      refine take1 (i := 5) (some 99) rfl rfl (by kernel_rfl) (by kernel_rfl) (by kernel_rfl) (fun _ _ _ _ h => h) rfl hS ?_
      apply Exists.intro
      apply And.intro
      · intro W9 hW9; skip; go_simp; try with_reducible rfl
      simp only [Act.put, List.setIfInBounds_toArray, List.set_cons_zero, List.set_cons_succ]
      refine take1 (i := 6) (some 100) rfl rfl (by kernel_rfl) (by kernel_rfl) (by kernel_rfl) (fun _ _ _ _ h => h) rfl hS ?_
      apply Exists.intro
      apply And.intro
      · intro W9 hW9; skip; go_simp; try with_reducible rfl
      simp only [Act.put, List.setIfInBounds_toArray, List.set_cons_zero, List.set_cons_succ]
      refine wpAnyH_ready (rs := [8]) (by kernel_rfl) (by simp) ?_
      refine AllReadyH.cons rfl (fun K hK => ?_) ?_
      rw [if_pos (by rfl)]
      refine wp_store_row0 38 _ _ rfl rfl g20 #[.int .i64 tw, .int .i64 5, .slice a20 206 c20] rfl rfl 38 #[.int .i64 0, .int .i64 0, .slice none 0 0] NB.out (by kernel_rfl) rfl (by simp [Value.oneCell']) ?_
      replace NB := Lib.hid (NB.out.row #[.int .i64 tw, .int .i64 5, .slice a20 206 c20])
      replace HD := Lib.hid (HD.out.rowOff NE.out #[.int .i64 tw, .int .i64 5, .slice a20 206 c20])
      refine hK.out _ _ (Bw.setRow hS HG.out #[.int .i64 tw, .int .i64 5, .slice a20 206 c20]) (fun hS => ?_)
      clear hK K
      refine take1 (i := 9) (some 21) rfl rfl (by kernel_rfl) (by kernel_rfl) (by kernel_rfl) (fun _ _ _ _ h => h) rfl hS ?_
      apply Exists.intro
      apply And.intro
      · intro W9 hW9; skip; go_simp; try with_reducible rfl
      simp only [Act.put, List.setIfInBounds_toArray, List.set_cons_zero, List.set_cons_succ]
      refine wpAnyH_done (by kernel_rfl) ?_ _
      rotate_left
      exact AllReadyH.nil
      exact AllReadyH.nil
      exact AllReadyH.nil
      exact AllReadyH.nil
      all_goals
        go_wp2
        go_meet
        exact ⟨g20, a20, c20, rfl, rfl, Lib.hid hS, NB, HD, HC20⟩
    case rest =>
      obtain ⟨g20, a20, c20, rfl, rfl, hb2, NB, HD, HC⟩ := hcut
      replace HBW := Lib.hid (HBW.out.trans hb2.out)
      replace MX := Lib.hid (MX.out.bw hb2.out)
      clear hb2
      have c0 := NB.out.cell (j := 0) (v := .int .i64 tw) rfl
      have c1 := NB.out.cell (j := 1) (v := .int .i64 5) rfl
      have c2 := NB.out.cell (j := 2) (v := .slice a20 206 c20) rfl
      go_upto_region 14 with (go_at_call 20; (with_reducible refine Calls.mono (RD.out _ _ HD.out HC.out) ?_); rintro e1 w5 ⟨rfl, hb5⟩; replace HBW := Lib.hid (HBW.out.trans hb5); replace MX := Lib.hid (MX.out.bw hb5); clear hb5 c0 c1 c2)
      have YX := Lib.hid (Blk.new w5 25 #[.int .i64 (x 0), .int .i64 (x 1), .int .i64 (x 2), .int .i64 (x 3), .int .i64 (x 4), .int .i64 (x 5), .int .i64 (x 6), .int .i64 (x 7), .int .i64 (x 8)])
      replace MX := Lib.hid (MX.out.alloc (.cells #[.int .i64 (x 0), .int .i64 (x 1), .int .i64 (x 2), .int .i64 (x 3), .int .i64 (x 4), .int .i64 (x 5), .int .i64 (x 6), .int .i64 (x 7), .int .i64 (x 8)] 25))
      replace HBW := Lib.hid (Bw.alloc HBW.out (.cells #[.int .i64 (x 0), .int .i64 (x 1), .int .i64 (x 2), .int .i64 (x 3), .int .i64 (x 4), .int .i64 (x 5), .int .i64 (x 6), .int .i64 (x 7), .int .i64 (x 8)] 25))
      obtain ⟨G2, hG2⟩ : ∃ G2, w5.heap.size = G2 := ⟨_, rfl⟩
      generalize w5.alloc (.cells #[.int .i64 (x 0), .int .i64 (x 1), .int .i64 (x 2), .int .i64 (x 3), .int .i64 (x 4), .int .i64 (x 5), .int .i64 (x 6), .int .i64 (x 7), .int .i64 (x 8)] 25) = u5 at MX YX HBW ⊢
      rw [hG2] at YX ⊢
      clear hG2 NB HD HC
      have k0 : u5.cell? ⟨G, 0, none⟩ = some (.int .i64 (x 0)) := CKA.out _ _ MX.out 0 (by omega)
      have k1 : u5.cell? ⟨G, 1, none⟩ = some (.int .i64 (x 1)) := CKA.out _ _ MX.out 1 (by omega)
      have k2 : u5.cell? ⟨G, 2, none⟩ = some (.int .i64 (x 2)) := CKA.out _ _ MX.out 2 (by omega)
      have k3 : u5.cell? ⟨G, 3, none⟩ = some (.int .i64 (x 3)) := CKA.out _ _ MX.out 3 (by omega)
      have k4 : u5.cell? ⟨G, 4, none⟩ = some (.int .i64 (x 4)) := CKA.out _ _ MX.out 4 (by omega)
      have k5 : u5.cell? ⟨G, 5, none⟩ = some (.int .i64 (x 5)) := CKA.out _ _ MX.out 5 (by omega)
      have k6 : u5.cell? ⟨G, 6, none⟩ = some (.int .i64 (x 6)) := CKA.out _ _ MX.out 6 (by omega)
      have k7 : u5.cell? ⟨G, 7, none⟩ = some (.int .i64 (x 7)) := CKA.out _ _ MX.out 7 (by omega)
      have k8 : u5.cell? ⟨G, 8, none⟩ = some (.int .i64 (x 8)) := CKA.out _ _ MX.out 8 (by omega)
      have y0 : u5.cell? ⟨G2, 0, none⟩ = some (.int .i64 (x 0)) := CKA.out _ _ YX.out 0 (by omega)
      have y1 : u5.cell? ⟨G2, 1, none⟩ = some (.int .i64 (x 1)) := CKA.out _ _ YX.out 1 (by omega)
      have y2 : u5.cell? ⟨G2, 2, none⟩ = some (.int .i64 (x 2)) := CKA.out _ _ YX.out 2 (by omega)
      have y3 : u5.cell? ⟨G2, 3, none⟩ = some (.int .i64 (x 3)) := CKA.out _ _ YX.out 3 (by omega)
      have y4 : u5.cell? ⟨G2, 4, none⟩ = some (.int .i64 (x 4)) := CKA.out _ _ YX.out 4 (by omega)
      have y5 : u5.cell? ⟨G2, 5, none⟩ = some (.int .i64 (x 5)) := CKA.out _ _ YX.out 5 (by omega)
      have y6 : u5.cell? ⟨G2, 6, none⟩ = some (.int .i64 (x 6)) := CKA.out _ _ YX.out 6 (by omega)
      have y7 : u5.cell? ⟨G2, 7, none⟩ = some (.int .i64 (x 7)) := CKA.out _ _ YX.out 7 (by omega)
      have y8 : u5.cell? ⟨G2, 8, none⟩ = some (.int .i64 (x 8)) := CKA.out _ _ YX.out 8 (by omega)
      go_wp2_with (first | (go_at_call 23; (with_reducible first | refine Calls.mono (DZ.out _) ?_ | refine Calls.mono (DH.out _) ?_); rintro e1 w1 ⟨rfl, hb9⟩; replace HBW := Lib.hid (HBW.out.trans hb9); replace MX := Lib.hid (MX.out.bw hb9); clear hb9; clear k0 k1 k2 k3 k4 k5 k6 k7 k8; have k0 : w1.cell? ⟨G, 0, none⟩ = some (.int .i64 (x 0)) := CKA.out _ _ MX.out 0 (by omega); have k1 : w1.cell? ⟨G, 1, none⟩ = some (.int .i64 (x 1)) := CKA.out _ _ MX.out 1 (by omega); have k2 : w1.cell? ⟨G, 2, none⟩ = some (.int .i64 (x 2)) := CKA.out _ _ MX.out 2 (by omega); have k3 : w1.cell? ⟨G, 3, none⟩ = some (.int .i64 (x 3)) := CKA.out _ _ MX.out 3 (by omega); have k4 : w1.cell? ⟨G, 4, none⟩ = some (.int .i64 (x 4)) := CKA.out _ _ MX.out 4 (by omega); have k5 : w1.cell? ⟨G, 5, none⟩ = some (.int .i64 (x 5)) := CKA.out _ _ MX.out 5 (by omega); have k6 : w1.cell? ⟨G, 6, none⟩ = some (.int .i64 (x 6)) := CKA.out _ _ MX.out 6 (by omega); have k7 : w1.cell? ⟨G, 7, none⟩ = some (.int .i64 (x 7)) := CKA.out _ _ MX.out 7 (by omega); have k8 : w1.cell? ⟨G, 8, none⟩ = some (.int .i64 (x 8)) := CKA.out _ _ MX.out 8 (by omega)) | (go_at_call 15; (with_reducible first | refine Calls.mono (AW.out _) ?_); rintro e1 w1 ⟨rfl, hb9⟩; replace HBW := Lib.hid (HBW.out.trans hb9); replace MX := Lib.hid (MX.out.bw hb9); clear hb9; clear k0 k1 k2 k3 k4 k5 k6 k7 k8; have k0 : w1.cell? ⟨G, 0, none⟩ = some (.int .i64 (x 0)) := CKA.out _ _ MX.out 0 (by omega); have k1 : w1.cell? ⟨G, 1, none⟩ = some (.int .i64 (x 1)) := CKA.out _ _ MX.out 1 (by omega); have k2 : w1.cell? ⟨G, 2, none⟩ = some (.int .i64 (x 2)) := CKA.out _ _ MX.out 2 (by omega); have k3 : w1.cell? ⟨G, 3, none⟩ = some (.int .i64 (x 3)) := CKA.out _ _ MX.out 3 (by omega); have k4 : w1.cell? ⟨G, 4, none⟩ = some (.int .i64 (x 4)) := CKA.out _ _ MX.out 4 (by omega); have k5 : w1.cell? ⟨G, 5, none⟩ = some (.int .i64 (x 5)) := CKA.out _ _ MX.out 5 (by omega); have k6 : w1.cell? ⟨G, 6, none⟩ = some (.int .i64 (x 6)) := CKA.out _ _ MX.out 6 (by omega); have k7 : w1.cell? ⟨G, 7, none⟩ = some (.int .i64 (x 7)) := CKA.out _ _ MX.out 7 (by omega); have k8 : w1.cell? ⟨G, 8, none⟩ = some (.int .i64 (x 8)) := CKA.out _ _ MX.out 8 (by omega)))
      go_ret
      exact ⟨rfl, HBW.out⟩
end Go.Proofs.Sky

namespace Go.Proofs.Sky
open Go Go.RowKit Go.Shelf
set_option maxHeartbeats 4000000
set_option maxRecDepth 4000
/-! chapter 31: the reference's Check and Frame -/
def inR (lo hi z : Int) : Bool := decide (lo ≤ z ∧ z ≤ hi)
theorem inR_lo {lo hi z : Int} (h : z < lo) : inR lo hi z = false := decide_eq_false (by omega)
theorem inR_hi {lo hi z : Int} (h : hi < z) : inR lo hi z = false := decide_eq_false (by omega)
theorem inR_ok {lo hi z : Int} (h : ¬ z < lo) (h2 : ¬ hi < z) : inR lo hi z = true := decide_eq_true (by omega)
theorem all_inR_no {lo hi : Int} (zs : List Int) (i : Nat) (hil : i < zs.length) (h : inR lo hi (zs.getD i 0) = false) : zs.all (inR lo hi) = false := by
  rw [List.all_eq_false]
  refine ⟨zs.getD i 0, ?_, by rw [h]; simp⟩
  rw [List.getD_eq_getElem?_getD, List.getElem?_eq_getElem hil]
  exact List.getElem_mem hil
theorem all_inR_yes {lo hi : Int} (zs : List Int) (h : ∀ i, i < zs.length → inR lo hi (zs.getD i 0) = true) : zs.all (inR lo hi) = true := by
  rw [List.all_eq_true]
  intro a ha
  obtain ⟨i, hi, rfl⟩ := List.mem_iff_getElem.1 ha
  have := h i hi
  rw [List.getD_eq_getElem?_getD, List.getElem?_eq_getElem hi] at this
  exact this
theorem RdI.litN (w : World) (cs : Array Value) (t : TypeId) (zs : List Int) (n : Nat) (hn : w.heap.size = n) (h : cs.toList = zs.map (Value.int .i64)) (hl : zs.length ≤ 9223372036854775807) : RdI (w.alloc (.cells cs t)) (.slice (some ⟨n, 0, none⟩) zs.length zs.length) zs := by
  subst hn; exact RdI.lit w cs t zs h hl
theorem rwithin_any (lo hi : Int) (zs : List Int) (v : Value) (w : World) (hv : RdI w v zs) :
    Calls Try.prog 32 #[.int .i64 lo, .int .i64 hi, v] w fun e w' => e = .returned (.bool (zs.all (inR lo hi))) ∧ Bw w w' := by
  have HV := Lib.hid hv
  obtain ⟨ad, cap, rfl⟩ := hv.form
  have hle := hv.1
  clear hv
  obtain ⟨n, hn⟩ : ∃ n, n = zs.length := ⟨_, rfl⟩
  rw [← hn] at HV hle ⊢
  have HN := Lib.hid hn
  clear hn
  have HNO := Lib.hid (fun i => all_inR_no (lo := lo) (hi := hi) zs i)
  have HYES := Lib.hid (all_inR_yes (lo := lo) (hi := hi) zs)
  obtain ⟨AB, hAB⟩ : ∃ AB, AB = zs.all (inR lo hi) := ⟨_, rfl⟩
  rw [← hAB] at HNO HYES ⊢
  clear hAB
  go_enter Try.func32, Try.ntmps32
  go_wp2
  go_loopg [7] n (fun gg s7 wr => ∃ k : Nat, k ≤ n ∧ n - k ≤ gg ∧ s7 = .int .i64 k ∧ wr = w ∧ Hid (∀ i, i < k → inR lo hi (zs.getD i 0) = true))
  case atStart => exact ⟨0, Nat.zero_le _, by omega, rfl, rfl, Lib.hid (fun i h => by omega)⟩
  case round =>
    obtain ⟨k, hk, hgg, rfl, hwr, HI⟩ := hrel
    replace hwr := hwr.symm
    subst hwr
    by_cases hlt : k < n
    · have hkz : (k : Int) < n := by omega
      obtain ⟨b1, o1, cc, hv1, hb1, hd1⟩ := HV.out.at (by have := HN.out; omega)
      injection hv1 with i1 i2 i3; subst i1; clear i2 i3 hb1
      have d1 := hd1 k (by have := HN.out; omega)
      clear hd1
      have HLO := Lib.hid (fun h => HNO.out k (by have := HN.out; omega) (inR_lo (lo := lo) (hi := hi) h))
      have HHI := Lib.hid (fun h => HNO.out k (by have := HN.out; omega) (inR_hi (lo := lo) (hi := hi) h))
      have HOK := Lib.hid (fun h h2 => (fun i (hi' : i < k + 1) => (by
        rcases Nat.lt_succ_iff_lt_or_eq.1 hi' with h9 | rfl
        · exact HI.out i h9
        · exact inR_ok h h2 : inR lo hi (zs.getD i 0) = true)))
      generalize zs.getD k 0 = z at d1 HLO HHI HOK
      by_cases q1 : z < lo
      · have HG := Lib.hid (HLO.out q1)
        clear HLO HHI HOK
        go_wp2
        go_ret
        exact ⟨ret_bool HG.out.symm, Bw.refl _⟩
      by_cases q2 : hi < z
      · have HG := Lib.hid (HHI.out q2)
        clear HLO HHI HOK
        go_wp2
        go_ret
        exact ⟨ret_bool HG.out.symm, Bw.refl _⟩
      · have HG := Lib.hid (HOK.out q1 q2)
        clear HLO HHI HOK
        go_wp2
        go_roundg (n - (k + 1))
        case measure => omega
        case rel => exact ⟨k + 1, by omega, by omega, by go_num, rfl, HG⟩
    · obtain rfl : k = n := by omega
      have HG := Lib.hid (HYES.out (fun i h => HI.out i (by have := HN.out; omega)))
      go_wp2
      go_ret
      exact ⟨ret_bool HG.out.symm, Bw.refl _⟩
theorem errA_split (x : Nat → Int) : errA x = if (([x 0, x 1, x 2, x 3, x 4, x 5, x 6].all (inR (-1000000) 1000000)) && ([x 7, x 8].all (inR 0 1000000))) then 0 else 2 := by
  have e : (List.range 9).all (okA x) = (([x 0, x 1, x 2, x 3, x 4, x 5, x 6].all (inR (-1000000) 1000000)) && ([x 7, x 8].all (inR 0 1000000))) := by
    rw [show List.range 9 = [0, 1, 2, 3, 4, 5, 6, 7, 8] from rfl]
    simp only [List.all_cons, List.all_nil, okA, inR]
    rw [Bool.eq_iff_iff]
    simp only [Bool.and_eq_true, decide_eq_true_eq, and_true]
    omega
  unfold errA
  rw [e]
theorem rCheck_any (x : Nat → Int) (w : World) :
    Calls Try.prog 14 #[.agg #[.int .i64 (x 0), .int .i64 (x 1), .int .i64 (x 2), .int .i64 (x 3), .int .i64 (x 4), .int .i64 (x 5), .int .i64 (x 6), .int .i64 (x 7), .int .i64 (x 8)]] w fun e w' => e = .returned (.int .i64 (errA x)) ∧ Bw w w' := by
  have W1 := Lib.hid (fun W v h => rwithin_any (-1000000) 1000000 [x 0, x 1, x 2, x 3, x 4, x 5, x 6] v W h)
  have W2 := Lib.hid (fun W v h => rwithin_any 0 1000000 [x 7, x 8] v W h)
  have hE := errA_split x
  generalize errA x = E at hE ⊢
  have HBW := Lib.hid (Bw.alloc (Bw.refl w) (.cells #[.int .i64 (x 0), .int .i64 (x 1), .int .i64 (x 2), .int .i64 (x 3), .int .i64 (x 4), .int .i64 (x 5), .int .i64 (x 6), .int .i64 (x 7), .int .i64 (x 8)] 25))
  have KX := Lib.hid (Blk.new w 25 #[.int .i64 (x 0), .int .i64 (x 1), .int .i64 (x 2), .int .i64 (x 3), .int .i64 (x 4), .int .i64 (x 5), .int .i64 (x 6), .int .i64 (x 7), .int .i64 (x 8)])
  generalize ([x 0, x 1, x 2, x 3, x 4, x 5, x 6].all (inR (-1000000) 1000000)) = A1 at W1 hE
  generalize ([x 7, x 8].all (inR 0 1000000)) = A2 at W2 hE
  go_enter Try.func14, Try.ntmps14
  go_upto_region 1 with fail
  obtain ⟨W0, hW0⟩ : ∃ W0, (w.alloc (.cells #[.int .i64 (x 0), .int .i64 (x 1), .int .i64 (x 2), .int .i64 (x 3), .int .i64 (x 4), .int .i64 (x 5), .int .i64 (x 6), .int .i64 (x 7), .int .i64 (x 8)] 25)) = W0 := ⟨_, rfl⟩
  rw [hW0] at HBW KX ⊢
  clear hW0

  have k0 : W0.cell? ⟨w.heap.size, 0, none⟩ = some (.int .i64 (x 0)) := KX.out.cell rfl
  have k1 : W0.cell? ⟨w.heap.size, 1, none⟩ = some (.int .i64 (x 1)) := KX.out.cell rfl
  have k2 : W0.cell? ⟨w.heap.size, 2, none⟩ = some (.int .i64 (x 2)) := KX.out.cell rfl
  have k3 : W0.cell? ⟨w.heap.size, 3, none⟩ = some (.int .i64 (x 3)) := KX.out.cell rfl
  have k4 : W0.cell? ⟨w.heap.size, 4, none⟩ = some (.int .i64 (x 4)) := KX.out.cell rfl
  have k5 : W0.cell? ⟨w.heap.size, 5, none⟩ = some (.int .i64 (x 5)) := KX.out.cell rfl
  have k6 : W0.cell? ⟨w.heap.size, 6, none⟩ = some (.int .i64 (x 6)) := KX.out.cell rfl
  have k7 : W0.cell? ⟨w.heap.size, 7, none⟩ = some (.int .i64 (x 7)) := KX.out.cell rfl
  have k8 : W0.cell? ⟨w.heap.size, 8, none⟩ = some (.int .i64 (x 8)) := KX.out.cell rfl

  cases A1 with
  | false =>
    go_wp2_with ((go_at_call 32; (with_reducible refine Calls.mono (W1.out _ _ ?_) ?_); (focus exact RdI.litN _ _ _ [x 0, x 1, x 2, x 3, x 4, x 5, x 6] _ (by simp) (by rfl) (by simp)); rintro e1 w1 ⟨rfl, hb9⟩; replace hb9 := (Bw.alloc (Bw.refl W0) (.cells #[.int .i64 (x 0), .int .i64 (x 1), .int .i64 (x 2), .int .i64 (x 3), .int .i64 (x 4), .int .i64 (x 5), .int .i64 (x 6)] 3)).trans hb9; replace HBW := Lib.hid (HBW.out.trans hb9); replace KX := Lib.hid (KX.out.bw hb9); clear W1 hb9 k0 k1 k2 k3 k4 k5 k6 k7 k8; have k0 : w1.cell? ⟨w.heap.size, 0, none⟩ = some (.int .i64 (x 0)) := KX.out.cell rfl; have k1 : w1.cell? ⟨w.heap.size, 1, none⟩ = some (.int .i64 (x 1)) := KX.out.cell rfl; have k2 : w1.cell? ⟨w.heap.size, 2, none⟩ = some (.int .i64 (x 2)) := KX.out.cell rfl; have k3 : w1.cell? ⟨w.heap.size, 3, none⟩ = some (.int .i64 (x 3)) := KX.out.cell rfl; have k4 : w1.cell? ⟨w.heap.size, 4, none⟩ = some (.int .i64 (x 4)) := KX.out.cell rfl; have k5 : w1.cell? ⟨w.heap.size, 5, none⟩ = some (.int .i64 (x 5)) := KX.out.cell rfl; have k6 : w1.cell? ⟨w.heap.size, 6, none⟩ = some (.int .i64 (x 6)) := KX.out.cell rfl; have k7 : w1.cell? ⟨w.heap.size, 7, none⟩ = some (.int .i64 (x 7)) := KX.out.cell rfl; have k8 : w1.cell? ⟨w.heap.size, 8, none⟩ = some (.int .i64 (x 8)) := KX.out.cell rfl))
    go_ret
    exact ⟨ret_int (by rw [hE]; rfl), HBW.out⟩
  | true =>
    cases A2 with
    | false =>
      go_wp2_with (first | (go_at_call 32; (with_reducible refine Calls.mono (W1.out _ _ ?_) ?_); (focus exact RdI.litN _ _ _ [x 0, x 1, x 2, x 3, x 4, x 5, x 6] _ (by simp) (by rfl) (by simp)); rintro e1 w1 ⟨rfl, hb9⟩; replace hb9 := (Bw.alloc (Bw.refl W0) (.cells #[.int .i64 (x 0), .int .i64 (x 1), .int .i64 (x 2), .int .i64 (x 3), .int .i64 (x 4), .int .i64 (x 5), .int .i64 (x 6)] 3)).trans hb9; replace HBW := Lib.hid (HBW.out.trans hb9); replace KX := Lib.hid (KX.out.bw hb9); clear W1 hb9 k0 k1 k2 k3 k4 k5 k6 k7 k8; have k0 : w1.cell? ⟨w.heap.size, 0, none⟩ = some (.int .i64 (x 0)) := KX.out.cell rfl; have k1 : w1.cell? ⟨w.heap.size, 1, none⟩ = some (.int .i64 (x 1)) := KX.out.cell rfl; have k2 : w1.cell? ⟨w.heap.size, 2, none⟩ = some (.int .i64 (x 2)) := KX.out.cell rfl; have k3 : w1.cell? ⟨w.heap.size, 3, none⟩ = some (.int .i64 (x 3)) := KX.out.cell rfl; have k4 : w1.cell? ⟨w.heap.size, 4, none⟩ = some (.int .i64 (x 4)) := KX.out.cell rfl; have k5 : w1.cell? ⟨w.heap.size, 5, none⟩ = some (.int .i64 (x 5)) := KX.out.cell rfl; have k6 : w1.cell? ⟨w.heap.size, 6, none⟩ = some (.int .i64 (x 6)) := KX.out.cell rfl; have k7 : w1.cell? ⟨w.heap.size, 7, none⟩ = some (.int .i64 (x 7)) := KX.out.cell rfl; have k8 : w1.cell? ⟨w.heap.size, 8, none⟩ = some (.int .i64 (x 8)) := KX.out.cell rfl) | (go_at_call 32; (with_reducible refine Calls.mono (W2.out _ _ ?_) ?_); (focus exact RdI.litN _ _ _ [x 7, x 8] _ (by simp) (by rfl) (by simp)); rintro e2 w2 ⟨rfl, hb9⟩; replace hb9 := (Bw.alloc (Bw.refl w1) (.cells #[.int .i64 (x 7), .int .i64 (x 8)] 3)).trans hb9; replace HBW := Lib.hid (HBW.out.trans hb9); clear W2 hb9))
      go_ret
      exact ⟨ret_int (by rw [hE]; rfl), HBW.out⟩
    | true =>
      go_wp2_with (first | (go_at_call 32; (with_reducible refine Calls.mono (W1.out _ _ ?_) ?_); (focus exact RdI.litN _ _ _ [x 0, x 1, x 2, x 3, x 4, x 5, x 6] _ (by simp) (by rfl) (by simp)); rintro e1 w1 ⟨rfl, hb9⟩; replace hb9 := (Bw.alloc (Bw.refl W0) (.cells #[.int .i64 (x 0), .int .i64 (x 1), .int .i64 (x 2), .int .i64 (x 3), .int .i64 (x 4), .int .i64 (x 5), .int .i64 (x 6)] 3)).trans hb9; replace HBW := Lib.hid (HBW.out.trans hb9); replace KX := Lib.hid (KX.out.bw hb9); clear W1 hb9 k0 k1 k2 k3 k4 k5 k6 k7 k8; have k0 : w1.cell? ⟨w.heap.size, 0, none⟩ = some (.int .i64 (x 0)) := KX.out.cell rfl; have k1 : w1.cell? ⟨w.heap.size, 1, none⟩ = some (.int .i64 (x 1)) := KX.out.cell rfl; have k2 : w1.cell? ⟨w.heap.size, 2, none⟩ = some (.int .i64 (x 2)) := KX.out.cell rfl; have k3 : w1.cell? ⟨w.heap.size, 3, none⟩ = some (.int .i64 (x 3)) := KX.out.cell rfl; have k4 : w1.cell? ⟨w.heap.size, 4, none⟩ = some (.int .i64 (x 4)) := KX.out.cell rfl; have k5 : w1.cell? ⟨w.heap.size, 5, none⟩ = some (.int .i64 (x 5)) := KX.out.cell rfl; have k6 : w1.cell? ⟨w.heap.size, 6, none⟩ = some (.int .i64 (x 6)) := KX.out.cell rfl; have k7 : w1.cell? ⟨w.heap.size, 7, none⟩ = some (.int .i64 (x 7)) := KX.out.cell rfl; have k8 : w1.cell? ⟨w.heap.size, 8, none⟩ = some (.int .i64 (x 8)) := KX.out.cell rfl) | (go_at_call 32; (with_reducible refine Calls.mono (W2.out _ _ ?_) ?_); (focus exact RdI.litN _ _ _ [x 7, x 8] _ (by simp) (by rfl) (by simp)); rintro e2 w2 ⟨rfl, hb9⟩; replace hb9 := (Bw.alloc (Bw.refl w1) (.cells #[.int .i64 (x 7), .int .i64 (x 8)] 3)).trans hb9; replace HBW := Lib.hid (HBW.out.trans hb9); clear W2 hb9))
      go_ret
      exact ⟨ret_int (by rw [hE]; rfl), HBW.out⟩
theorem rbits_any (i : Nat) (w : World) : Calls Try.prog 41 #[.int .i64 i] w fun e w' => e = .returned (.int .i64 (nB i : Nat)) ∧ Bw w w' := by
  unfold nB
  by_cases h : i < 7
  · have hz : (i : Int) < 7 := by omega
    simp only [h, if_true]
    go_enter Try.func41, Try.ntmps41
    go_wp2
    go_ret
    exact ⟨rfl, Bw.refl _⟩
  · have hz : ¬ (i : Int) < 7 := by omega
    simp only [h, if_false]
    go_enter Try.func41, Try.ntmps41
    go_wp2
    go_ret
    exact ⟨rfl, Bw.refl _⟩
theorem rnumbers_any (x : Nat → Int) (w : World) : Calls Try.prog 40 #[.agg #[.int .i64 (x 0), .int .i64 (x 1), .int .i64 (x 2), .int .i64 (x 3), .int .i64 (x 4), .int .i64 (x 5), .int .i64 (x 6), .int .i64 (x 7), .int .i64 (x 8)]] w fun e w' => (∃ v, e = .returned v ∧ RdI w' v [x 0, x 1, x 2, x 3, x 4, x 5, x 6, x 7, x 8]) ∧ Bw w w' := by
  have HBW := Lib.hid (Bw.alloc (Bw.refl w) (.cells #[.int .i64 (x 0), .int .i64 (x 1), .int .i64 (x 2), .int .i64 (x 3), .int .i64 (x 4), .int .i64 (x 5), .int .i64 (x 6), .int .i64 (x 7), .int .i64 (x 8)] 25))
  have KX := Lib.hid (Blk.new w 25 #[.int .i64 (x 0), .int .i64 (x 1), .int .i64 (x 2), .int .i64 (x 3), .int .i64 (x 4), .int .i64 (x 5), .int .i64 (x 6), .int .i64 (x 7), .int .i64 (x 8)])
  go_enter Try.func40, Try.ntmps40
  go_upto_region 1 with fail
  obtain ⟨W0, hW0⟩ : ∃ W0, (w.alloc (.cells #[.int .i64 (x 0), .int .i64 (x 1), .int .i64 (x 2), .int .i64 (x 3), .int .i64 (x 4), .int .i64 (x 5), .int .i64 (x 6), .int .i64 (x 7), .int .i64 (x 8)] 25)) = W0 := ⟨_, rfl⟩
  rw [hW0] at HBW KX ⊢
  clear hW0
  have k0 : W0.cell? ⟨w.heap.size, 0, none⟩ = some (.int .i64 (x 0)) := KX.out.cell rfl
  have k1 : W0.cell? ⟨w.heap.size, 1, none⟩ = some (.int .i64 (x 1)) := KX.out.cell rfl
  have k2 : W0.cell? ⟨w.heap.size, 2, none⟩ = some (.int .i64 (x 2)) := KX.out.cell rfl
  have k3 : W0.cell? ⟨w.heap.size, 3, none⟩ = some (.int .i64 (x 3)) := KX.out.cell rfl
  have k4 : W0.cell? ⟨w.heap.size, 4, none⟩ = some (.int .i64 (x 4)) := KX.out.cell rfl
  have k5 : W0.cell? ⟨w.heap.size, 5, none⟩ = some (.int .i64 (x 5)) := KX.out.cell rfl
  have k6 : W0.cell? ⟨w.heap.size, 6, none⟩ = some (.int .i64 (x 6)) := KX.out.cell rfl
  have k7 : W0.cell? ⟨w.heap.size, 7, none⟩ = some (.int .i64 (x 7)) := KX.out.cell rfl
  have k8 : W0.cell? ⟨w.heap.size, 8, none⟩ = some (.int .i64 (x 8)) := KX.out.cell rfl
  go_wp2
  go_ret
  exact ⟨⟨_, rfl, RdI.litN _ _ _ [x 0, x 1, x 2, x 3, x 4, x 5, x 6, x 7, x 8] _ (by simp) (by rfl) (by simp)⟩, Bw.alloc HBW.out _⟩

end Go.Proofs.Sky
