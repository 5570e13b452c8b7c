/-
  lemmas for the theorems of this claim. No conditions beyond those written in the statements.
-/
import Derived.Test.YtcmjcobhobfloaaDoorBB28
import Derived.Laws.StructEq
import Derived.Test.YtcmjcobhobfloaaDoorD27
set_option linter.unusedVariables false
set_option linter.unusedSimpArgs false
set_option linter.unnecessarySimpa false
namespace Go.Proofs.Sky
open Go Go.RowKit Go.Shelf
set_option maxHeartbeats 4000000
set_option maxRecDepth 8000
/-! equal pages -/
theorem eqA3 (d : Nat) (a b c : Int) (w : World) : (Op.equalIn (d + 2) 25 (.agg #[.int .i64 a, .int .i64 b, .int .i64 c]) (.agg #[.int .i64 a, .int .i64 b, .int .i64 c])).run Tryd.prog w = .ok true w := by
  have hu : Tryd.prog.underlying 25 = some (.array 3 3) := by kernel_rfl
  have hi : Tryd.prog.underlying 3 = some (.int .i64) := by kernel_rfl
  have hs : ∀ w, (sizeOf 3).run Tryd.prog w = .ok 1 w := fun w => by kernel_rfl
  simp [Op.equalIn, run_underlying hu, run_underlying hi, hs, go_sem, part, Std.Legacy.Range.forIn_eq_forIn_range', Std.Legacy.Range.size, List.range'_succ, List.range'_zero, List.forIn_cons, List.forIn_nil]
theorem eqPg_self (x : Nat → Int) (w : World) : (Op.equalIn 10000 27 (.agg (pgV x)) (.agg (pgV x))).run Tryd.prog w = .ok true w := by
  unfold pgV
  generalize x 0 = a0, x 1 = a1, x 2 = a2, x 3 = a3, x 4 = a4, x 5 = a5, x 6 = a6, x 7 = a7, x 8 = a8, x 9 = a9, x 10 = a10, x 11 = a11, x 12 = a12
  rw [show (10000 : Nat) = 9998 + 1 + 1 from rfl, run_equalIn_agg _ _ _ _ _ (by kernel_rfl) (by kernel_rfl)]
  simp only [Program.fieldsOf, Tryd.underlying27]
  have h3 : ∀ w, (sizeOf 25).run Tryd.prog w = .ok 3 w := fun w => by kernel_rfl
  have h1 : ∀ w, (sizeOf 3).run Tryd.prog w = .ok 1 w := fun w => by kernel_rfl
  have i3 : Tryd.prog.underlying 25 = some (.array 3 3) := by kernel_rfl
  have hi : Tryd.prog.underlying 3 = some (.int .i64) := by kernel_rfl
  have q3 := fun d => eqA3 d
  simp [Op.eqFields, part, h3, h1, go_sem, run_underlying i3, run_underlying hi, q3 9997, run_equalIn_int _ _ _ _ _ _ _ hi]
theorem eqPg_guard (x y : Array Value) (op : BinOp) (p q : Operand) (w : World) : (eqGuard op 27 p q (.agg x) (.agg y)).run Tryd.prog w = .ok () w := run_eqGuard_agg w op _ _ _ _ _ (by kernel_rfl)
end Go.Proofs.Sky

namespace Go.Proofs.Sky
open Go Go.RowKit Go.Shelf
set_option maxHeartbeats 4000000
set_option maxRecDepth 8000
/-! chapter 27: a page read from its frame; the examples -/
theorem errPg_congr {x y : Nat → Int} (h : ∀ i, i < 13 → x i = y i) : errPg x = errPg y := by
  have e : inPg x = inPg y := by
    rw [inPg_eq, inPg_eq]
    unfold okT
    dsimp only
    rw [h 0 (by omega), h 1 (by omega), h 2 (by omega), h 3 (by omega), h 4 (by omega), h 5 (by omega), h 6 (by omega), h 7 (by omega), h 8 (by omega), h 9 (by omega), h 10 (by omega), h 11 (by omega), h 12 (by omega)]
  unfold errPg
  rw [e, h 0 (by omega), h 1 (by omega)]
theorem getD_map13 (x : Nat → Int) (i : Nat) (h : i < 13) : ((List.range 13).map x).getD i 0 = x i := by
  rw [List.getD_eq_getElem?_getD, List.getElem?_map, List.getElem?_range h]; rfl
theorem FrQ_tail {x : Nat → Int} (h : errPg x = 0) : ((FrQ x).drop 200).any (fun d => d != 0) = false := by
  obtain ⟨p1, _, p3, _⟩ := packed27 h
  rw [List.any_eq_false]
  intro d hd
  obtain ⟨j, hj, rfl⟩ := List.mem_iff_getElem.1 hd
  rw [List.length_drop] at hj
  rw [List.getElem_drop]
  have h9 := p3 (200 + j) (by omega) (by omega)
  rw [List.getD_eq_getElem?_getD, List.getElem?_eq_getElem (by omega), Option.getD_some] at h9
  rw [h9]
  decide
theorem AlRead_back {x : Nat → Int} (h : errPg x = 0) (t : Int) (h0 : 0 ≤ t) (h1 : t < 131072) (v : Value) (w : World) (hw : WdAt w) (hv : RdI w v (FrQ x)) (hc : Capd v) :
    Calls Tryd.prog 25 #[.agg #[.int .i64 t, .int .i64 4, v]] w fun e w' => e = .returned (.tuple #[.agg (pgV x), .int .i64 0]) ∧ Bw w w' := by
  obtain ⟨a, c, rfl⟩ := hv.form
  obtain ⟨p1, p2, _, _⟩ := packed27 h
  have hcg := pgV_congr2 (x := fun i => ((List.range 13).map x).getD i 0) (y := x) (fun j hj => getD_map13 x j hj)
  have heg := errPg_congr (x := fun i => ((List.range 13).map x).getD i 0) (y := x) (fun j hj => getD_map13 x j hj)
  have h9 := AlRead_main t 4 (FrQ x) ((List.range 13).map x) 0 0 a c w hw (fun i => ((List.range 13).map x).getD i 0) (fun i => ((List.range 13).map x).getD i 0) 0 hv (hc _ _ _ rfl) p2 (fun i => rfl)
    (.inl ⟨⟨rfl, h0, h1, p1, rfl, heg.trans h, FrQ_tail h⟩, rfl, rfl⟩)
  rw [hcg] at h9
  exact h9
theorem eqA_self (x y z : Int) (w : World) : (Op.equalIn 10000 25 (.agg #[.int .i64 x, .int .i64 y, .int .i64 z]) (.agg #[.int .i64 x, .int .i64 y, .int .i64 z])).run Tryd.prog w = .ok true w := eqA3 9998 x y z w
theorem eqA_guard (x y : Array Value) (op : BinOp) (p q : Operand) (w : World) : (eqGuard op 25 p q (.agg x) (.agg y)).run Tryd.prog w = .ok () w := run_eqGuard_agg w op _ _ _ _ _ (by kernel_rfl)
theorem quiet_load {P : Program} {o : Oper} {a : Act} {C : World → Prop} {K : Act → Prop} (v : Value) (dst : Option Tmp) (hd : o.dst = dst) (hv : ∀ w, C w → (execOp a.eval o).run P w = .ok (.value v) w) (h : K (a.put dst v)) : o.quiet P a C K := by
  subst hd
  refine ⟨v, fun w hw => ?_, h⟩
  unfold Oper.quietAt Oper.quietUpon
  rw [hv w hw]
  exact ⟨rfl, rfl⟩
def plX27 : Nat → Int := fun i => [3, 600000, 100, 1000, 1, 2, 3, 0, 0, 0, 0, 0, 0].getD i 0
theorem pl27_ok : errPg plX27 = 0 := by kernel_rfl
theorem plain27_any (w : World) : Calls Tryd.prog 32 #[] w fun e w' => e = .returned (.agg (pgV plX27)) ∧ Bw w w' := by
  have KR := Lib.hid (Blk.new w 27 #[.int .i64 0, .int .i64 0, .int .i64 0, .int .i64 0, .int .i64 0, .int .i64 0, .int .i64 0, .int .i64 0, .int .i64 0, .int .i64 0, .int .i64 0, .int .i64 0, .int .i64 0])
  have HW := Lib.hid (Bw.alloc (Bw.refl w) (.cells #[.int .i64 0, .int .i64 0, .int .i64 0, .int .i64 0, .int .i64 0, .int .i64 0, .int .i64 0, .int .i64 0, .int .i64 0, .int .i64 0, .int .i64 0, .int .i64 0, .int .i64 0] 27))
  go_enter Tryd.func32, Tryd.ntmps32
  go_wp2_with ((with_reducible refine at_store 27 (.tmp 0) (.tmp 2) ?_); refine wpList_store_row rfl 27 (.tmp 0) (.tmp 2) rfl w.heap.size (pgV plX27) rfl rfl 27 _ KR.out (by kernel_rfl) rfl (by simp [Value.oneCell', pgV]) ?_)
  refine bodyPost_ret (v := .agg (pgV plX27)) ?_ rfl ⟨rfl, Bw.setRow HW.out (Nat.le_refl _) _⟩
  exact results_cell_row (p := 0) rfl _ _ w.heap.size _ _ (0, 0) _ rfl (KR.out.row _) Tryd.underlying27 rfl (by kernel_rfl)
theorem stands27_any (t x : Int) (h1 : errTm plX27 t = 0) (h2 : t3V (atP plX27 t) = #[.int .i64 x, .int .i64 0, .int .i64 0]) (w : World) (hw : WdAt w) : Calls Tryd.prog 30 #[.int .i64 t, .int .i64 x] w fun e w' => e = .returned (.bool true) ∧ Bw w w' := by
  have HWD := Lib.hid hw
  have PLN := Lib.hid (fun W => plain27_any W)
  have PS := Lib.hid (fun W h => AlAt_any plX27 t W h)
  rw [h1, h2] at PS
  have hq := fun x y z W => eqA_self x y z W
  have hg := fun W a b op p q => eqA_guard a b op p q W
  obtain ⟨A, hA⟩ : ∃ A, A = pgV plX27 := ⟨_, rfl⟩
  rw [← hA] at PLN PS
  clear hA h1 h2 hw
  have HW := Lib.hid (Bw.refl w)
  go_enter Tryd.func30, Tryd.ntmps30
  go_wp2_with (first | (go_at_call 32; (with_reducible refine Calls.mono (PLN.out _) ?_); rintro e1 w1 ⟨rfl, hb1⟩; replace HW := Lib.hid (HW.out.trans hb1); clear hb1) | (go_at_call 18; (with_reducible refine Calls.mono (PS.out _ (HWD.out.bw HW.out)) ?_); rintro e1 w2 ⟨rfl, hb1⟩; replace HW := Lib.hid (HW.out.trans hb1); clear hb1))
  go_ret
  exact ⟨rfl, HW.out.trans (Bw.alloc (Bw.refl _) _)⟩
theorem bound27_any (t x : Int) (h1 : errTm plX27 t = 0) (h2 : bdP plX27 t = x) (w : World) (hw : WdAt w) : Calls Tryd.prog 31 #[.int .i64 t, .int .i64 x] w fun e w' => e = .returned (.bool true) ∧ Bw w w' := by
  have HWD := Lib.hid hw
  have PLN := Lib.hid (fun W => plain27_any W)
  have PS := Lib.hid (fun W h => AlError_any plX27 t W h)
  rw [h1, h2] at PS
  obtain ⟨A, hA⟩ : ∃ A, A = pgV plX27 := ⟨_, rfl⟩
  rw [← hA] at PLN PS
  clear hA h1 h2 hw
  have HW := Lib.hid (Bw.refl w)
  go_enter Tryd.func31, Tryd.ntmps31
  go_wp2_with (first | (go_at_call 32; (with_reducible refine Calls.mono (PLN.out _) ?_); rintro e1 w1 ⟨rfl, hb1⟩; replace HW := Lib.hid (HW.out.trans hb1); clear hb1) | (go_at_call 20; (with_reducible refine Calls.mono (PS.out _ (HWD.out.bw HW.out)) ?_); rintro e1 w2 ⟨rfl, hb1⟩; replace HW := Lib.hid (HW.out.trans hb1); clear hb1))
  go_ret
  exact ⟨rfl, HW.out⟩
theorem pl27_s : errTm plX27 600010 = 0 := by kernel_rfl
theorem pl27_sv : t3V (atP plX27 600010) = #[.int .i64 84, .int .i64 0, .int .i64 0] := by kernel_rfl
theorem pl27_b : errTm plX27 600001 = 0 := by kernel_rfl
theorem pl27_bv : bdP plX27 600001 = 101 := by kernel_rfl
theorem awake27_any (w : World) (hw : WdAt w) : Calls Tryd.prog 15 #[] w fun e w' => e = .returned (.bool true) ∧ Bw w w' := by
  have HWD := Lib.hid hw
  have PLN := Lib.hid (fun W => plain27_any W)
  have FO := Lib.hid (fun W h => AlFrame_ok plX27 9 W h pl27_ok (by decide))
  have RB := Lib.hid (fun W v h hv hc => AlRead_back pl27_ok 9 (by decide) (by decide) v W h hv hc)
  have S1 := Lib.hid (fun W h => stands27_any 600010 84 pl27_s pl27_sv W h)
  have B1 := Lib.hid (fun W h => bound27_any 600001 101 pl27_b pl27_bv W h)
  unfold FrP at FO
  have HLQ := Lib.hid (packed27 pl27_ok).1
  rw [show (packR 206 (fdsS PGL) ((List.range 13).map plX27)).1 = FrQ plX27 from rfl] at FO
  generalize FrQ plX27 = L at *
  have HQ := Lib.hid (fun W => eqPg_self plX27 W)
  have hg := fun W a b op p q => eqPg_guard a b op p q W
  have HSZ : Hid ((Tryd.prog.info? 27).map (·.size) = some (pgV plX27).size) := Lib.hid (by kernel_rfl)
  have HPX : Hid ((pgV plX27).all (·.oneCell') = true) := Lib.hid (by simp [Value.oneCell', pgV])
  have HN13 : Hid ((#[.int .i64 0, .int .i64 0, .int .i64 0, .int .i64 0, .int .i64 0, .int .i64 0, .int .i64 0, .int .i64 0, .int .i64 0, .int .i64 0, .int .i64 0, .int .i64 0, .int .i64 0] : Array Value).size = (pgV plX27).size) := Lib.hid rfl
  obtain ⟨A, hA⟩ : ∃ A, A = pgV plX27 := ⟨_, rfl⟩
  rw [← hA] at PLN FO RB HQ HSZ HPX HN13
  clear hA hw
  have HW := Lib.hid (Bw.refl w)
  go_enter Tryd.func15, Tryd.ntmps15
  go_upto_region 2 with (first | (go_at_call 32; (with_reducible refine Calls.mono (PLN.out _) ?_); rintro e1 w1 ⟨rfl, hb1⟩; replace HW := Lib.hid (HW.out.trans hb1); clear hb1) | (go_at_call 16; (with_reducible refine Calls.mono (FO.out _ (HWD.out.bw HW.out)) ?_); rintro e1 w2 ⟨⟨v2, rfl, hrd, hfr, hcd⟩, hb1⟩; obtain ⟨va, vc, rfl⟩ := hrd.form; have HRD := Lib.hid (And.intro hrd hcd); replace HW := Lib.hid (HW.out.trans hb1); clear hb1 hrd hfr hcd) | ((with_reducible refine at_store 40 (.tmp 1) (.tmp 8) ?_); refine wpList_store_row rfl 40 (.tmp 1) (.tmp 8) rfl w2.heap.size #[.int .i64 9, .int .i64 4, .slice va L.length vc] rfl rfl 40 #[.int .i64 0, .int .i64 0, .slice none 0 0] (Blk.new w2 40 #[.int .i64 0, .int .i64 0, .slice none 0 0]) (by kernel_rfl) (by simp) (by simp [Value.oneCell']) ?_))
  obtain ⟨g1, hg1⟩ : ∃ g1, w2.heap.size = g1 := ⟨_, rfl⟩
  have hb1 := Bw.setRow (Bw.alloc (Bw.refl w2) (.cells #[.int .i64 0, .int .i64 0, .slice none 0 0] 40)) (Nat.le_of_eq hg1) #[.int .i64 9, .int .i64 4, .slice va L.length vc]
  have K1 := Lib.hid ((Blk.new w2 40 #[.int .i64 0, .int .i64 0, .slice none 0 0]).row #[.int .i64 9, .int .i64 4, .slice va L.length vc])
  rw [hg1] at K1 ⊢
  replace HRD := Lib.hid (And.intro (HRD.out.1.mono hb1) HRD.out.2)
  replace HW := Lib.hid (HW.out.trans hb1)
  clear hb1
  generalize World.setRow (World.alloc w2 _) _ _ = z2 at *
  clear hg1
  have a0 := K1.out.cell (show (#[.int .i64 9, .int .i64 4, .slice va L.length vc] : Array Value)[0]? = _ from rfl)
  have a1 := K1.out.cell (show (#[.int .i64 9, .int .i64 4, .slice va L.length vc] : Array Value)[1]? = _ from rfl)
  have a2 := K1.out.cell (show (#[.int .i64 9, .int .i64 4, .slice va L.length vc] : Array Value)[2]? = _ from rfl)
  go_upto_region 3 with (first | (go_at_call 25; (with_reducible refine Calls.mono (RB.out _ _ (HWD.out.bw HW.out) HRD.out.1 HRD.out.2) ?_); rintro e1 w3 ⟨rfl, hb1⟩; replace K1 := Lib.hid (K1.out.bw hb1); replace HW := Lib.hid (HW.out.trans hb1); clear hb1) | ((with_reducible refine at_store 27 (.tmp 3) (.tmp 13) ?_); refine wpList_store_row rfl 27 (.tmp 3) (.tmp 13) rfl w3.heap.size A rfl rfl 27 #[.int .i64 0, .int .i64 0, .int .i64 0, .int .i64 0, .int .i64 0, .int .i64 0, .int .i64 0, .int .i64 0, .int .i64 0, .int .i64 0, .int .i64 0, .int .i64 0, .int .i64 0] (Blk.new w3 27 #[.int .i64 0, .int .i64 0, .int .i64 0, .int .i64 0, .int .i64 0, .int .i64 0, .int .i64 0, .int .i64 0, .int .i64 0, .int .i64 0, .int .i64 0, .int .i64 0, .int .i64 0]) HSZ.out HN13.out HPX.out ?_))
  obtain ⟨g3, hg1⟩ : ∃ g3, w3.heap.size = g3 := ⟨_, rfl⟩
  have hb1 := Bw.setRow (Bw.alloc (Bw.refl w3) (.cells #[.int .i64 0, .int .i64 0, .int .i64 0, .int .i64 0, .int .i64 0, .int .i64 0, .int .i64 0, .int .i64 0, .int .i64 0, .int .i64 0, .int .i64 0, .int .i64 0, .int .i64 0] 27)) (Nat.le_of_eq hg1) A
  have K3 := Lib.hid ((Blk.new w3 27 #[.int .i64 0, .int .i64 0, .int .i64 0, .int .i64 0, .int .i64 0, .int .i64 0, .int .i64 0, .int .i64 0, .int .i64 0, .int .i64 0, .int .i64 0, .int .i64 0, .int .i64 0]).row A)
  rw [hg1] at K3 ⊢
  replace K1 := Lib.hid (K1.out.bw hb1)
  replace HW := Lib.hid (HW.out.trans hb1)
  clear hb1 a0 a1 a2
  generalize World.setRow (World.alloc w3 _) _ _ = z3 at *
  clear hg1
  have a0 := K1.out.cell (show (#[.int .i64 9, .int .i64 4, .slice va L.length vc] : Array Value)[0]? = _ from rfl)
  have a1 := K1.out.cell (show (#[.int .i64 9, .int .i64 4, .slice va L.length vc] : Array Value)[1]? = _ from rfl)
  have e0 := fun p' : Ext z3 => Ext.cell' a0 p'
  have e1 := fun p' : Ext z3 => Ext.cell' a1 p'
  have hq2 := HQ.out
  have HWD3 := Lib.hid (HWD.out.bw HW.out)
  clear a0 a1
  refine wp_region_quiet_ext (by kernel_rfl) (by kernel_rfl) ?_
  (repeat (go_big_quiet_step (fail)))
  go_big_quiet_want
  refine quiet_load (.agg A) (some 28) rfl (fun W hW => ?_) ?_
  · obtain ⟨p, rfl⟩ := hW
    exact run_load_row 27 _ rfl g3 rfl 27 A _ (K3.out.bw p.b) Tryd.underlying27 rfl HSZ.out
  simp only [Act.put, List.setIfInBounds_toArray, List.set_cons_zero, List.set_cons_succ]
  go_big_quiet_on
  (repeat (go_big_quiet_step (first | (go_at_call 32; with_reducible refine Calls.ext_of (PLN.out _)) | (go_at_call 30; with_reducible refine Calls.ext_of (S1.out _ (HWD3.out.bw (Ext.b _)))) | (go_at_call 31; with_reducible refine Calls.ext_of (B1.out _ (HWD3.out.bw (Ext.b _)))))))
  refine wpQuiet_nil ?_
  rintro wq ⟨⟨_, hbq⟩, rfl⟩
  go_wp2
  go_ret
  exact ⟨rfl, HW.out.trans hbq⟩
end Go.Proofs.Sky

namespace Go.Proofs.Sky
open Go Go.RowKit Go.Shelf
set_option maxHeartbeats 4000000
set_option maxRecDepth 8000
/-! chapter 27: AlmanacPages -/
theorem frames27 (x : Nat → Int) (tow : Int) : ∃ (T K E : Int) (L : List Int), (∀ W, WdAt W → Calls Tryd.prog 16 #[.agg (pgV x), .int .i64 tow] W fun e w' => FrP W.heap.size T K L E e w' ∧ Bw W w') ∧ (∀ W, Calls Tryd.prog 17 #[.agg (pgV x), .int .i64 tow] W fun e w' => FrP W.heap.size T K L E e w' ∧ Bw W w') := by
  by_cases h : errPg x = 0
  · by_cases hr : tow < 0 ∨ 131072 ≤ tow
    · exact ⟨_, _, _, _, fun W hW => AlFrame_range x tow W hW h hr, fun W => RFrame27_range x tow W h hr⟩
    · exact ⟨_, _, _, _, fun W hW => AlFrame_ok x tow W hW h (by omega), fun W => RFrame27_ok x tow W h (by omega)⟩
  · exact ⟨_, _, _, _, fun W hW => AlFrame_bad x tow W hW h, fun W => RFrame27_bad x tow W h⟩
theorem law_pages (x : Nat → Int) (t tow : Int) (w : World) (hw : WdAt w) : Calls Tryd.prog 4 #[.agg (pgV x), .int .i64 t, .int .i64 tow] w fun e w' => e = .returned (.bool true) ∧ Bw w w' := by
  have HWD := Lib.hid hw
  obtain ⟨T, K, E, L, hf1, hf2⟩ := frames27 x tow
  have FO := Lib.hid hf1
  have RF := Lib.hid hf2
  unfold FrP at FO RF
  have AA := Lib.hid (fun W h => AlAt_any x t W h)
  have RA := Lib.hid (fun W => RAlAt_any x t W)
  have AE := Lib.hid (fun W h => AlError_any x t W h)
  have RE := Lib.hid (fun W => RAlError_any x t W)
  have PK := Lib.hid (fun W h => PgCheck_any x W h)
  have RK := Lib.hid (fun W => rPgCheck_any x W)
  have AW := Lib.hid (fun W h => awake27_any W h)
  have AL := Lib.hid (fun v1 v2 W h1 h2 => alike_same L v1 v2 W h1 h2)
  unfold t3V at AA RA
  generalize atP x t 0 = q0 at *
  generalize atP x t 1 = q1 at *
  generalize atP x t 2 = q2 at *
  generalize errTm x t = et at *
  generalize bdP x t = bp at *
  generalize errPg x = ep at *
  have KX := Lib.hid (Blk.new w 27 (pgV x))
  have HW := Lib.hid (Bw.alloc (Bw.refl w) (.cells (pgV x) 27))
  have HSZ : Hid ((Tryd.prog.info? 27).map (·.size) = some (pgV x).size) := Lib.hid (by kernel_rfl)
  obtain ⟨g, hg⟩ : ∃ g, w.heap.size = g := ⟨_, rfl⟩
  rw [hg] at KX
  obtain ⟨A, hA⟩ : ∃ A, A = pgV x := ⟨_, rfl⟩
  clear hf1 hf2 hw
  rw [← hA] at FO RF AA RA AE RE PK RK KX HW HSZ ⊢
  clear hA
  go_enter Tryd.func4, Tryd.ntmps4
  go_upto_region 1 with fail
  obtain ⟨W0, hW0⟩ : ∃ W0, w.alloc (.cells A 27) = W0 := ⟨_, rfl⟩
  rw [hW0] at KX HW ⊢
  clear hW0 hg
  go_upto_region 2 with (first | ((with_reducible refine at_load 27 (.tmp 3) ?_); refine wpList_load_row rfl 27 _ rfl g rfl 27 A (0, 0) _ KX.out Tryd.underlying27 rfl HSZ.out ?_) | (go_at_call 16; (with_reducible refine Calls.mono (FO.out _ (HWD.out.bw HW.out)) ?_); rintro e1 w0 ⟨⟨v0, rfl, hrd, hfr, hcd⟩, hb1⟩; obtain ⟨va0, vc0, rfl⟩ := hrd.form; have HR0 := Lib.hid hrd; replace KX := Lib.hid (KX.out.bw hb1); replace HW := Lib.hid (HW.out.trans hb1); clear hb1; clear hrd hfr hcd) | ((with_reducible refine at_store 40 (.tmp 7) (.tmp 23) ?_); refine wpList_store_row rfl 40 (.tmp 7) (.tmp 23) rfl w0.heap.size #[.int .i64 T, .int .i64 K, .slice va0 L.length vc0] rfl rfl 40 #[.int .i64 0, .int .i64 0, .slice none 0 0] (Blk.new w0 40 #[.int .i64 0, .int .i64 0, .slice none 0 0]) (by kernel_rfl) (by simp) (by simp [Value.oneCell']) ?_))
  obtain ⟨g7, hg1⟩ : ∃ g7, w0.heap.size = g7 := ⟨_, rfl⟩
  have hb1 := Bw.setRow (Bw.alloc (Bw.refl w0) (.cells #[.int .i64 0, .int .i64 0, .slice none 0 0] 40)) (Nat.le_of_eq hg1) #[.int .i64 T, .int .i64 K, .slice va0 L.length vc0]
  have K7 := Lib.hid ((Blk.new w0 40 #[.int .i64 0, .int .i64 0, .slice none 0 0]).row #[.int .i64 T, .int .i64 K, .slice va0 L.length vc0])
  rw [hg1] at K7 ⊢
  replace HR0 := Lib.hid (HR0.out.mono hb1)
  replace KX := Lib.hid (KX.out.bw hb1); replace HW := Lib.hid (HW.out.trans hb1); clear hb1
  generalize World.setRow (World.alloc w0 _) _ _ = z0 at *
  clear hg1
  go_upto_region 3 with (first | ((with_reducible refine at_load 27 (.tmp 3) ?_); refine wpList_load_row rfl 27 _ rfl g rfl 27 A (0, 0) _ KX.out Tryd.underlying27 rfl HSZ.out ?_) | (go_at_call 17; (with_reducible refine Calls.mono (RF.out _) ?_); rintro e1 w1 ⟨⟨v1, rfl, hrd, hfr, hcd⟩, hb1⟩; obtain ⟨va1, vc1, rfl⟩ := hrd.form; have HR1 := Lib.hid hrd; replace KX := Lib.hid (KX.out.bw hb1); replace K7 := Lib.hid (K7.out.bw hb1); replace HW := Lib.hid (HW.out.trans hb1); replace HR0 := Lib.hid (HR0.out.mono hb1); clear hb1; clear hrd hfr hcd) | ((with_reducible refine at_store 40 (.tmp 9) (.tmp 29) ?_); refine wpList_store_row rfl 40 (.tmp 9) (.tmp 29) rfl w1.heap.size #[.int .i64 T, .int .i64 K, .slice va1 L.length vc1] rfl rfl 40 #[.int .i64 0, .int .i64 0, .slice none 0 0] (Blk.new w1 40 #[.int .i64 0, .int .i64 0, .slice none 0 0]) (by kernel_rfl) (by simp) (by simp [Value.oneCell']) ?_))
  obtain ⟨g9, hg1⟩ : ∃ g9, w1.heap.size = g9 := ⟨_, rfl⟩
  have hb1 := Bw.setRow (Bw.alloc (Bw.refl w1) (.cells #[.int .i64 0, .int .i64 0, .slice none 0 0] 40)) (Nat.le_of_eq hg1) #[.int .i64 T, .int .i64 K, .slice va1 L.length vc1]
  have K9 := Lib.hid ((Blk.new w1 40 #[.int .i64 0, .int .i64 0, .slice none 0 0]).row #[.int .i64 T, .int .i64 K, .slice va1 L.length vc1])
  rw [hg1] at K9 ⊢
  replace HR1 := Lib.hid (HR1.out.mono hb1)
  replace KX := Lib.hid (KX.out.bw hb1); replace K7 := Lib.hid (K7.out.bw hb1); replace HW := Lib.hid (HW.out.trans hb1); replace HR0 := Lib.hid (HR0.out.mono hb1); clear hb1
  generalize World.setRow (World.alloc w1 _) _ _ = z1 at *
  clear hg1
  go_upto_region 4 with (first | ((with_reducible refine at_load 27 (.tmp 3) ?_); refine wpList_load_row rfl 27 _ rfl g rfl 27 A (0, 0) _ KX.out Tryd.underlying27 rfl HSZ.out ?_) | (go_at_call 18; (with_reducible refine Calls.mono (AA.out _ (HWD.out.bw HW.out)) ?_); rintro e1 w2 ⟨rfl, hb1⟩; replace KX := Lib.hid (KX.out.bw hb1); replace K7 := Lib.hid (K7.out.bw hb1); replace K9 := Lib.hid (K9.out.bw hb1); replace HW := Lib.hid (HW.out.trans hb1); replace HR0 := Lib.hid (HR0.out.mono hb1); replace HR1 := Lib.hid (HR1.out.mono hb1); clear hb1))
  obtain ⟨g11, hg1⟩ : ∃ g11, w2.heap.size = g11 := ⟨_, rfl⟩
  have hb1 := Bw.alloc (Bw.refl w2) (.cells #[.int .i64 q0, .int .i64 q1, .int .i64 q2] 25)
  have K11 := Lib.hid (Blk.new w2 25 #[.int .i64 q0, .int .i64 q1, .int .i64 q2])
  rw [hg1] at K11 ⊢
  replace KX := Lib.hid (KX.out.bw hb1); replace K7 := Lib.hid (K7.out.bw hb1); replace K9 := Lib.hid (K9.out.bw hb1); replace HW := Lib.hid (HW.out.trans hb1); replace HR0 := Lib.hid (HR0.out.mono hb1); replace HR1 := Lib.hid (HR1.out.mono hb1); clear hb1
  generalize World.alloc w2 _ = z2 at *
  clear hg1
  go_upto_region 5 with (first | ((with_reducible refine at_load 27 (.tmp 3) ?_); refine wpList_load_row rfl 27 _ rfl g rfl 27 A (0, 0) _ KX.out Tryd.underlying27 rfl HSZ.out ?_) | (go_at_call 19; (with_reducible refine Calls.mono (RA.out _) ?_); rintro e1 w3 ⟨rfl, hb1⟩; replace KX := Lib.hid (KX.out.bw hb1); replace K7 := Lib.hid (K7.out.bw hb1); replace K9 := Lib.hid (K9.out.bw hb1); replace K11 := Lib.hid (K11.out.bw hb1); replace HW := Lib.hid (HW.out.trans hb1); replace HR0 := Lib.hid (HR0.out.mono hb1); replace HR1 := Lib.hid (HR1.out.mono hb1); clear hb1))
  obtain ⟨g13, hg1⟩ : ∃ g13, w3.heap.size = g13 := ⟨_, rfl⟩
  have hb1 := Bw.alloc (Bw.refl w3) (.cells #[.int .i64 q0, .int .i64 q1, .int .i64 q2] 25)
  have K13 := Lib.hid (Blk.new w3 25 #[.int .i64 q0, .int .i64 q1, .int .i64 q2])
  rw [hg1] at K13 ⊢
  replace KX := Lib.hid (KX.out.bw hb1); replace K7 := Lib.hid (K7.out.bw hb1); replace K9 := Lib.hid (K9.out.bw hb1); replace K11 := Lib.hid (K11.out.bw hb1); replace HW := Lib.hid (HW.out.trans hb1); replace HR0 := Lib.hid (HR0.out.mono hb1); replace HR1 := Lib.hid (HR1.out.mono hb1); clear hb1
  generalize World.alloc w3 _ = z3 at *
  clear hg1
  go_upto_region 6 with (first | ((with_reducible refine at_load 27 (.tmp 3) ?_); refine wpList_load_row rfl 27 _ rfl g rfl 27 A (0, 0) _ KX.out Tryd.underlying27 rfl HSZ.out ?_) | (go_at_call 20; (with_reducible refine Calls.mono (AE.out _ (HWD.out.bw HW.out)) ?_); rintro e1 w4 ⟨rfl, hb1⟩; replace KX := Lib.hid (KX.out.bw hb1); replace K7 := Lib.hid (K7.out.bw hb1); replace K9 := Lib.hid (K9.out.bw hb1); replace K11 := Lib.hid (K11.out.bw hb1); replace K13 := Lib.hid (K13.out.bw hb1); replace HW := Lib.hid (HW.out.trans hb1); replace HR0 := Lib.hid (HR0.out.mono hb1); replace HR1 := Lib.hid (HR1.out.mono hb1); clear hb1))
  go_upto_region 7 with (first | ((with_reducible refine at_load 27 (.tmp 3) ?_); refine wpList_load_row rfl 27 _ rfl g rfl 27 A (0, 0) _ KX.out Tryd.underlying27 rfl HSZ.out ?_) | (go_at_call 21; (with_reducible refine Calls.mono (RE.out _) ?_); rintro e1 w5 ⟨rfl, hb1⟩; replace KX := Lib.hid (KX.out.bw hb1); replace K7 := Lib.hid (K7.out.bw hb1); replace K9 := Lib.hid (K9.out.bw hb1); replace K11 := Lib.hid (K11.out.bw hb1); replace K13 := Lib.hid (K13.out.bw hb1); replace HW := Lib.hid (HW.out.trans hb1); replace HR0 := Lib.hid (HR0.out.mono hb1); replace HR1 := Lib.hid (HR1.out.mono hb1); clear hb1))
  have HWD3 := Lib.hid (HWD.out.bw HW.out)
  have hq := fun x y z W => eqA_self x y z W
  have hgg := fun W a b op p q => eqA_guard a b op p q W
  have e0 := fun p' : Ext w5 => Ext.cell' (K7.out.cell (show (#[.int .i64 T, .int .i64 K, .slice va0 L.length vc0] : Array Value)[0]? = _ from rfl)) p'
  have e1 := fun p' : Ext w5 => Ext.cell' (K7.out.cell (show (#[.int .i64 T, .int .i64 K, .slice va0 L.length vc0] : Array Value)[1]? = _ from rfl)) p'
  have e2 := fun p' : Ext w5 => Ext.cell' (K7.out.cell (show (#[.int .i64 T, .int .i64 K, .slice va0 L.length vc0] : Array Value)[2]? = _ from rfl)) p'
  have e3 := fun p' : Ext w5 => Ext.cell' (K9.out.cell (show (#[.int .i64 T, .int .i64 K, .slice va1 L.length vc1] : Array Value)[0]? = _ from rfl)) p'
  have e4 := fun p' : Ext w5 => Ext.cell' (K9.out.cell (show (#[.int .i64 T, .int .i64 K, .slice va1 L.length vc1] : Array Value)[1]? = _ from rfl)) p'
  have e5 := fun p' : Ext w5 => Ext.cell' (K9.out.cell (show (#[.int .i64 T, .int .i64 K, .slice va1 L.length vc1] : Array Value)[2]? = _ from rfl)) p'
  have e6 := fun p' : Ext w5 => Ext.cell' (K11.out.cell (show (#[.int .i64 q0, .int .i64 q1, .int .i64 q2] : Array Value)[0]? = _ from rfl)) p'
  have e7 := fun p' : Ext w5 => Ext.cell' (K11.out.cell (show (#[.int .i64 q0, .int .i64 q1, .int .i64 q2] : Array Value)[1]? = _ from rfl)) p'
  have e8 := fun p' : Ext w5 => Ext.cell' (K11.out.cell (show (#[.int .i64 q0, .int .i64 q1, .int .i64 q2] : Array Value)[2]? = _ from rfl)) p'
  have e9 := fun p' : Ext w5 => Ext.cell' (K13.out.cell (show (#[.int .i64 q0, .int .i64 q1, .int .i64 q2] : Array Value)[0]? = _ from rfl)) p'
  have e10 := fun p' : Ext w5 => Ext.cell' (K13.out.cell (show (#[.int .i64 q0, .int .i64 q1, .int .i64 q2] : Array Value)[1]? = _ from rfl)) p'
  have e11 := fun p' : Ext w5 => Ext.cell' (K13.out.cell (show (#[.int .i64 q0, .int .i64 q1, .int .i64 q2] : Array Value)[2]? = _ from rfl)) p'
  refine wp_region_quiet_ext (by kernel_rfl) (by kernel_rfl) ?_
  go_big_quiet_want
  refine quiet_load (.agg A) (some 55) rfl (fun W hW => ?_) ?_
  · obtain ⟨p, rfl⟩ := hW
    exact run_load_row 27 _ rfl g rfl 27 A _ (KX.out.bw p.b) Tryd.underlying27 rfl HSZ.out
  simp only [Act.put, List.setIfInBounds_toArray, List.set_cons_zero, List.set_cons_succ]
  go_big_quiet_on
  (repeat (go_big_quiet_step ((go_at_call 22; with_reducible refine Calls.ext_of (PK.out _ (HWD3.out.bw (Ext.b _)))))))
  go_big_quiet_want
  refine quiet_load (.agg A) (some 57) rfl (fun W hW => ?_) ?_
  · obtain ⟨p, rfl⟩ := hW
    exact run_load_row 27 _ rfl g rfl 27 A _ (KX.out.bw p.b) Tryd.underlying27 rfl HSZ.out
  simp only [Act.put, List.setIfInBounds_toArray, List.set_cons_zero, List.set_cons_succ]
  go_big_quiet_on
  (repeat (go_big_quiet_step (first | (go_at_call 23; with_reducible refine Calls.ext_of (RK.out _)) | (go_at_call 24; with_reducible refine Calls.ext_of (AL.out _ _ _ (HR0.out.mono (Ext.b _)) (HR1.out.mono (Ext.b _)))) | (go_at_call 15; with_reducible refine Calls.ext_of (AW.out _ (HWD3.out.bw (Ext.b _)))))))
  refine wpQuiet_nil ?_
  rintro wq ⟨⟨_, hbq⟩, rfl⟩
  go_wp2
  go_ret
  exact ⟨rfl, HW.out.trans hbq⟩
end Go.Proofs.Sky
