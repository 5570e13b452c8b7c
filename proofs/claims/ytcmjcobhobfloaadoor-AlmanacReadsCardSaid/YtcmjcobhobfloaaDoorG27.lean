/-
  lemmas for the theorems of this claim. No conditions beyond those written in the statements.
-/
import Derived.Test.YtcmjcobhobfloaaDoorBB28
import Derived.Laws.StructEq
import Derived.Test.YtcmjcobhobfloaaDoorD27
set_option linter.unusedVariables false
set_option linter.unusedSimpArgs false
set_option linter.unnecessarySimpa false
namespace Go.Proofs.Sky
open Go Go.RowKit Go.Shelf
set_option maxHeartbeats 4000000
set_option maxRecDepth 8000
/-! equal pages -/
theorem eqA3 (d : Nat) (a b c : Int) (w : World) : (Op.equalIn (d + 2) 25 (.agg #[.int .i64 a, .int .i64 b, .int .i64 c]) (.agg #[.int .i64 a, .int .i64 b, .int .i64 c])).run Tryd.prog w = .ok true w := by
  have hu : Tryd.prog.underlying 25 = some (.array 3 3) := by kernel_rfl
  have hi : Tryd.prog.underlying 3 = some (.int .i64) := by kernel_rfl
  have hs : ∀ w, (sizeOf 3).run Tryd.prog w = .ok 1 w := fun w => by kernel_rfl
  simp [Op.equalIn, run_underlying hu, run_underlying hi, hs, go_sem, part, Std.Legacy.Range.forIn_eq_forIn_range', Std.Legacy.Range.size, List.range'_succ, List.range'_zero, List.forIn_cons, List.forIn_nil]
theorem eqPg_self (x : Nat → Int) (w : World) : (Op.equalIn 10000 27 (.agg (pgV x)) (.agg (pgV x))).run Tryd.prog w = .ok true w := by
  unfold pgV
  generalize x 0 = a0, x 1 = a1, x 2 = a2, x 3 = a3, x 4 = a4, x 5 = a5, x 6 = a6, x 7 = a7, x 8 = a8, x 9 = a9, x 10 = a10, x 11 = a11, x 12 = a12
  rw [show (10000 : Nat) = 9998 + 1 + 1 from rfl, run_equalIn_agg _ _ _ _ _ (by kernel_rfl) (by kernel_rfl)]
  simp only [Program.fieldsOf, Tryd.underlying27]
  have h3 : ∀ w, (sizeOf 25).run Tryd.prog w = .ok 3 w := fun w => by kernel_rfl
  have h1 : ∀ w, (sizeOf 3).run Tryd.prog w = .ok 1 w := fun w => by kernel_rfl
  have i3 : Tryd.prog.underlying 25 = some (.array 3 3) := by kernel_rfl
  have hi : Tryd.prog.underlying 3 = some (.int .i64) := by kernel_rfl
  have q3 := fun d => eqA3 d
  simp [Op.eqFields, part, h3, h1, go_sem, run_underlying i3, run_underlying hi, q3 9997, run_equalIn_int _ _ _ _ _ _ _ hi]
theorem eqPg_guard (x y : Array Value) (op : BinOp) (p q : Operand) (w : World) : (eqGuard op 27 p q (.agg x) (.agg y)).run Tryd.prog w = .ok () w := run_eqGuard_agg w op _ _ _ _ _ (by kernel_rfl)
end Go.Proofs.Sky

namespace Go.Proofs.Sky
open Go Go.RowKit Go.Shelf
set_option maxHeartbeats 4000000
set_option maxRecDepth 8000
/-! chapter 27: a page read from its frame; the examples -/
theorem errPg_congr {x y : Nat → Int} (h : ∀ i, i < 13 → x i = y i) : errPg x = errPg y := by
  have e : inPg x = inPg y := by
    rw [inPg_eq, inPg_eq]
    unfold okT
    dsimp only
    rw [h 0 (by omega), h 1 (by omega), h 2 (by omega), h 3 (by omega), h 4 (by omega), h 5 (by omega), h 6 (by omega), h 7 (by omega), h 8 (by omega), h 9 (by omega), h 10 (by omega), h 11 (by omega), h 12 (by omega)]
  unfold errPg
  rw [e, h 0 (by omega), h 1 (by omega)]
theorem getD_map13 (x : Nat → Int) (i : Nat) (h : i < 13) : ((List.range 13).map x).getD i 0 = x i := by
  rw [List.getD_eq_getElem?_getD, List.getElem?_map, List.getElem?_range h]; rfl
theorem FrQ_tail {x : Nat → Int} (h : errPg x = 0) : ((FrQ x).drop 200).any (fun d => d != 0) = false := by
  obtain ⟨p1, _, p3, _⟩ := packed27 h
  rw [List.any_eq_false]
  intro d hd
  obtain ⟨j, hj, rfl⟩ := List.mem_iff_getElem.1 hd
  rw [List.length_drop] at hj
  rw [List.getElem_drop]
  have h9 := p3 (200 + j) (by omega) (by omega)
  rw [List.getD_eq_getElem?_getD, List.getElem?_eq_getElem (by omega), Option.getD_some] at h9
  rw [h9]
  decide
theorem AlRead_back {x : Nat → Int} (h : errPg x = 0) (t : Int) (h0 : 0 ≤ t) (h1 : t < 131072) (v : Value) (w : World) (hw : WdAt w) (hv : RdI w v (FrQ x)) (hc : Capd v) :
    Calls Tryd.prog 25 #[.agg #[.int .i64 t, .int .i64 4, v]] w fun e w' => e = .returned (.tuple #[.agg (pgV x), .int .i64 0]) ∧ Bw w w' := by
  obtain ⟨a, c, rfl⟩ := hv.form
  obtain ⟨p1, p2, _, _⟩ := packed27 h
  have hcg := pgV_congr2 (x := fun i => ((List.range 13).map x).getD i 0) (y := x) (fun j hj => getD_map13 x j hj)
  have heg := errPg_congr (x := fun i => ((List.range 13).map x).getD i 0) (y := x) (fun j hj => getD_map13 x j hj)
  have h9 := AlRead_main t 4 (FrQ x) ((List.range 13).map x) 0 0 a c w hw (fun i => ((List.range 13).map x).getD i 0) (fun i => ((List.range 13).map x).getD i 0) 0 hv (hc _ _ _ rfl) p2 (fun i => rfl)
    (.inl ⟨⟨rfl, h0, h1, p1, rfl, heg.trans h, FrQ_tail h⟩, rfl, rfl⟩)
  rw [hcg] at h9
  exact h9
theorem eqA_self (x y z : Int) (w : World) : (Op.equalIn 10000 25 (.agg #[.int .i64 x, .int .i64 y, .int .i64 z]) (.agg #[.int .i64 x, .int .i64 y, .int .i64 z])).run Tryd.prog w = .ok true w := eqA3 9998 x y z w
theorem eqA_guard (x y : Array Value) (op : BinOp) (p q : Operand) (w : World) : (eqGuard op 25 p q (.agg x) (.agg y)).run Tryd.prog w = .ok () w := run_eqGuard_agg w op _ _ _ _ _ (by kernel_rfl)
theorem quiet_load {P : Program} {o : Oper} {a : Act} {C : World → Prop} {K : Act → Prop} (v : Value) (dst : Option Tmp) (hd : o.dst = dst) (hv : ∀ w, C w → (execOp a.eval o).run P w = .ok (.value v) w) (h : K (a.put dst v)) : o.quiet P a C K := by
  subst hd
  refine ⟨v, fun w hw => ?_, h⟩
  unfold Oper.quietAt Oper.quietUpon
  rw [hv w hw]
  exact ⟨rfl, rfl⟩
def plX27 : Nat → Int := fun i => [3, 600000, 100, 1000, 1, 2, 3, 0, 0, 0, 0, 0, 0].getD i 0
theorem pl27_ok : errPg plX27 = 0 := by kernel_rfl
theorem plain27_any (w : World) : Calls Tryd.prog 32 #[] w fun e w' => e = .returned (.agg (pgV plX27)) ∧ Bw w w' := by
  have KR := Lib.hid (Blk.new w 27 #[.int .i64 0, .int .i64 0, .int .i64 0, .int .i64 0, .int .i64 0, .int .i64 0, .int .i64 0, .int .i64 0, .int .i64 0, .int .i64 0, .int .i64 0, .int .i64 0, .int .i64 0])
  have HW := Lib.hid (Bw.alloc (Bw.refl w) (.cells #[.int .i64 0, .int .i64 0, .int .i64 0, .int .i64 0, .int .i64 0, .int .i64 0, .int .i64 0, .int .i64 0, .int .i64 0, .int .i64 0, .int .i64 0, .int .i64 0, .int .i64 0] 27))
  go_enter Tryd.func32, Tryd.ntmps32
  go_wp2_with ((with_reducible refine at_store 27 (.tmp 0) (.tmp 2) ?_); refine wpList_store_row rfl 27 (.tmp 0) (.tmp 2) rfl w.heap.size (pgV plX27) rfl rfl 27 _ KR.out (by kernel_rfl) rfl (by simp [Value.oneCell', pgV]) ?_)
  refine bodyPost_ret (v := .agg (pgV plX27)) ?_ rfl ⟨rfl, Bw.setRow HW.out (Nat.le_refl _) _⟩
  exact results_cell_row (p := 0) rfl _ _ w.heap.size _ _ (0, 0) _ rfl (KR.out.row _) Tryd.underlying27 rfl (by kernel_rfl)
theorem stands27_any (t x : Int) (h1 : errTm plX27 t = 0) (h2 : t3V (atP plX27 t) = #[.int .i64 x, .int .i64 0, .int .i64 0]) (w : World) (hw : WdAt w) : Calls Tryd.prog 30 #[.int .i64 t, .int .i64 x] w fun e w' => e = .returned (.bool true) ∧ Bw w w' := by
  have HWD := Lib.hid hw
  have PLN := Lib.hid (fun W => plain27_any W)
  have PS := Lib.hid (fun W h => AlAt_any plX27 t W h)
  rw [h1, h2] at PS
  have hq := fun x y z W => eqA_self x y z W
  have hg := fun W a b op p q => eqA_guard a b op p q W
  obtain ⟨A, hA⟩ : ∃ A, A = pgV plX27 := ⟨_, rfl⟩
  rw [← hA] at PLN PS
  clear hA h1 h2 hw
  have HW := Lib.hid (Bw.refl w)
  go_enter Tryd.func30, Tryd.ntmps30
  go_wp2_with (first | (go_at_call 32; (with_reducible refine Calls.mono (PLN.out _) ?_); rintro e1 w1 ⟨rfl, hb1⟩; replace HW := Lib.hid (HW.out.trans hb1); clear hb1) | (go_at_call 18; (with_reducible refine Calls.mono (PS.out _ (HWD.out.bw HW.out)) ?_); rintro e1 w2 ⟨rfl, hb1⟩; replace HW := Lib.hid (HW.out.trans hb1); clear hb1))
  go_ret
  exact ⟨rfl, HW.out.trans (Bw.alloc (Bw.refl _) _)⟩
theorem bound27_any (t x : Int) (h1 : errTm plX27 t = 0) (h2 : bdP plX27 t = x) (w : World) (hw : WdAt w) : Calls Tryd.prog 31 #[.int .i64 t, .int .i64 x] w fun e w' => e = .returned (.bool true) ∧ Bw w w' := by
  have HWD := Lib.hid hw
  have PLN := Lib.hid (fun W => plain27_any W)
  have PS := Lib.hid (fun W h => AlError_any plX27 t W h)
  rw [h1, h2] at PS
  obtain ⟨A, hA⟩ : ∃ A, A = pgV plX27 := ⟨_, rfl⟩
  rw [← hA] at PLN PS
  clear hA h1 h2 hw
  have HW := Lib.hid (Bw.refl w)
  go_enter Tryd.func31, Tryd.ntmps31
  go_wp2_with (first | (go_at_call 32; (with_reducible refine Calls.mono (PLN.out _) ?_); rintro e1 w1 ⟨rfl, hb1⟩; replace HW := Lib.hid (HW.out.trans hb1); clear hb1) | (go_at_call 20; (with_reducible refine Calls.mono (PS.out _ (HWD.out.bw HW.out)) ?_); rintro e1 w2 ⟨rfl, hb1⟩; replace HW := Lib.hid (HW.out.trans hb1); clear hb1))
  go_ret
  exact ⟨rfl, HW.out⟩
theorem pl27_s : errTm plX27 600010 = 0 := by kernel_rfl
theorem pl27_sv : t3V (atP plX27 600010) = #[.int .i64 84, .int .i64 0, .int .i64 0] := by kernel_rfl
theorem pl27_b : errTm plX27 600001 = 0 := by kernel_rfl
theorem pl27_bv : bdP plX27 600001 = 101 := by kernel_rfl
theorem awake27_any (w : World) (hw : WdAt w) : Calls Tryd.prog 15 #[] w fun e w' => e = .returned (.bool true) ∧ Bw w w' := by
  have HWD := Lib.hid hw
  have PLN := Lib.hid (fun W => plain27_any W)
  have FO := Lib.hid (fun W h => AlFrame_ok plX27 9 W h pl27_ok (by decide))
  have RB := Lib.hid (fun W v h hv hc => AlRead_back pl27_ok 9 (by decide) (by decide) v W h hv hc)
  have S1 := Lib.hid (fun W h => stands27_any 600010 84 pl27_s pl27_sv W h)
  have B1 := Lib.hid (fun W h => bound27_any 600001 101 pl27_b pl27_bv W h)
  unfold FrP at FO
  have HLQ := Lib.hid (packed27 pl27_ok).1
  rw [show (packR 206 (fdsS PGL) ((List.range 13).map plX27)).1 = FrQ plX27 from rfl] at FO
  generalize FrQ plX27 = L at *
  have HQ := Lib.hid (fun W => eqPg_self plX27 W)
  have hg := fun W a b op p q => eqPg_guard a b op p q W
  have HSZ : Hid ((Tryd.prog.info? 27).map (·.size) = some (pgV plX27).size) := Lib.hid (by kernel_rfl)
  have HPX : Hid ((pgV plX27).all (·.oneCell') = true) := Lib.hid (by simp [Value.oneCell', pgV])
  have HN13 : Hid ((#[.int .i64 0, .int .i64 0, .int .i64 0, .int .i64 0, .int .i64 0, .int .i64 0, .int .i64 0, .int .i64 0, .int .i64 0, .int .i64 0, .int .i64 0, .int .i64 0, .int .i64 0] : Array Value).size = (pgV plX27).size) := Lib.hid rfl
  obtain ⟨A, hA⟩ : ∃ A, A = pgV plX27 := ⟨_, rfl⟩
  rw [← hA] at PLN FO RB HQ HSZ HPX HN13
  clear hA hw
  have HW := Lib.hid (Bw.refl w)
  go_enter Tryd.func15, Tryd.ntmps15
  go_upto_region 2 with (first | (go_at_call 32; (with_reducible refine Calls.mono (PLN.out _) ?_); rintro e1 w1 ⟨rfl, hb1⟩; replace HW := Lib.hid (HW.out.trans hb1); clear hb1) | (go_at_call 16; (with_reducible refine Calls.mono (FO.out _ (HWD.out.bw HW.out)) ?_); rintro e1 w2 ⟨⟨v2, rfl, hrd, hfr, hcd⟩, hb1⟩; obtain ⟨va, vc, rfl⟩ := hrd.form; have HRD := Lib.hid (And.intro hrd hcd); replace HW := Lib.hid (HW.out.trans hb1); clear hb1 hrd hfr hcd) | ((with_reducible refine at_store 40 (.tmp 1) (.tmp 8) ?_); refine wpList_store_row rfl 40 (.tmp 1) (.tmp 8) rfl w2.heap.size #[.int .i64 9, .int .i64 4, .slice va L.length vc] rfl rfl 40 #[.int .i64 0, .int .i64 0, .slice none 0 0] (Blk.new w2 40 #[.int .i64 0, .int .i64 0, .slice none 0 0]) (by kernel_rfl) (by simp) (by simp [Value.oneCell']) ?_))
  obtain ⟨g1, hg1⟩ : ∃ g1, w2.heap.size = g1 := ⟨_, rfl⟩
  have hb1 := Bw.setRow (Bw.alloc (Bw.refl w2) (.cells #[.int .i64 0, .int .i64 0, .slice none 0 0] 40)) (Nat.le_of_eq hg1) #[.int .i64 9, .int .i64 4, .slice va L.length vc]
  have K1 := Lib.hid ((Blk.new w2 40 #[.int .i64 0, .int .i64 0, .slice none 0 0]).row #[.int .i64 9, .int .i64 4, .slice va L.length vc])
  rw [hg1] at K1 ⊢
  replace HRD := Lib.hid (And.intro (HRD.out.1.mono hb1) HRD.out.2)
  replace HW := Lib.hid (HW.out.trans hb1)
  clear hb1
  generalize World.setRow (World.alloc w2 _) _ _ = z2 at *
  clear hg1
  have a0 := K1.out.cell (show (#[.int .i64 9, .int .i64 4, .slice va L.length vc] : Array Value)[0]? = _ from rfl)
  have a1 := K1.out.cell (show (#[.int .i64 9, .int .i64 4, .slice va L.length vc] : Array Value)[1]? = _ from rfl)
  have a2 := K1.out.cell (show (#[.int .i64 9, .int .i64 4, .slice va L.length vc] : Array Value)[2]? = _ from rfl)
  go_upto_region 3 with (first | (go_at_call 25; (with_reducible refine Calls.mono (RB.out _ _ (HWD.out.bw HW.out) HRD.out.1 HRD.out.2) ?_); rintro e1 w3 ⟨rfl, hb1⟩; replace K1 := Lib.hid (K1.out.bw hb1); replace HW := Lib.hid (HW.out.trans hb1); clear hb1) | ((with_reducible refine at_store 27 (.tmp 3) (.tmp 13) ?_); refine wpList_store_row rfl 27 (.tmp 3) (.tmp 13) rfl w3.heap.size A rfl rfl 27 #[.int .i64 0, .int .i64 0, .int .i64 0, .int .i64 0, .int .i64 0, .int .i64 0, .int .i64 0, .int .i64 0, .int .i64 0, .int .i64 0, .int .i64 0, .int .i64 0, .int .i64 0] (Blk.new w3 27 #[.int .i64 0, .int .i64 0, .int .i64 0, .int .i64 0, .int .i64 0, .int .i64 0, .int .i64 0, .int .i64 0, .int .i64 0, .int .i64 0, .int .i64 0, .int .i64 0, .int .i64 0]) HSZ.out HN13.out HPX.out ?_))
  obtain ⟨g3, hg1⟩ : ∃ g3, w3.heap.size = g3 := ⟨_, rfl⟩
  have hb1 := Bw.setRow (Bw.alloc (Bw.refl w3) (.cells #[.int .i64 0, .int .i64 0, .int .i64 0, .int .i64 0, .int .i64 0, .int .i64 0, .int .i64 0, .int .i64 0, .int .i64 0, .int .i64 0, .int .i64 0, .int .i64 0, .int .i64 0] 27)) (Nat.le_of_eq hg1) A
  have K3 := Lib.hid ((Blk.new w3 27 #[.int .i64 0, .int .i64 0, .int .i64 0, .int .i64 0, .int .i64 0, .int .i64 0, .int .i64 0, .int .i64 0, .int .i64 0, .int .i64 0, .int .i64 0, .int .i64 0, .int .i64 0]).row A)
  rw [hg1] at K3 ⊢
  replace K1 := Lib.hid (K1.out.bw hb1)
  replace HW := Lib.hid (HW.out.trans hb1)
  clear hb1 a0 a1 a2
  generalize World.setRow (World.alloc w3 _) _ _ = z3 at *
  clear hg1
  have a0 := K1.out.cell (show (#[.int .i64 9, .int .i64 4, .slice va L.length vc] : Array Value)[0]? = _ from rfl)
  have a1 := K1.out.cell (show (#[.int .i64 9, .int .i64 4, .slice va L.length vc] : Array Value)[1]? = _ from rfl)
  have e0 := fun p' : Ext z3 => Ext.cell' a0 p'
  have e1 := fun p' : Ext z3 => Ext.cell' a1 p'
  have hq2 := HQ.out
  have HWD3 := Lib.hid (HWD.out.bw HW.out)
  clear a0 a1
  refine wp_region_quiet_ext (by kernel_rfl) (by kernel_rfl) ?_
  (repeat (go_big_quiet_step (fail)))
  go_big_quiet_want
  refine quiet_load (.agg A) (some 28) rfl (fun W hW => ?_) ?_
  · obtain ⟨p, rfl⟩ := hW
    exact run_load_row 27 _ rfl g3 rfl 27 A _ (K3.out.bw p.b) Tryd.underlying27 rfl HSZ.out
  simp only [Act.put, List.setIfInBounds_toArray, List.set_cons_zero, List.set_cons_succ]
  go_big_quiet_on
  (repeat (go_big_quiet_step (first | (go_at_call 32; with_reducible refine Calls.ext_of (PLN.out _)) | (go_at_call 30; with_reducible refine Calls.ext_of (S1.out _ (HWD3.out.bw (Ext.b _)))) | (go_at_call 31; with_reducible refine Calls.ext_of (B1.out _ (HWD3.out.bw (Ext.b _)))))))
  refine wpQuiet_nil ?_
  rintro wq ⟨⟨_, hbq⟩, rfl⟩
  go_wp2
  go_ret
  exact ⟨rfl, HW.out.trans hbq⟩
end Go.Proofs.Sky

namespace Go.Proofs.Sky
open Go Go.RowKit Go.Shelf
set_option maxHeartbeats 4000000
set_option maxRecDepth 4000
/-! chapter 27, plain: which page any frame is -/
def rv27 (zs : List Int) (i : Nat) : Int := if 3 < i ∧ zs.getD (atN i) 0 = 1 then getN zs (atN i) (nN i) - 2 ^ nN i else getN zs (atN i) (nN i)
theorem getN_head (zs : List Int) (a : Nat) : ∀ k, getN zs a (k + 1) = zs.getD a 0 * 2 ^ k + getN zs (a + 1) k := by
  intro k
  induction k with
  | zero => simp [getN]
  | succ k ih =>
    rw [getN, ih]
    show _ = _ * 2 ^ (k + 1) + (2 * getN zs (a + 1) k + zs.getD (a + 1 + k) 0)
    rw [show a + (k + 1) = a + 1 + k by omega, Int.pow_succ, ← Int.mul_assoc]
    omega
theorem rv27_get (zs : List Int) (i : Nat) (hi : i < 13) (hl : 200 ≤ zs.length) (hb : ∀ p, p < 200 → zs.getD p 0 = 0 ∨ zs.getD p 0 = 1) :
    errT zs (fdS PGL i).a (fdS PGL i).n (fdS PGL i).u (fdS PGL i).c = 0 ∧ getR zs (fdS PGL i).a (fdS PGL i).n (fdS PGL i).g (fdS PGL i).u (fdS PGL i).c = rv27 zs i := by
  have hA := nN_bd i hi
  rw [fdS_at hi]
  dsimp only
  have hfk : fk (atN i : Int) (nN i : Int) 1 0 := by unfold fk; omega
  have hE : errT zs (atN i : Int) (nN i : Int) 1 0 = 0 := by
    unfold errT
    rw [errF_ok hfk, if_pos rfl, if_neg (by omega), if_pos ((oksP_iff _ _ _).2 (fun j hj => ?_))]
    exact hb _ (by omega)
  refine ⟨hE, ?_⟩
  unfold getR
  rw [if_pos hE]
  unfold getV rv27
  rw [Int.toNat_natCast, Int.toNat_natCast, Int.mul_one, Int.zero_add]
  by_cases h7 : 3 < i
  · obtain ⟨m, hm⟩ : ∃ m, nN i = m + 1 := ⟨nN i - 1, by omega⟩
    have e2 := getN_head zs (atN i) m
    have hbd := getN_bd zs (atN i + 1) m (fun j hj => hb _ (by omega))
    have h0 := hb (atN i) (by omega)
    rw [hm]
    simp only [h7, decide_true, sgnV, if_true, true_and]
    unfold sx
    rw [show m + 1 - 1 = m from rfl]
    have e4 : (2 : Int) ^ (m + 1) = 2 * 2 ^ m := by rw [Int.pow_succ, Int.mul_comm]
    rw [e4]
    generalize (2 : Int) ^ m = P at *
    rcases h0 with h0 | h0
    · rw [h0] at e2 ⊢
      rw [if_neg (show ¬ ((0 : Int) = 1) by decide)]
      split <;> omega
    · rw [h0] at e2 ⊢
      rw [if_pos (show (1 : Int) = 1 from rfl)]
      split <;> omega
  · simp only [h7, decide_false, sgnV, Bool.false_eq_true, if_false, false_and]
theorem unR_zero (zs : List Int) : ∀ (fs : List Fd) (i : Nat) (out : List Int), (unR i zs out fs).2.1 = 0 → ∀ f ∈ fs, errT zs f.a f.n f.u f.c = 0 := by
  intro fs
  induction fs with
  | nil => intro i out _ f hf; cases hf
  | cons f r ih =>
    intro i out h g hg
    rw [unR] at h
    by_cases he : errT zs f.a f.n f.u f.c = 0
    · rw [if_pos he] at h
      rcases List.mem_cons.1 hg with rfl | hg
      · exact he
      · exact ih _ _ h g hg
    · rw [if_neg he] at h
      exact absurd h he
def rdGood27 (t k : Int) (zs : List Int) : Prop := k = 4 ∧ 0 ≤ t ∧ t < 131072 ∧ zs.length = 206 ∧ (∀ p, p < 206 → zs.getD p 0 = 0 ∨ (zs.getD p 0 = 1 ∧ p < 200)) ∧ errPg (rv27 zs) = 0
theorem layout27 : layout (fdsS PGL) 206 = (0, 0) := by decide +kernel
theorem unpack27 (zs : List Int) (hl : zs.length = 206) (hb : ∀ p, p < 200 → zs.getD p 0 = 0 ∨ zs.getD p 0 = 1) : unpackR (fdsS PGL) zs = ((List.range 13).map (rv27 zs), (0, 0)) := by
  have h := unR_ok zs (ps27 (rv27 zs)) 0 [] (fun p hp => by
    obtain ⟨i, hi, rfl⟩ := List.mem_map.1 hp
    have hi9 := List.mem_range.1 hi
    have h9 := rv27_get zs i hi9 (by omega) hb
    refine ⟨h9.1, ?_⟩
    rw [h9.2]
    show rv27 zs i = (0 : Int) + rv27 zs i * 1
    omega)
  rw [fs27_eq, vs27_eq, List.nil_append] at h
  unfold unpackR
  rw [hl, show layout (fdsS PGL) ((206 : Nat) : Int) = (0, 0) from layout27, if_pos rfl, h]
theorem at_find : ∀ p, p < 200 → ∃ i, i < 13 ∧ atN i ≤ p ∧ p < atN i + nN i := by decide +kernel
theorem rdOk27_iff (t k : Int) (zs : List Int) : RdOk27 t k zs (unpackR (fdsS PGL) zs).1 (unpackR (fdsS PGL) zs).2.1 (fun i => (unpackR (fdsS PGL) zs).1.getD i 0) ↔ rdGood27 t k zs := by
  unfold RdOk27 rdGood27
  constructor
  · rintro ⟨h1, h2, h3, h4, h5, h6, h7⟩
    have hz : ∀ f ∈ fdsS PGL, errT zs f.a f.n f.u f.c = 0 := by
      unfold unpackR at h5
      rw [h4, show layout (fdsS PGL) ((206 : Nat) : Int) = (0, 0) from layout27, if_pos rfl] at h5
      exact unR_zero zs (fdsS PGL) 0 [] h5
    have hb : ∀ p, p < 200 → zs.getD p 0 = 0 ∨ zs.getD p 0 = 1 := fun p hp => by
      obtain ⟨i, hi, h8, h9⟩ := at_find p hp
      have hm : fdS PGL i ∈ fdsS PGL := List.mem_map.2 ⟨i, List.mem_range.2 hi, rfl⟩
      have he := hz _ hm
      have hA := nN_bd i hi
      rw [fdS_at hi] at he
      dsimp only at he
      have hfk : fk (atN i : Int) (nN i : Int) 1 0 := by unfold fk; omega
      unfold errT at he
      rw [errF_ok hfk, if_pos rfl, if_neg (by omega)] at he
      cases hq : oksP zs (atN i : Int).toNat (nN i : Int).toNat with
      | false => rw [hq] at he; exact absurd he (by decide)
      | true =>
        have h10 := (oksP_iff _ _ _).1 hq (p - atN i) (by omega)
        rw [Int.toNat_natCast, show atN i + (p - atN i) = p by omega] at h10
        exact h10
    rw [unpack27 zs h4 hb] at h6
    dsimp only at h6
    rw [errPg_congr (fun i hi => getD_map13 (rv27 zs) i hi)] at h6
    refine ⟨h1, h2, h3, h4, fun p hp => ?_, h6⟩
    rcases Nat.lt_or_ge p 200 with h | h
    · rcases hb p h with h8 | h8
      · exact .inl h8
      · exact .inr ⟨h8, h⟩
    · left
      have h12 := List.any_eq_false.1 h7 (zs.getD p 0) (by
        rw [List.getD_eq_getElem?_getD, List.getElem?_eq_getElem (by omega), Option.getD_some]
        exact List.mem_iff_getElem.2 ⟨p - 200, by rw [List.length_drop]; omega, by rw [List.getElem_drop]; congr 1; omega⟩)
      simpa using h12
  · rintro ⟨h1, h2, h3, h4, h5, h6⟩
    have hb : ∀ p, p < 200 → zs.getD p 0 = 0 ∨ zs.getD p 0 = 1 := fun p hp => (h5 p (by omega)).imp id (·.1)
    rw [unpack27 zs h4 hb]
    refine ⟨h1, h2, h3, h4, rfl, ?_, ?_⟩
    · dsimp only
      rw [errPg_congr (fun i hi => getD_map13 (rv27 zs) i hi)]; exact h6
    · rw [List.any_eq_false]
      intro d hd
      obtain ⟨j, hj, rfl⟩ := List.mem_iff_getElem.1 hd
      rw [List.length_drop] at hj
      rw [List.getElem_drop]
      have h9 := h5 (200 + j) (by omega)
      rw [List.getD_eq_getElem?_getD, List.getElem?_eq_getElem (by omega), Option.getD_some] at h9
      rcases h9 with h9 | h9
      · rw [h9]; decide
      · omega
theorem AlRead_any (t k : Int) (zs : List Int) (a : Option Addr) (c : Nat) (w : World) (hw : WdAt w) (RX : Nat → Int) (RE : Int) (h : (rdGood27 t k zs ∧ RX = rv27 zs ∧ RE = 0) ∨ (¬ rdGood27 t k zs ∧ RX = (fun _ => 0) ∧ RE = 3)) (hv : RdI w (.slice a zs.length c) zs) (hc : zs.length ≤ c ∧ c ≤ 9223372036854775807) :
    Calls Tryd.prog 25 #[.agg #[.int .i64 t, .int .i64 k, .slice a zs.length c]] w fun e w' => e = .returned (.tuple #[.agg (pgV RX), .int .i64 RE]) ∧ Bw w w' := by
  rcases h with ⟨h, rfl, rfl⟩ | ⟨h, rfl, rfl⟩
  · have h9 := AlRead_main t k zs (unpackR (fdsS PGL) zs).1 (unpackR (fdsS PGL) zs).2.1 (unpackR (fdsS PGL) zs).2.2 a c w hw (fun i => (unpackR (fdsS PGL) zs).1.getD i 0) (fun i => (unpackR (fdsS PGL) zs).1.getD i 0) 0 hv hc rfl (fun _ => rfl) (.inl ⟨(rdOk27_iff t k zs).2 h, rfl, rfl⟩)
    rw [pgV_congr2 (y := rv27 zs) (fun i hi => by rw [unpack27 zs h.2.2.2.1 (fun p hp => (h.2.2.2.2.1 p (by omega)).imp id (·.1))]; exact getD_map13 (rv27 zs) i hi)] at h9
    exact h9
  · exact AlRead_main t k zs (unpackR (fdsS PGL) zs).1 (unpackR (fdsS PGL) zs).2.1 (unpackR (fdsS PGL) zs).2.2 a c w hw (fun i => (unpackR (fdsS PGL) zs).1.getD i 0) (fun _ => 0) 3 hv hc rfl (fun _ => rfl) (.inr ⟨fun h2 => h ((rdOk27_iff t k zs).1 h2), rfl, rfl⟩)
end Go.Proofs.Sky
