/-
  lemmas for the theorems of this claim. No conditions beyond those written in the statements.
-/
import Derived.Test.YtcmjcobhobfloaaDoorBB28
import Derived.Laws.StructEq
import Derived.Test.YtcmjcobhobfloaaDoorD27
import Derived.Deep.Cut
set_option linter.unusedVariables false
set_option linter.unusedSimpArgs false
set_option linter.unnecessarySimpa false
namespace Go.Proofs.Sky
open Go Go.RowKit Go.Shelf
set_option maxHeartbeats 4000000
set_option maxRecDepth 8000
/-! equal pages -/
theorem eqA3 (d : Nat) (a b c : Int) (w : World) : (Op.equalIn (d + 2) 25 (.agg #[.int .i64 a, .int .i64 b, .int .i64 c]) (.agg #[.int .i64 a, .int .i64 b, .int .i64 c])).run Tryd.prog w = .ok true w := by
  have hu : Tryd.prog.underlying 25 = some (.array 3 3) := by kernel_rfl
  have hi : Tryd.prog.underlying 3 = some (.int .i64) := by kernel_rfl
  have hs : ∀ w, (sizeOf 3).run Tryd.prog w = .ok 1 w := fun w => by kernel_rfl
  simp [Op.equalIn, run_underlying hu, run_underlying hi, hs, go_sem, part, Std.Legacy.Range.forIn_eq_forIn_range', Std.Legacy.Range.size, List.range'_succ, List.range'_zero, List.forIn_cons, List.forIn_nil]
theorem eqPg_self (x : Nat → Int) (w : World) : (Op.equalIn 10000 27 (.agg (pgV x)) (.agg (pgV x))).run Tryd.prog w = .ok true w := by
  unfold pgV
  generalize x 0 = a0, x 1 = a1, x 2 = a2, x 3 = a3, x 4 = a4, x 5 = a5, x 6 = a6, x 7 = a7, x 8 = a8, x 9 = a9, x 10 = a10, x 11 = a11, x 12 = a12
  rw [show (10000 : Nat) = 9998 + 1 + 1 from rfl, run_equalIn_agg _ _ _ _ _ (by kernel_rfl) (by kernel_rfl)]
  simp only [Program.fieldsOf, Tryd.underlying27]
  have h3 : ∀ w, (sizeOf 25).run Tryd.prog w = .ok 3 w := fun w => by kernel_rfl
  have h1 : ∀ w, (sizeOf 3).run Tryd.prog w = .ok 1 w := fun w => by kernel_rfl
  have i3 : Tryd.prog.underlying 25 = some (.array 3 3) := by kernel_rfl
  have hi : Tryd.prog.underlying 3 = some (.int .i64) := by kernel_rfl
  have q3 := fun d => eqA3 d
  simp [Op.eqFields, part, h3, h1, go_sem, run_underlying i3, run_underlying hi, q3 9997, run_equalIn_int _ _ _ _ _ _ _ hi]
theorem eqPg_guard (x y : Array Value) (op : BinOp) (p q : Operand) (w : World) : (eqGuard op 27 p q (.agg x) (.agg y)).run Tryd.prog w = .ok () w := run_eqGuard_agg w op _ _ _ _ _ (by kernel_rfl)
end Go.Proofs.Sky

namespace Go.Proofs.Sky
open Go Go.RowKit Go.Shelf
set_option maxHeartbeats 4000000
set_option maxRecDepth 8000
/-! chapter 27: a page read from its frame; the examples -/
theorem errPg_congr {x y : Nat → Int} (h : ∀ i, i < 13 → x i = y i) : errPg x = errPg y := by
  have e : inPg x = inPg y := by
    rw [inPg_eq, inPg_eq]
    unfold okT
    dsimp only
    rw [h 0 (by omega), h 1 (by omega), h 2 (by omega), h 3 (by omega), h 4 (by omega), h 5 (by omega), h 6 (by omega), h 7 (by omega), h 8 (by omega), h 9 (by omega), h 10 (by omega), h 11 (by omega), h 12 (by omega)]
  unfold errPg
  rw [e, h 0 (by omega), h 1 (by omega)]
theorem getD_map13 (x : Nat → Int) (i : Nat) (h : i < 13) : ((List.range 13).map x).getD i 0 = x i := by
  rw [List.getD_eq_getElem?_getD, List.getElem?_map, List.getElem?_range h]; rfl
theorem FrQ_tail {x : Nat → Int} (h : errPg x = 0) : ((FrQ x).drop 200).any (fun d => d != 0) = false := by
  obtain ⟨p1, _, p3, _⟩ := packed27 h
  rw [List.any_eq_false]
  intro d hd
  obtain ⟨j, hj, rfl⟩ := List.mem_iff_getElem.1 hd
  rw [List.length_drop] at hj
  rw [List.getElem_drop]
  have h9 := p3 (200 + j) (by omega) (by omega)
  rw [List.getD_eq_getElem?_getD, List.getElem?_eq_getElem (by omega), Option.getD_some] at h9
  rw [h9]
  decide
theorem AlRead_back {x : Nat → Int} (h : errPg x = 0) (t : Int) (h0 : 0 ≤ t) (h1 : t < 131072) (v : Value) (w : World) (hw : WdAt w) (hv : RdI w v (FrQ x)) (hc : Capd v) :
    Calls Tryd.prog 25 #[.agg #[.int .i64 t, .int .i64 4, v]] w fun e w' => e = .returned (.tuple #[.agg (pgV x), .int .i64 0]) ∧ Bw w w' := by
  obtain ⟨a, c, rfl⟩ := hv.form
  obtain ⟨p1, p2, _, _⟩ := packed27 h
  have hcg := pgV_congr2 (x := fun i => ((List.range 13).map x).getD i 0) (y := x) (fun j hj => getD_map13 x j hj)
  have heg := errPg_congr (x := fun i => ((List.range 13).map x).getD i 0) (y := x) (fun j hj => getD_map13 x j hj)
  have h9 := AlRead_main t 4 (FrQ x) ((List.range 13).map x) 0 0 a c w hw (fun i => ((List.range 13).map x).getD i 0) (fun i => ((List.range 13).map x).getD i 0) 0 hv (hc _ _ _ rfl) p2 (fun i => rfl)
    (.inl ⟨⟨rfl, h0, h1, p1, rfl, heg.trans h, FrQ_tail h⟩, rfl, rfl⟩)
  rw [hcg] at h9
  exact h9
theorem eqA_self (x y z : Int) (w : World) : (Op.equalIn 10000 25 (.agg #[.int .i64 x, .int .i64 y, .int .i64 z]) (.agg #[.int .i64 x, .int .i64 y, .int .i64 z])).run Tryd.prog w = .ok true w := eqA3 9998 x y z w
theorem eqA_guard (x y : Array Value) (op : BinOp) (p q : Operand) (w : World) : (eqGuard op 25 p q (.agg x) (.agg y)).run Tryd.prog w = .ok () w := run_eqGuard_agg w op _ _ _ _ _ (by kernel_rfl)
theorem quiet_load {P : Program} {o : Oper} {a : Act} {C : World → Prop} {K : Act → Prop} (v : Value) (dst : Option Tmp) (hd : o.dst = dst) (hv : ∀ w, C w → (execOp a.eval o).run P w = .ok (.value v) w) (h : K (a.put dst v)) : o.quiet P a C K := by
  subst hd
  refine ⟨v, fun w hw => ?_, h⟩
  unfold Oper.quietAt Oper.quietUpon
  rw [hv w hw]
  exact ⟨rfl, rfl⟩
def plX27 : Nat → Int := fun i => [3, 600000, 100, 1000, 1, 2, 3, 0, 0, 0, 0, 0, 0].getD i 0
theorem pl27_ok : errPg plX27 = 0 := by kernel_rfl
theorem plain27_any (w : World) : Calls Tryd.prog 32 #[] w fun e w' => e = .returned (.agg (pgV plX27)) ∧ Bw w w' := by
  have KR := Lib.hid (Blk.new w 27 #[.int .i64 0, .int .i64 0, .int .i64 0, .int .i64 0, .int .i64 0, .int .i64 0, .int .i64 0, .int .i64 0, .int .i64 0, .int .i64 0, .int .i64 0, .int .i64 0, .int .i64 0])
  have HW := Lib.hid (Bw.alloc (Bw.refl w) (.cells #[.int .i64 0, .int .i64 0, .int .i64 0, .int .i64 0, .int .i64 0, .int .i64 0, .int .i64 0, .int .i64 0, .int .i64 0, .int .i64 0, .int .i64 0, .int .i64 0, .int .i64 0] 27))
  go_enter Tryd.func32, Tryd.ntmps32
  go_wp2_with ((with_reducible refine at_store 27 (.tmp 0) (.tmp 2) ?_); refine wpList_store_row rfl 27 (.tmp 0) (.tmp 2) rfl w.heap.size (pgV plX27) rfl rfl 27 _ KR.out (by kernel_rfl) rfl (by simp [Value.oneCell', pgV]) ?_)
  refine bodyPost_ret (v := .agg (pgV plX27)) ?_ rfl ⟨rfl, Bw.setRow HW.out (Nat.le_refl _) _⟩
  exact results_cell_row (p := 0) rfl _ _ w.heap.size _ _ (0, 0) _ rfl (KR.out.row _) Tryd.underlying27 rfl (by kernel_rfl)
theorem stands27_any (t x : Int) (h1 : errTm plX27 t = 0) (h2 : t3V (atP plX27 t) = #[.int .i64 x, .int .i64 0, .int .i64 0]) (w : World) (hw : WdAt w) : Calls Tryd.prog 30 #[.int .i64 t, .int .i64 x] w fun e w' => e = .returned (.bool true) ∧ Bw w w' := by
  have HWD := Lib.hid hw
  have PLN := Lib.hid (fun W => plain27_any W)
  have PS := Lib.hid (fun W h => AlAt_any plX27 t W h)
  rw [h1, h2] at PS
  have hq := fun x y z W => eqA_self x y z W
  have hg := fun W a b op p q => eqA_guard a b op p q W
  obtain ⟨A, hA⟩ : ∃ A, A = pgV plX27 := ⟨_, rfl⟩
  rw [← hA] at PLN PS
  clear hA h1 h2 hw
  have HW := Lib.hid (Bw.refl w)
  go_enter Tryd.func30, Tryd.ntmps30
  go_wp2_with (first | (go_at_call 32; (with_reducible refine Calls.mono (PLN.out _) ?_); rintro e1 w1 ⟨rfl, hb1⟩; replace HW := Lib.hid (HW.out.trans hb1); clear hb1) | (go_at_call 18; (with_reducible refine Calls.mono (PS.out _ (HWD.out.bw HW.out)) ?_); rintro e1 w2 ⟨rfl, hb1⟩; replace HW := Lib.hid (HW.out.trans hb1); clear hb1))
  go_ret
  exact ⟨rfl, HW.out.trans (Bw.alloc (Bw.refl _) _)⟩
theorem bound27_any (t x : Int) (h1 : errTm plX27 t = 0) (h2 : bdP plX27 t = x) (w : World) (hw : WdAt w) : Calls Tryd.prog 31 #[.int .i64 t, .int .i64 x] w fun e w' => e = .returned (.bool true) ∧ Bw w w' := by
  have HWD := Lib.hid hw
  have PLN := Lib.hid (fun W => plain27_any W)
  have PS := Lib.hid (fun W h => AlError_any plX27 t W h)
  rw [h1, h2] at PS
  obtain ⟨A, hA⟩ : ∃ A, A = pgV plX27 := ⟨_, rfl⟩
  rw [← hA] at PLN PS
  clear hA h1 h2 hw
  have HW := Lib.hid (Bw.refl w)
  go_enter Tryd.func31, Tryd.ntmps31
  go_wp2_with (first | (go_at_call 32; (with_reducible refine Calls.mono (PLN.out _) ?_); rintro e1 w1 ⟨rfl, hb1⟩; replace HW := Lib.hid (HW.out.trans hb1); clear hb1) | (go_at_call 20; (with_reducible refine Calls.mono (PS.out _ (HWD.out.bw HW.out)) ?_); rintro e1 w2 ⟨rfl, hb1⟩; replace HW := Lib.hid (HW.out.trans hb1); clear hb1))
  go_ret
  exact ⟨rfl, HW.out⟩
theorem pl27_s : errTm plX27 600010 = 0 := by kernel_rfl
theorem pl27_sv : t3V (atP plX27 600010) = #[.int .i64 84, .int .i64 0, .int .i64 0] := by kernel_rfl
theorem pl27_b : errTm plX27 600001 = 0 := by kernel_rfl
theorem pl27_bv : bdP plX27 600001 = 101 := by kernel_rfl
theorem awake27_any (w : World) (hw : WdAt w) : Calls Tryd.prog 15 #[] w fun e w' => e = .returned (.bool true) ∧ Bw w w' := by
  have HWD := Lib.hid hw
  have PLN := Lib.hid (fun W => plain27_any W)
  have FO := Lib.hid (fun W h => AlFrame_ok plX27 9 W h pl27_ok (by decide))
  have RB := Lib.hid (fun W v h hv hc => AlRead_back pl27_ok 9 (by decide) (by decide) v W h hv hc)
  have S1 := Lib.hid (fun W h => stands27_any 600010 84 pl27_s pl27_sv W h)
  have B1 := Lib.hid (fun W h => bound27_any 600001 101 pl27_b pl27_bv W h)
  unfold FrP at FO
  have HLQ := Lib.hid (packed27 pl27_ok).1
  rw [show (packR 206 (fdsS PGL) ((List.range 13).map plX27)).1 = FrQ plX27 from rfl] at FO
  generalize FrQ plX27 = L at *
  have HQ := Lib.hid (fun W => eqPg_self plX27 W)
  have hg := fun W a b op p q => eqPg_guard a b op p q W
  have HSZ : Hid ((Tryd.prog.info? 27).map (·.size) = some (pgV plX27).size) := Lib.hid (by kernel_rfl)
  have HPX : Hid ((pgV plX27).all (·.oneCell') = true) := Lib.hid (by simp [Value.oneCell', pgV])
  have HN13 : Hid ((#[.int .i64 0, .int .i64 0, .int .i64 0, .int .i64 0, .int .i64 0, .int .i64 0, .int .i64 0, .int .i64 0, .int .i64 0, .int .i64 0, .int .i64 0, .int .i64 0, .int .i64 0] : Array Value).size = (pgV plX27).size) := Lib.hid rfl
  obtain ⟨A, hA⟩ : ∃ A, A = pgV plX27 := ⟨_, rfl⟩
  rw [← hA] at PLN FO RB HQ HSZ HPX HN13
  clear hA hw
  have HW := Lib.hid (Bw.refl w)
  go_enter Tryd.func15, Tryd.ntmps15
  go_upto_region 2 with (first | (go_at_call 32; (with_reducible refine Calls.mono (PLN.out _) ?_); rintro e1 w1 ⟨rfl, hb1⟩; replace HW := Lib.hid (HW.out.trans hb1); clear hb1) | (go_at_call 16; (with_reducible refine Calls.mono (FO.out _ (HWD.out.bw HW.out)) ?_); rintro e1 w2 ⟨⟨v2, rfl, hrd, hfr, hcd⟩, hb1⟩; obtain ⟨va, vc, rfl⟩ := hrd.form; have HRD := Lib.hid (And.intro hrd hcd); replace HW := Lib.hid (HW.out.trans hb1); clear hb1 hrd hfr hcd) | ((with_reducible refine at_store 40 (.tmp 1) (.tmp 8) ?_); refine wpList_store_row rfl 40 (.tmp 1) (.tmp 8) rfl w2.heap.size #[.int .i64 9, .int .i64 4, .slice va L.length vc] rfl rfl 40 #[.int .i64 0, .int .i64 0, .slice none 0 0] (Blk.new w2 40 #[.int .i64 0, .int .i64 0, .slice none 0 0]) (by kernel_rfl) (by simp) (by simp [Value.oneCell']) ?_))
  obtain ⟨g1, hg1⟩ : ∃ g1, w2.heap.size = g1 := ⟨_, rfl⟩
  have hb1 := Bw.setRow (Bw.alloc (Bw.refl w2) (.cells #[.int .i64 0, .int .i64 0, .slice none 0 0] 40)) (Nat.le_of_eq hg1) #[.int .i64 9, .int .i64 4, .slice va L.length vc]
  have K1 := Lib.hid ((Blk.new w2 40 #[.int .i64 0, .int .i64 0, .slice none 0 0]).row #[.int .i64 9, .int .i64 4, .slice va L.length vc])
  rw [hg1] at K1 ⊢
  replace HRD := Lib.hid (And.intro (HRD.out.1.mono hb1) HRD.out.2)
  replace HW := Lib.hid (HW.out.trans hb1)
  clear hb1
  generalize World.setRow (World.alloc w2 _) _ _ = z2 at *
  clear hg1
  have a0 := K1.out.cell (show (#[.int .i64 9, .int .i64 4, .slice va L.length vc] : Array Value)[0]? = _ from rfl)
  have a1 := K1.out.cell (show (#[.int .i64 9, .int .i64 4, .slice va L.length vc] : Array Value)[1]? = _ from rfl)
  have a2 := K1.out.cell (show (#[.int .i64 9, .int .i64 4, .slice va L.length vc] : Array Value)[2]? = _ from rfl)
  go_upto_region 3 with (first | (go_at_call 25; (with_reducible refine Calls.mono (RB.out _ _ (HWD.out.bw HW.out) HRD.out.1 HRD.out.2) ?_); rintro e1 w3 ⟨rfl, hb1⟩; replace K1 := Lib.hid (K1.out.bw hb1); replace HW := Lib.hid (HW.out.trans hb1); clear hb1) | ((with_reducible refine at_store 27 (.tmp 3) (.tmp 13) ?_); refine wpList_store_row rfl 27 (.tmp 3) (.tmp 13) rfl w3.heap.size A rfl rfl 27 #[.int .i64 0, .int .i64 0, .int .i64 0, .int .i64 0, .int .i64 0, .int .i64 0, .int .i64 0, .int .i64 0, .int .i64 0, .int .i64 0, .int .i64 0, .int .i64 0, .int .i64 0] (Blk.new w3 27 #[.int .i64 0, .int .i64 0, .int .i64 0, .int .i64 0, .int .i64 0, .int .i64 0, .int .i64 0, .int .i64 0, .int .i64 0, .int .i64 0, .int .i64 0, .int .i64 0, .int .i64 0]) HSZ.out HN13.out HPX.out ?_))
  obtain ⟨g3, hg1⟩ : ∃ g3, w3.heap.size = g3 := ⟨_, rfl⟩
  have hb1 := Bw.setRow (Bw.alloc (Bw.refl w3) (.cells #[.int .i64 0, .int .i64 0, .int .i64 0, .int .i64 0, .int .i64 0, .int .i64 0, .int .i64 0, .int .i64 0, .int .i64 0, .int .i64 0, .int .i64 0, .int .i64 0, .int .i64 0] 27)) (Nat.le_of_eq hg1) A
  have K3 := Lib.hid ((Blk.new w3 27 #[.int .i64 0, .int .i64 0, .int .i64 0, .int .i64 0, .int .i64 0, .int .i64 0, .int .i64 0, .int .i64 0, .int .i64 0, .int .i64 0, .int .i64 0, .int .i64 0, .int .i64 0]).row A)
  rw [hg1] at K3 ⊢
  replace K1 := Lib.hid (K1.out.bw hb1)
  replace HW := Lib.hid (HW.out.trans hb1)
  clear hb1 a0 a1 a2
  generalize World.setRow (World.alloc w3 _) _ _ = z3 at *
  clear hg1
  have a0 := K1.out.cell (show (#[.int .i64 9, .int .i64 4, .slice va L.length vc] : Array Value)[0]? = _ from rfl)
  have a1 := K1.out.cell (show (#[.int .i64 9, .int .i64 4, .slice va L.length vc] : Array Value)[1]? = _ from rfl)
  have e0 := fun p' : Ext z3 => Ext.cell' a0 p'
  have e1 := fun p' : Ext z3 => Ext.cell' a1 p'
  have hq2 := HQ.out
  have HWD3 := Lib.hid (HWD.out.bw HW.out)
  clear a0 a1
  refine wp_region_quiet_ext (by kernel_rfl) (by kernel_rfl) ?_
  (repeat (go_big_quiet_step (fail)))
  go_big_quiet_want
  refine quiet_load (.agg A) (some 28) rfl (fun W hW => ?_) ?_
  · obtain ⟨p, rfl⟩ := hW
    exact run_load_row 27 _ rfl g3 rfl 27 A _ (K3.out.bw p.b) Tryd.underlying27 rfl HSZ.out
  simp only [Act.put, List.setIfInBounds_toArray, List.set_cons_zero, List.set_cons_succ]
  go_big_quiet_on
  (repeat (go_big_quiet_step (first | (go_at_call 32; with_reducible refine Calls.ext_of (PLN.out _)) | (go_at_call 30; with_reducible refine Calls.ext_of (S1.out _ (HWD3.out.bw (Ext.b _)))) | (go_at_call 31; with_reducible refine Calls.ext_of (B1.out _ (HWD3.out.bw (Ext.b _)))))))
  refine wpQuiet_nil ?_
  rintro wq ⟨⟨_, hbq⟩, rfl⟩
  go_wp2
  go_ret
  exact ⟨rfl, HW.out.trans hbq⟩
end Go.Proofs.Sky

namespace Go.Proofs.Sky
open Go Go.RowKit Go.Shelf
set_option maxHeartbeats 4000000
set_option maxRecDepth 8000
/-! chapter 27: a page by numbers -/
theorem Below_any (n k : Int) (w : World) (h : 1 ≤ k) (h2 : k ≤ 4611686018427387904) : Calls Tryd.prog 9 #[.int .i64 n, .int .i64 k] w fun e w' => e = .returned (.int .i64 (bel n k)) ∧ Bw w w' := by
  obtain ⟨r, t1, r1, r2, ways⟩ := tmod_way n k h
  have hk0 : (k == 0) = false := by simp; omega
  rcases ways with ⟨y1, yR⟩ | ⟨y1, yR⟩
  all_goals
    have HB := Lib.hid (show bel n k = n % k by unfold bel; rw [if_neg (by omega)])
    rw [yR] at HB
    clear yR
    go_enter Tryd.func9, Tryd.ntmps9
    go_wp2
    go_ret
    exact ⟨ret_int (by rw [HB.out]), (by repeat (first | exact Bw.refl _ | assumption | refine Bw.alloc ?_ _ | refine Bw.drew ?_ | refine Bw.trans ?_ (by assumption) | refine Bw.setCell ?_ (by simp; try omega) _))⟩
theorem Nth_any (zs : List Int) (v : Value) (i : Int) (w : World) (hv : RdI w v zs) : Calls Tryd.prog 56 #[v, .int .i64 i] w fun e w' => e = .returned (.int .i64 (nth zs i)) ∧ Bw w w' := by
  obtain ⟨hlen, ad, cap, rfl, hz⟩ := hv
  by_cases h : i < 0 ∨ (zs.length : Int) ≤ i
  · have HN := Lib.hid (show nth zs i = 0 by unfold nth; rw [if_pos h])
    clear hz
    rcases h with h | h
    all_goals
      go_enter Tryd.func56, Tryd.ntmps56
      go_wp2
      all_goals (go_ret; exact ⟨ret_int HN.out.symm, (by repeat (first | exact Bw.refl _ | assumption | refine Bw.alloc ?_ _ | refine Bw.drew ?_ | refine Bw.trans ?_ (by assumption) | refine Bw.setCell ?_ (by simp; try omega) _))⟩)
  · have HN := Lib.hid (show nth zs i = zs.getD i.toNat 0 by unfold nth; rw [if_neg h])
    obtain ⟨j, rfl⟩ := Int.eq_ofNat_of_zero_le (show 0 ≤ i by omega)
    obtain ⟨b, off, rfl, hb, hz⟩ := hz.resolve_left (by intro e; subst e; simp at h)
    have hc := hz j (by omega)
    rw [show ((j : Int)).toNat = j by omega] at HN
    have hj : (j : Int) < zs.length := by omega
    clear hz h
    generalize zs.getD j 0 = z at hc HN
    go_enter Tryd.func56, Tryd.ntmps56
    go_wp2
    go_ret
    exact ⟨ret_int HN.out.symm, (by repeat (first | exact Bw.refl _ | assumption | refine Bw.alloc ?_ _ | refine Bw.drew ?_ | refine Bw.trans ?_ (by assumption) | refine Bw.setCell ?_ (by simp; try omega) _))⟩
/-! chapter 28: an ephemeris by numbers -/
def sgE (n b : Int) : Int := bel n (2 ^ b.toNat) - 2 ^ (b.toNat - 1)
theorem sgn_ok27 (n b : Int) (hb : b = 20 ∨ b = 14 ∨ b = 12) : okZ b (sgE n b) = true := by
  unfold okZ sgE
  have h9 := bel_bd n (2 ^ b.toNat) (by rcases hb with rfl | rfl | rfl <;> decide)
  rcases hb with rfl | rfl | rfl
  · rw [show (2 : Int) ^ ((20 : Int)).toNat = 1048576 from by decide] at h9
    apply decide_eq_true
    rw [show lowR 20 true = -524288 from by decide, show highR 20 true = 524287 from by decide, show (2 : Int) ^ ((20 : Int)).toNat = 1048576 from by decide, show (2 : Int) ^ (((20 : Int)).toNat - 1) = 524288 from by decide]
    omega
  · rw [show (2 : Int) ^ ((14 : Int)).toNat = 16384 from by decide] at h9
    apply decide_eq_true
    rw [show lowR 14 true = -8192 from by decide, show highR 14 true = 8191 from by decide, show (2 : Int) ^ ((14 : Int)).toNat = 16384 from by decide, show (2 : Int) ^ (((14 : Int)).toNat - 1) = 8192 from by decide]
    omega
  · rw [show (2 : Int) ^ ((12 : Int)).toNat = 4096 from by decide] at h9
    apply decide_eq_true
    rw [show lowR 12 true = -2048 from by decide, show highR 12 true = 2047 from by decide, show (2 : Int) ^ ((12 : Int)).toNat = 4096 from by decide, show (2 : Int) ^ (((12 : Int)).toNat - 1) = 2048 from by decide]
    omega
theorem signed27_any (n b : Int) (hb : b = 20 ∨ b = 14 ∨ b = 12) (w : World) : Calls Tryd.prog 34 #[.int .i64 n, .int .i64 b] w fun e w' => e = .returned (.int .i64 (sgE n b)) ∧ Bw w w' := by
  obtain ⟨S, hS⟩ : ∃ S, S = sgE n b := ⟨_, rfl⟩
  rw [← hS]
  rcases hb with rfl | rfl | rfl
  · have HS := Lib.hid (show bel n 1048576 - 524288 = S from by rw [hS]; unfold sgE; rw [show (2 : Int) ^ ((20 : Int)).toNat = 1048576 from by decide, show (2 : Int) ^ (((20 : Int)).toNat - 1) = 524288 from by decide])
    clear hS
    have BE := Lib.hid (fun W => Below_any n 1048576 W (by decide) (by decide))
    have hbd := bel_bd n 1048576 (by decide)
    generalize bel n 1048576 = B at *
    go_enter Tryd.func34, Tryd.ntmps34
    go_wp2_with (go_at_call 9; (with_reducible refine Calls.mono (BE.out _) ?_); rintro e1 w1 ⟨rfl, hb9⟩)
    go_ret
    exact ⟨ret_int HS.out, hb9⟩
  · have HS := Lib.hid (show bel n 16384 - 8192 = S from by rw [hS]; unfold sgE; rw [show (2 : Int) ^ ((14 : Int)).toNat = 16384 from by decide, show (2 : Int) ^ (((14 : Int)).toNat - 1) = 8192 from by decide])
    clear hS
    have BE := Lib.hid (fun W => Below_any n 16384 W (by decide) (by decide))
    have hbd := bel_bd n 16384 (by decide)
    generalize bel n 16384 = B at *
    go_enter Tryd.func34, Tryd.ntmps34
    go_wp2_with (go_at_call 9; (with_reducible refine Calls.mono (BE.out _) ?_); rintro e1 w1 ⟨rfl, hb9⟩)
    go_ret
    exact ⟨ret_int HS.out, hb9⟩
  · have HS := Lib.hid (show bel n 4096 - 2048 = S from by rw [hS]; unfold sgE; rw [show (2 : Int) ^ ((12 : Int)).toNat = 4096 from by decide, show (2 : Int) ^ (((12 : Int)).toNat - 1) = 2048 from by decide])
    clear hS
    have BE := Lib.hid (fun W => Below_any n 4096 W (by decide) (by decide))
    have hbd := bel_bd n 4096 (by decide)
    generalize bel n 4096 = B at *
    go_enter Tryd.func34, Tryd.ntmps34
    go_wp2_with (go_at_call 9; (with_reducible refine Calls.mono (BE.out _) ?_); rintro e1 w1 ⟨rfl, hb9⟩)
    go_ret
    exact ⟨ret_int HS.out, hb9⟩
theorem first27_any (zs : List Int) (v : Value) (w : World) (hv : RdI w v zs) : Calls Tryd.prog 33 #[v] w fun e w' => e = .returned (.agg (pgV (fun i => nth zs (i : Nat)))) ∧ Bw w w' := by
  have HV := Lib.hid hv
  have NT := Lib.hid (fun i W h => Nth_any zs v i W h)
  obtain ⟨a, c, rfl⟩ := hv.form
  clear hv
  have K2 := Lib.hid ((Blk.new w 56 #[.int .i64 0, .int .i64 0, .int .i64 0, .int .i64 0, .int .i64 0, .int .i64 0, .int .i64 0, .int .i64 0, .int .i64 0, .int .i64 0, .int .i64 0, .int .i64 0, .int .i64 0]).alloc (.cells #[.int .i64 0, .int .i64 0, .int .i64 0, .int .i64 0, .int .i64 0, .int .i64 0, .int .i64 0, .int .i64 0, .int .i64 0, .int .i64 0, .int .i64 0, .int .i64 0, .int .i64 0] 56))
  have K3 := Lib.hid (show Blk ((w.alloc (.cells #[.int .i64 0, .int .i64 0, .int .i64 0, .int .i64 0, .int .i64 0, .int .i64 0, .int .i64 0, .int .i64 0, .int .i64 0, .int .i64 0, .int .i64 0, .int .i64 0, .int .i64 0] 56)).alloc (.cells #[.int .i64 0, .int .i64 0, .int .i64 0, .int .i64 0, .int .i64 0, .int .i64 0, .int .i64 0, .int .i64 0, .int .i64 0, .int .i64 0, .int .i64 0, .int .i64 0, .int .i64 0] 56)) (w.heap.size + 1) 56 #[.int .i64 0, .int .i64 0, .int .i64 0, .int .i64 0, .int .i64 0, .int .i64 0, .int .i64 0, .int .i64 0, .int .i64 0, .int .i64 0, .int .i64 0, .int .i64 0, .int .i64 0] from by have h9 := Blk.new (w.alloc (.cells #[.int .i64 0, .int .i64 0, .int .i64 0, .int .i64 0, .int .i64 0, .int .i64 0, .int .i64 0, .int .i64 0, .int .i64 0, .int .i64 0, .int .i64 0, .int .i64 0, .int .i64 0] 56)) 56 #[.int .i64 0, .int .i64 0, .int .i64 0, .int .i64 0, .int .i64 0, .int .i64 0, .int .i64 0, .int .i64 0, .int .i64 0, .int .i64 0, .int .i64 0, .int .i64 0, .int .i64 0]; simp only [World.size_alloc] at h9; exact h9)
  have HW := Lib.hid (Bw.alloc (Bw.alloc (Bw.refl w) (.cells #[.int .i64 0, .int .i64 0, .int .i64 0, .int .i64 0, .int .i64 0, .int .i64 0, .int .i64 0, .int .i64 0, .int .i64 0, .int .i64 0, .int .i64 0, .int .i64 0, .int .i64 0] 56)) (.cells #[.int .i64 0, .int .i64 0, .int .i64 0, .int .i64 0, .int .i64 0, .int .i64 0, .int .i64 0, .int .i64 0, .int .i64 0, .int .i64 0, .int .i64 0, .int .i64 0, .int .i64 0] 56))
  obtain ⟨g, hg⟩ : ∃ g, w.heap.size = g := ⟨_, rfl⟩
  rw [hg] at K2 K3
  have HG := Lib.hid hg
  go_enter Tryd.func33, Tryd.ntmps33
  go_upto_region 2 with fail
  obtain ⟨W0, hW0⟩ : ∃ W0, (w.alloc (.cells #[.int .i64 0, .int .i64 0, .int .i64 0, .int .i64 0, .int .i64 0, .int .i64 0, .int .i64 0, .int .i64 0, .int .i64 0, .int .i64 0, .int .i64 0, .int .i64 0, .int .i64 0] 56)).alloc (.cells #[.int .i64 0, .int .i64 0, .int .i64 0, .int .i64 0, .int .i64 0, .int .i64 0, .int .i64 0, .int .i64 0, .int .i64 0, .int .i64 0, .int .i64 0, .int .i64 0, .int .i64 0] 56) = W0 := ⟨_, rfl⟩
  rw [hW0] at K2 K3 HW ⊢
  clear hW0 hg
  go_wp2
  go_loopg [4] 13 (fun gg s4 wr => ∃ i : Nat, i ≤ 13 ∧ 13 - i ≤ gg ∧ s4 = .int .i64 i ∧ Hid (Bw w wr) ∧ Hid (Blk wr g 56 #[.int .i64 0, .int .i64 0, .int .i64 0, .int .i64 0, .int .i64 0, .int .i64 0, .int .i64 0, .int .i64 0, .int .i64 0, .int .i64 0, .int .i64 0, .int .i64 0, .int .i64 0]) ∧ Hid (Blk wr (g + 1) 56 (pgV (fun j => if j < i then nth zs (j : Nat) else 0))))
  case atStart => exact ⟨0, by omega, by omega, rfl, HW, K2, K3⟩
  case round =>
    clear HW K2 K3
    obtain ⟨i, hi, hgg, rfl, HW, K2, K3⟩ := hrel
    obtain ⟨wb, rfl⟩ : ∃ wb, wb = wr := ⟨_, rfl⟩
    by_cases hlt : i < 13
    · have hiz : (i : Int) < 13 := by omega
      have hi0 : (0 : Int) ≤ i := by omega
      have NTI := Lib.hid (fun W h => NT.out (i : Int) W h)
      obtain ⟨n, hn⟩ : ∃ n, n = nth zs (i : Nat) := ⟨_, rfl⟩
      rw [← hn] at NTI
      have HN := Lib.hid hn
      clear hn
      have lc := K3.out.cell (pgV_at _ i hlt)
      have lf := K3.out.frozen i
      go_wp2_with (go_at_call 56; (with_reducible refine Calls.mono (NTI.out _ (HV.out.mono HW.out)) ?_); rintro e1 w1 ⟨rfl, hb1⟩; replace K2 := Lib.hid (K2.out.bw hb1); replace K3 := Lib.hid (K3.out.bw hb1); replace HW := Lib.hid (HW.out.trans hb1); replace lf := hb1.frozen' lc lf; replace lc := hb1.cell' lc; clear hb1)
      go_roundg (13 - (i + 1))
      case measure => omega
      case rel =>
        refine ⟨i + 1, by omega, by omega, by go_num, Lib.hid (Bw.setCell HW.out (p := ⟨g + 1, i, none⟩) (show w.heap.size ≤ g + 1 by have := HG.out; omega) _), Lib.hid (K2.out.set_other (by omega) i _), Lib.hid ?_⟩
        have h9 := K3.out.set i (.int .i64 n)
        rw [pgV_set _ i hlt, pgV_congr2 (y := fun j => if j < i + 1 then nth zs (j : Nat) else 0) (fun j hj => by
          by_cases e : j = i
          · subst e; simp [HN.out]
          · simp only [if_neg e]
            by_cases e2 : j < i
            · rw [if_pos e2, if_pos (by omega)]
            · rw [if_neg e2, if_neg (by omega)])] at h9
        exact h9
    · obtain rfl : i = 13 := by omega
      have hiz : ¬ ((13 : Nat) : Int) < 13 := by omega
      rw [pgV_congr2 (y := fun i => nth zs (i : Nat)) (fun j hj => if_pos hj)] at K3
      have HSZ : Hid ((Tryd.prog.info? 56).map (·.size) = some (pgV (fun i => nth zs (i : Nat))).size) := Lib.hid (by kernel_rfl)
      have HP1 : Hid ((pgV (fun i => nth zs (i : Nat))).all (·.oneCell') = true) := Lib.hid (by simp [Value.oneCell', pgV])
      have HNZ : Hid ((#[.int .i64 0, .int .i64 0, .int .i64 0, .int .i64 0, .int .i64 0, .int .i64 0, .int .i64 0, .int .i64 0, .int .i64 0, .int .i64 0, .int .i64 0, .int .i64 0, .int .i64 0] : Array Value).size = (pgV (fun i => nth zs (i : Nat))).size) := Lib.hid rfl
      obtain ⟨A, hA⟩ : ∃ A, A = pgV (fun i => nth zs (i : Nat)) := ⟨_, rfl⟩
      rw [← hA] at K3 HSZ HP1 HNZ
      have HAA := Lib.hid hA
      clear hA
      go_wp2_with (first | ((with_reducible refine at_load 56 (.tmp 3) ?_); refine wpList_load_row rfl 56 _ rfl (g + 1) rfl 56 A (0, 0) _ K3.out Tryd.underlying56 rfl HSZ.out ?_) | ((with_reducible refine at_store 56 (.tmp 2) (.tmp 14) ?_); refine wpList_store_row rfl 56 (.tmp 2) (.tmp 14) rfl g A rfl rfl 56 _ K2.out HSZ.out HNZ.out HP1.out ?_))
      refine bodyPost_ret (v := .agg A) ?_ rfl ⟨by rw [HAA.out], Bw.setRow HW.out (by have := HG.out; omega) _⟩
      exact results_cell_row (p := 2) rfl _ _ g _ _ (0, 0) _ rfl (K2.out.row _) Tryd.underlying56 rfl HSZ.out
def ofX27 (zs : List Int) : Nat → Int := fun i => [1 + bel (nth zs 0) 63, bel (nth zs 1) 604800, bel (nth zs 2) 65536, bel (nth zs 3) 1048576, sgE (nth zs 4) 20, sgE (nth zs 5) 14, sgE (nth zs 6) 12, sgE (nth zs 7) 20, sgE (nth zs 8) 14, sgE (nth zs 9) 12, sgE (nth zs 10) 20, sgE (nth zs 11) 14, sgE (nth zs 12) 12].getD i 0
theorem of27_any (zs : List Int) (v : Value) (w : World) (hv : RdI w v zs) : Calls Tryd.prog 10 #[v] w fun e w' => e = .returned (.agg (pgV (ofX27 zs))) ∧ Bw w w' := by
  have HV := Lib.hid hv
  have FI := Lib.hid (fun W h => first27_any zs v W h)
  obtain ⟨a, c, rfl⟩ := hv.form
  clear hv
  have C0 := Lib.hid (fun W => Below_any (nth zs 0) 63 W (by decide) (by decide))
  have C1 := Lib.hid (fun W => Below_any (nth zs 1) 604800 W (by decide) (by decide))
  have C2 := Lib.hid (fun W => Below_any (nth zs 2) 65536 W (by decide) (by decide))
  have C3 := Lib.hid (fun W => Below_any (nth zs 3) 1048576 W (by decide) (by decide))
  have C4 := Lib.hid (fun W => signed27_any (nth zs 4) 20 (by decide) W)
  have C5 := Lib.hid (fun W => signed27_any (nth zs 5) 14 (by decide) W)
  have C6 := Lib.hid (fun W => signed27_any (nth zs 6) 12 (by decide) W)
  have C7 := Lib.hid (fun W => signed27_any (nth zs 7) 20 (by decide) W)
  have C8 := Lib.hid (fun W => signed27_any (nth zs 8) 14 (by decide) W)
  have C9 := Lib.hid (fun W => signed27_any (nth zs 9) 12 (by decide) W)
  have C10 := Lib.hid (fun W => signed27_any (nth zs 10) 20 (by decide) W)
  have C11 := Lib.hid (fun W => signed27_any (nth zs 11) 14 (by decide) W)
  have C12 := Lib.hid (fun W => signed27_any (nth zs 12) 12 (by decide) W)
  have hb0 := bel_bd (nth zs 0) 63 (by decide)
  have HR := Lib.hid (show pgV (ofX27 zs) = #[.int .i64 (1 + bel (nth zs 0) 63), .int .i64 (bel (nth zs 1) 604800), .int .i64 (bel (nth zs 2) 65536), .int .i64 (bel (nth zs 3) 1048576), .int .i64 (sgE (nth zs 4) 20), .int .i64 (sgE (nth zs 5) 14), .int .i64 (sgE (nth zs 6) 12), .int .i64 (sgE (nth zs 7) 20), .int .i64 (sgE (nth zs 8) 14), .int .i64 (sgE (nth zs 9) 12), .int .i64 (sgE (nth zs 10) 20), .int .i64 (sgE (nth zs 11) 14), .int .i64 (sgE (nth zs 12) 12)] from rfl)
  have HN0 := Lib.hid (show (pgV (fun i => nth zs (i : Nat)))[0]? = some (.int .i64 (nth zs 0)) from rfl)
  have HN1 := Lib.hid (show (pgV (fun i => nth zs (i : Nat)))[1]? = some (.int .i64 (nth zs 1)) from rfl)
  have HN2 := Lib.hid (show (pgV (fun i => nth zs (i : Nat)))[2]? = some (.int .i64 (nth zs 2)) from rfl)
  have HN3 := Lib.hid (show (pgV (fun i => nth zs (i : Nat)))[3]? = some (.int .i64 (nth zs 3)) from rfl)
  have HN4 := Lib.hid (show (pgV (fun i => nth zs (i : Nat)))[4]? = some (.int .i64 (nth zs 4)) from rfl)
  have HN5 := Lib.hid (show (pgV (fun i => nth zs (i : Nat)))[5]? = some (.int .i64 (nth zs 5)) from rfl)
  have HN6 := Lib.hid (show (pgV (fun i => nth zs (i : Nat)))[6]? = some (.int .i64 (nth zs 6)) from rfl)
  have HN7 := Lib.hid (show (pgV (fun i => nth zs (i : Nat)))[7]? = some (.int .i64 (nth zs 7)) from rfl)
  have HN8 := Lib.hid (show (pgV (fun i => nth zs (i : Nat)))[8]? = some (.int .i64 (nth zs 8)) from rfl)
  have HN9 := Lib.hid (show (pgV (fun i => nth zs (i : Nat)))[9]? = some (.int .i64 (nth zs 9)) from rfl)
  have HN10 := Lib.hid (show (pgV (fun i => nth zs (i : Nat)))[10]? = some (.int .i64 (nth zs 10)) from rfl)
  have HN11 := Lib.hid (show (pgV (fun i => nth zs (i : Nat)))[11]? = some (.int .i64 (nth zs 11)) from rfl)
  have HN12 := Lib.hid (show (pgV (fun i => nth zs (i : Nat)))[12]? = some (.int .i64 (nth zs 12)) from rfl)
  generalize bel (nth zs 0) 63 = p0 at *
  generalize bel (nth zs 1) 604800 = p1 at *
  generalize bel (nth zs 2) 65536 = p2 at *
  generalize bel (nth zs 3) 1048576 = p3 at *
  generalize sgE (nth zs 4) 20 = p4 at *
  generalize sgE (nth zs 5) 14 = p5 at *
  generalize sgE (nth zs 6) 12 = p6 at *
  generalize sgE (nth zs 7) 20 = p7 at *
  generalize sgE (nth zs 8) 14 = p8 at *
  generalize sgE (nth zs 9) 12 = p9 at *
  generalize sgE (nth zs 10) 20 = p10 at *
  generalize sgE (nth zs 11) 14 = p11 at *
  generalize sgE (nth zs 12) 12 = p12 at *
  generalize nth zs 0 = n0 at *
  generalize nth zs 1 = n1 at *
  generalize nth zs 2 = n2 at *
  generalize nth zs 3 = n3 at *
  generalize nth zs 4 = n4 at *
  generalize nth zs 5 = n5 at *
  generalize nth zs 6 = n6 at *
  generalize nth zs 7 = n7 at *
  generalize nth zs 8 = n8 at *
  generalize nth zs 9 = n9 at *
  generalize nth zs 10 = n10 at *
  generalize nth zs 11 = n11 at *
  generalize nth zs 12 = n12 at *
  have HSZ : Hid ((Tryd.prog.info? 56).map (·.size) = some (pgV (fun i => nth zs (i : Nat))).size) := Lib.hid (by kernel_rfl)
  have HP1 : Hid ((pgV (fun i => nth zs (i : Nat))).all (·.oneCell') = true) := Lib.hid (by simp [Value.oneCell', pgV])
  have HNZ : Hid ((#[.int .i64 0, .int .i64 0, .int .i64 0, .int .i64 0, .int .i64 0, .int .i64 0, .int .i64 0, .int .i64 0, .int .i64 0, .int .i64 0, .int .i64 0, .int .i64 0, .int .i64 0] : Array Value).size = (pgV (fun i => nth zs (i : Nat))).size) := Lib.hid rfl
  obtain ⟨A, hA⟩ : ∃ A, A = pgV (fun i => nth zs (i : Nat)) := ⟨_, rfl⟩
  rw [← hA] at FI HSZ HP1 HNZ HN0 HN1 HN2 HN3 HN4 HN5 HN6 HN7 HN8 HN9 HN10 HN11 HN12
  clear hA
  have KP := Lib.hid (Blk.new w 27 #[.int .i64 0, .int .i64 0, .int .i64 0, .int .i64 0, .int .i64 0, .int .i64 0, .int .i64 0, .int .i64 0, .int .i64 0, .int .i64 0, .int .i64 0, .int .i64 0, .int .i64 0])
  have HW := Lib.hid (Bw.alloc (Bw.refl w) (.cells #[.int .i64 0, .int .i64 0, .int .i64 0, .int .i64 0, .int .i64 0, .int .i64 0, .int .i64 0, .int .i64 0, .int .i64 0, .int .i64 0, .int .i64 0, .int .i64 0, .int .i64 0] 27))
  obtain ⟨g, hg⟩ : ∃ g, w.heap.size = g := ⟨_, rfl⟩
  rw [hg] at KP
  have HG := Lib.hid hg
  go_enter Tryd.func10, Tryd.ntmps10
  go_upto_region 1 with fail
  obtain ⟨W0, hW0⟩ : ∃ W0, w.alloc (.cells #[.int .i64 0, .int .i64 0, .int .i64 0, .int .i64 0, .int .i64 0, .int .i64 0, .int .i64 0, .int .i64 0, .int .i64 0, .int .i64 0, .int .i64 0, .int .i64 0, .int .i64 0] 27) = W0 := ⟨_, rfl⟩
  rw [hW0] at KP HW ⊢
  clear hW0 hg
  go_upto_region 2 with (first | (go_at_call 33; (with_reducible refine Calls.mono (FI.out _ (HV.out.mono HW.out)) ?_); rintro e1 w1 ⟨rfl, hb1⟩; replace KP := Lib.hid (KP.out.bw hb1); replace HW := Lib.hid (HW.out.trans hb1); clear hb1) | ((with_reducible refine at_store 56 (.tmp 3) (.tmp 5) ?_); refine wpList_store_row rfl 56 (.tmp 3) (.tmp 5) rfl w1.heap.size A rfl rfl 56 #[.int .i64 0, .int .i64 0, .int .i64 0, .int .i64 0, .int .i64 0, .int .i64 0, .int .i64 0, .int .i64 0, .int .i64 0, .int .i64 0, .int .i64 0, .int .i64 0, .int .i64 0] (Blk.new w1 56 #[.int .i64 0, .int .i64 0, .int .i64 0, .int .i64 0, .int .i64 0, .int .i64 0, .int .i64 0, .int .i64 0, .int .i64 0, .int .i64 0, .int .i64 0, .int .i64 0, .int .i64 0]) HSZ.out HNZ.out HP1.out ?_))
  obtain ⟨g3, hg1⟩ : ∃ g3, w1.heap.size = g3 := ⟨_, rfl⟩
  have hb1 := Bw.setRow (Bw.alloc (Bw.refl w1) (.cells #[.int .i64 0, .int .i64 0, .int .i64 0, .int .i64 0, .int .i64 0, .int .i64 0, .int .i64 0, .int .i64 0, .int .i64 0, .int .i64 0, .int .i64 0, .int .i64 0, .int .i64 0] 56)) (Nat.le_of_eq hg1) A
  have K3 := Lib.hid ((Blk.new w1 56 #[.int .i64 0, .int .i64 0, .int .i64 0, .int .i64 0, .int .i64 0, .int .i64 0, .int .i64 0, .int .i64 0, .int .i64 0, .int .i64 0, .int .i64 0, .int .i64 0, .int .i64 0]).row A)
  rw [hg1] at K3 ⊢
  have HGX := Lib.hid (show g < g3 by have := KP.out.lt; omega)
  replace KP := Lib.hid (KP.out.bw hb1)
  replace HW := Lib.hid (HW.out.trans hb1)
  clear hb1
  generalize World.setRow (World.alloc w1 _) _ _ = z1 at *
  clear hg1
  refine wp_region_held_drew (S := Kx g z1) (by kernel_rfl) (Kx.of_bw (Bw.drew (Bw.refl _)) (Nat.le_of_lt KP.out.lt)) (fun hS => ?_)
  replace KP := Lib.hid (KP.out.bw (Bw.drew (Bw.refl _)))
  generalize World.drew _ = wd at hS KP ⊢
  refine take1 (i := 0) (some 6) rfl rfl (by kernel_rfl) (by kernel_rfl) (by kernel_rfl) (fun _ _ _ _ h => h) rfl hS ?_
  apply Exists.intro
  apply And.intro
  · intro W9 hW9; skip; go_simp; try with_reducible rfl
  simp only [Act.put, List.setIfInBounds_toArray, List.set_cons_zero, List.set_cons_succ]
  refine take1 (i := 1) (some 7) rfl rfl (by kernel_rfl) (by kernel_rfl) (by kernel_rfl) (fun _ _ _ _ h => h) rfl hS ?_
  refine Exists.intro (.int .i64 n0) ?_
  apply And.intro
  · intro W9 hW9; skip; have y9 := (hW9.blk K3.out (by have := HGX.out; omega)).cell HN0.out; go_simp; (try with_reducible rfl); (try trivial)
  simp only [Act.put, List.setIfInBounds_toArray, List.set_cons_zero, List.set_cons_succ]
  refine take1 (i := 4) (some 10) rfl rfl (by kernel_rfl) (by kernel_rfl) (by kernel_rfl) (fun _ _ _ _ h => h) rfl hS ?_
  apply Exists.intro
  apply And.intro
  · intro W9 hW9; skip; go_simp; try with_reducible rfl
  simp only [Act.put, List.setIfInBounds_toArray, List.set_cons_zero, List.set_cons_succ]
  refine take1 (i := 5) (some 11) rfl rfl (by kernel_rfl) (by kernel_rfl) (by kernel_rfl) (fun _ _ _ _ h => h) rfl hS ?_
  refine Exists.intro (.int .i64 n1) ?_
  apply And.intro
  · intro W9 hW9; skip; have y9 := (hW9.blk K3.out (by have := HGX.out; omega)).cell HN1.out; go_simp; (try with_reducible rfl); (try trivial)
  simp only [Act.put, List.setIfInBounds_toArray, List.set_cons_zero, List.set_cons_succ]
  refine take1 (i := 7) (some 13) rfl rfl (by kernel_rfl) (by kernel_rfl) (by kernel_rfl) (fun _ _ _ _ h => h) rfl hS ?_
  apply Exists.intro
  apply And.intro
  · intro W9 hW9; skip; go_simp; try with_reducible rfl
  simp only [Act.put, List.setIfInBounds_toArray, List.set_cons_zero, List.set_cons_succ]
  refine take1 (i := 8) (some 14) rfl rfl (by kernel_rfl) (by kernel_rfl) (by kernel_rfl) (fun _ _ _ _ h => h) rfl hS ?_
  refine Exists.intro (.int .i64 n2) ?_
  apply And.intro
  · intro W9 hW9; skip; have y9 := (hW9.blk K3.out (by have := HGX.out; omega)).cell HN2.out; go_simp; (try with_reducible rfl); (try trivial)
  simp only [Act.put, List.setIfInBounds_toArray, List.set_cons_zero, List.set_cons_succ]
  refine take1 (i := 10) (some 16) rfl rfl (by kernel_rfl) (by kernel_rfl) (by kernel_rfl) (fun _ _ _ _ h => h) rfl hS ?_
  apply Exists.intro
  apply And.intro
  · intro W9 hW9; skip; go_simp; try with_reducible rfl
  simp only [Act.put, List.setIfInBounds_toArray, List.set_cons_zero, List.set_cons_succ]
  refine take1 (i := 11) (some 17) rfl rfl (by kernel_rfl) (by kernel_rfl) (by kernel_rfl) (fun _ _ _ _ h => h) rfl hS ?_
  refine Exists.intro (.int .i64 n3) ?_
  apply And.intro
  · intro W9 hW9; skip; have y9 := (hW9.blk K3.out (by have := HGX.out; omega)).cell HN3.out; go_simp; (try with_reducible rfl); (try trivial)
  simp only [Act.put, List.setIfInBounds_toArray, List.set_cons_zero, List.set_cons_succ]
  refine take1 (i := 13) (some 19) rfl rfl (by kernel_rfl) (by kernel_rfl) (by kernel_rfl) (fun _ _ _ _ h => h) rfl hS ?_
  apply Exists.intro
  apply And.intro
  · intro W9 hW9; skip; go_simp; try with_reducible rfl
  simp only [Act.put, List.setIfInBounds_toArray, List.set_cons_zero, List.set_cons_succ]
  refine take1 (i := 14) (some 20) rfl rfl (by kernel_rfl) (by kernel_rfl) (by kernel_rfl) (fun _ _ _ _ h => h) rfl hS ?_
  refine Exists.intro (.int .i64 n4) ?_
  apply And.intro
  · intro W9 hW9; skip; have y9 := (hW9.blk K3.out (by have := HGX.out; omega)).cell HN4.out; go_simp; (try with_reducible rfl); (try trivial)
  simp only [Act.put, List.setIfInBounds_toArray, List.set_cons_zero, List.set_cons_succ]
  refine take1 (i := 16) (some 22) rfl rfl (by kernel_rfl) (by kernel_rfl) (by kernel_rfl) (fun _ _ _ _ h => h) rfl hS ?_
  apply Exists.intro
  apply And.intro
  · intro W9 hW9; skip; go_simp; try with_reducible rfl
  simp only [Act.put, List.setIfInBounds_toArray, List.set_cons_zero, List.set_cons_succ]
  refine take1 (i := 17) (some 23) rfl rfl (by kernel_rfl) (by kernel_rfl) (by kernel_rfl) (fun _ _ _ _ h => h) rfl hS ?_
  refine Exists.intro (.int .i64 n5) ?_
  apply And.intro
  · intro W9 hW9; skip; have y9 := (hW9.blk K3.out (by have := HGX.out; omega)).cell HN5.out; go_simp; (try with_reducible rfl); (try trivial)
  simp only [Act.put, List.setIfInBounds_toArray, List.set_cons_zero, List.set_cons_succ]
  refine take1 (i := 19) (some 25) rfl rfl (by kernel_rfl) (by kernel_rfl) (by kernel_rfl) (fun _ _ _ _ h => h) rfl hS ?_
  apply Exists.intro
  apply And.intro
  · intro W9 hW9; skip; go_simp; try with_reducible rfl
  simp only [Act.put, List.setIfInBounds_toArray, List.set_cons_zero, List.set_cons_succ]
  refine take1 (i := 20) (some 26) rfl rfl (by kernel_rfl) (by kernel_rfl) (by kernel_rfl) (fun _ _ _ _ h => h) rfl hS ?_
  refine Exists.intro (.int .i64 n6) ?_
  apply And.intro
  · intro W9 hW9; skip; have y9 := (hW9.blk K3.out (by have := HGX.out; omega)).cell HN6.out; go_simp; (try with_reducible rfl); (try trivial)
  simp only [Act.put, List.setIfInBounds_toArray, List.set_cons_zero, List.set_cons_succ]
  refine take1 (i := 23) (some 29) rfl rfl (by kernel_rfl) (by kernel_rfl) (by kernel_rfl) (fun _ _ _ _ h => h) rfl hS ?_
  apply Exists.intro
  apply And.intro
  · intro W9 hW9; skip; go_simp; try with_reducible rfl
  simp only [Act.put, List.setIfInBounds_toArray, List.set_cons_zero, List.set_cons_succ]
  refine take1 (i := 24) (some 30) rfl rfl (by kernel_rfl) (by kernel_rfl) (by kernel_rfl) (fun _ _ _ _ h => h) rfl hS ?_
  refine Exists.intro (.int .i64 n7) ?_
  apply And.intro
  · intro W9 hW9; skip; have y9 := (hW9.blk K3.out (by have := HGX.out; omega)).cell HN7.out; go_simp; (try with_reducible rfl); (try trivial)
  simp only [Act.put, List.setIfInBounds_toArray, List.set_cons_zero, List.set_cons_succ]
  refine take1 (i := 26) (some 32) rfl rfl (by kernel_rfl) (by kernel_rfl) (by kernel_rfl) (fun _ _ _ _ h => h) rfl hS ?_
  apply Exists.intro
  apply And.intro
  · intro W9 hW9; skip; go_simp; try with_reducible rfl
  simp only [Act.put, List.setIfInBounds_toArray, List.set_cons_zero, List.set_cons_succ]
  refine take1 (i := 27) (some 33) rfl rfl (by kernel_rfl) (by kernel_rfl) (by kernel_rfl) (fun _ _ _ _ h => h) rfl hS ?_
  refine Exists.intro (.int .i64 n8) ?_
  apply And.intro
  · intro W9 hW9; skip; have y9 := (hW9.blk K3.out (by have := HGX.out; omega)).cell HN8.out; go_simp; (try with_reducible rfl); (try trivial)
  simp only [Act.put, List.setIfInBounds_toArray, List.set_cons_zero, List.set_cons_succ]
  refine take1 (i := 29) (some 35) rfl rfl (by kernel_rfl) (by kernel_rfl) (by kernel_rfl) (fun _ _ _ _ h => h) rfl hS ?_
  apply Exists.intro
  apply And.intro
  · intro W9 hW9; skip; go_simp; try with_reducible rfl
  simp only [Act.put, List.setIfInBounds_toArray, List.set_cons_zero, List.set_cons_succ]
  refine take1 (i := 30) (some 36) rfl rfl (by kernel_rfl) (by kernel_rfl) (by kernel_rfl) (fun _ _ _ _ h => h) rfl hS ?_
  refine Exists.intro (.int .i64 n9) ?_
  apply And.intro
  · intro W9 hW9; skip; have y9 := (hW9.blk K3.out (by have := HGX.out; omega)).cell HN9.out; go_simp; (try with_reducible rfl); (try trivial)
  simp only [Act.put, List.setIfInBounds_toArray, List.set_cons_zero, List.set_cons_succ]
  refine take1 (i := 33) (some 39) rfl rfl (by kernel_rfl) (by kernel_rfl) (by kernel_rfl) (fun _ _ _ _ h => h) rfl hS ?_
  apply Exists.intro
  apply And.intro
  · intro W9 hW9; skip; go_simp; try with_reducible rfl
  simp only [Act.put, List.setIfInBounds_toArray, List.set_cons_zero, List.set_cons_succ]
  refine take1 (i := 34) (some 40) rfl rfl (by kernel_rfl) (by kernel_rfl) (by kernel_rfl) (fun _ _ _ _ h => h) rfl hS ?_
  refine Exists.intro (.int .i64 n10) ?_
  apply And.intro
  · intro W9 hW9; skip; have y9 := (hW9.blk K3.out (by have := HGX.out; omega)).cell HN10.out; go_simp; (try with_reducible rfl); (try trivial)
  simp only [Act.put, List.setIfInBounds_toArray, List.set_cons_zero, List.set_cons_succ]
  refine take1 (i := 36) (some 42) rfl rfl (by kernel_rfl) (by kernel_rfl) (by kernel_rfl) (fun _ _ _ _ h => h) rfl hS ?_
  apply Exists.intro
  apply And.intro
  · intro W9 hW9; skip; go_simp; try with_reducible rfl
  simp only [Act.put, List.setIfInBounds_toArray, List.set_cons_zero, List.set_cons_succ]
  refine take1 (i := 37) (some 43) rfl rfl (by kernel_rfl) (by kernel_rfl) (by kernel_rfl) (fun _ _ _ _ h => h) rfl hS ?_
  refine Exists.intro (.int .i64 n11) ?_
  apply And.intro
  · intro W9 hW9; skip; have y9 := (hW9.blk K3.out (by have := HGX.out; omega)).cell HN11.out; go_simp; (try with_reducible rfl); (try trivial)
  simp only [Act.put, List.setIfInBounds_toArray, List.set_cons_zero, List.set_cons_succ]
  refine take1 (i := 39) (some 45) rfl rfl (by kernel_rfl) (by kernel_rfl) (by kernel_rfl) (fun _ _ _ _ h => h) rfl hS ?_
  apply Exists.intro
  apply And.intro
  · intro W9 hW9; skip; go_simp; try with_reducible rfl
  simp only [Act.put, List.setIfInBounds_toArray, List.set_cons_zero, List.set_cons_succ]
  refine take1 (i := 40) (some 46) rfl rfl (by kernel_rfl) (by kernel_rfl) (by kernel_rfl) (fun _ _ _ _ h => h) rfl hS ?_
  refine Exists.intro (.int .i64 n12) ?_
  apply And.intro
  · intro W9 hW9; skip; have y9 := (hW9.blk K3.out (by have := HGX.out; omega)).cell HN12.out; go_simp; (try with_reducible rfl); (try trivial)
  simp only [Act.put, List.setIfInBounds_toArray, List.set_cons_zero, List.set_cons_succ]
  refine wpAnyH_ready (rs := [2]) (by kernel_rfl) (by simp) ?_
  refine AllReadyH.cons rfl (fun K hK => ?_) ?_
  go_simp
  go_wp2_with (go_at_call 9; (with_reducible refine Calls.mono (C0.out _) ?_); rintro e1 wd ⟨rfl, hb13⟩)
  have hle := Nat.le_of_lt KP.out.lt
  replace KP := Lib.hid (KP.out.bw hb13)
  refine hK.out _ _ (hS.trans (Kx.of_bw hb13 hle)) (fun hS => ?_)
  clear hK K
  clear hb13 hle
  refine take1 (i := 3) (some 9) rfl rfl (by kernel_rfl) (by kernel_rfl) (by kernel_rfl) (fun _ _ _ _ h => h) rfl hS ?_
  refine Exists.intro (.int .i64 (1 + p0)) ?_
  apply And.intro
  · intro W9 hW9; skip; go_simp; (try go_bits); (try with_reducible rfl); (try trivial)
  simp only [Act.put, List.setIfInBounds_toArray, List.set_cons_zero, List.set_cons_succ]
  refine wpAnyH_ready (rs := [6]) (by kernel_rfl) (by simp) ?_
  refine AllReadyH.cons rfl (fun K hK => ?_) ?_
  go_simp
  go_wp2_with (go_at_call 9; (with_reducible refine Calls.mono (C1.out _) ?_); rintro e1 wd ⟨rfl, hb13⟩)
  have hle := Nat.le_of_lt KP.out.lt
  replace KP := Lib.hid (KP.out.bw hb13)
  refine hK.out _ _ (hS.trans (Kx.of_bw hb13 hle)) (fun hS => ?_)
  clear hK K
  clear hb13 hle
  refine wpAnyH_ready (rs := [9]) (by kernel_rfl) (by simp) ?_
  refine AllReadyH.cons rfl (fun K hK => ?_) ?_
  go_simp
  go_wp2_with (go_at_call 9; (with_reducible refine Calls.mono (C2.out _) ?_); rintro e1 wd ⟨rfl, hb13⟩)
  have hle := Nat.le_of_lt KP.out.lt
  replace KP := Lib.hid (KP.out.bw hb13)
  refine hK.out _ _ (hS.trans (Kx.of_bw hb13 hle)) (fun hS => ?_)
  clear hK K
  clear hb13 hle
  refine wpAnyH_ready (rs := [12]) (by kernel_rfl) (by simp) ?_
  refine AllReadyH.cons rfl (fun K hK => ?_) ?_
  go_simp
  go_wp2_with (go_at_call 9; (with_reducible refine Calls.mono (C3.out _) ?_); rintro e1 wd ⟨rfl, hb13⟩)
  have hle := Nat.le_of_lt KP.out.lt
  replace KP := Lib.hid (KP.out.bw hb13)
  refine hK.out _ _ (hS.trans (Kx.of_bw hb13 hle)) (fun hS => ?_)
  clear hK K
  clear hb13 hle
  refine wpAnyH_ready (rs := [15]) (by kernel_rfl) (by simp) ?_
  refine AllReadyH.cons rfl (fun K hK => ?_) ?_
  go_simp
  go_wp2_with (go_at_call 34; (with_reducible refine Calls.mono (C4.out _) ?_); rintro e1 wd ⟨rfl, hb13⟩)
  have hle := Nat.le_of_lt KP.out.lt
  replace KP := Lib.hid (KP.out.bw hb13)
  refine hK.out _ _ (hS.trans (Kx.of_bw hb13 hle)) (fun hS => ?_)
  clear hK K
  clear hb13 hle
  refine wpAnyH_ready (rs := [18]) (by kernel_rfl) (by simp) ?_
  refine AllReadyH.cons rfl (fun K hK => ?_) ?_
  go_simp
  go_wp2_with (go_at_call 34; (with_reducible refine Calls.mono (C5.out _) ?_); rintro e1 wd ⟨rfl, hb13⟩)
  have hle := Nat.le_of_lt KP.out.lt
  replace KP := Lib.hid (KP.out.bw hb13)
  refine hK.out _ _ (hS.trans (Kx.of_bw hb13 hle)) (fun hS => ?_)
  clear hK K
  clear hb13 hle
  refine wpAnyH_ready (rs := [21]) (by kernel_rfl) (by simp) ?_
  refine AllReadyH.cons rfl (fun K hK => ?_) ?_
  go_simp
  go_wp2_with (go_at_call 34; (with_reducible refine Calls.mono (C6.out _) ?_); rintro e1 wd ⟨rfl, hb13⟩)
  have hle := Nat.le_of_lt KP.out.lt
  replace KP := Lib.hid (KP.out.bw hb13)
  refine hK.out _ _ (hS.trans (Kx.of_bw hb13 hle)) (fun hS => ?_)
  clear hK K
  clear hb13 hle
  refine take1 (i := 22) (some 28) rfl rfl (by kernel_rfl) (by kernel_rfl) (by kernel_rfl) (fun _ _ _ _ h => h) rfl hS ?_
  apply Exists.intro
  apply And.intro
  · intro W9 hW9; skip; go_simp; try with_reducible rfl
  simp only [Act.put, List.setIfInBounds_toArray, List.set_cons_zero, List.set_cons_succ]
  refine wpAnyH_ready (rs := [25]) (by kernel_rfl) (by simp) ?_
  refine AllReadyH.cons rfl (fun K hK => ?_) ?_
  go_simp
  go_wp2_with (go_at_call 34; (with_reducible refine Calls.mono (C7.out _) ?_); rintro e1 wd ⟨rfl, hb13⟩)
  have hle := Nat.le_of_lt KP.out.lt
  replace KP := Lib.hid (KP.out.bw hb13)
  refine hK.out _ _ (hS.trans (Kx.of_bw hb13 hle)) (fun hS => ?_)
  clear hK K
  clear hb13 hle
  refine wpAnyH_ready (rs := [28]) (by kernel_rfl) (by simp) ?_
  refine AllReadyH.cons rfl (fun K hK => ?_) ?_
  go_simp
  go_wp2_with (go_at_call 34; (with_reducible refine Calls.mono (C8.out _) ?_); rintro e1 wd ⟨rfl, hb13⟩)
  have hle := Nat.le_of_lt KP.out.lt
  replace KP := Lib.hid (KP.out.bw hb13)
  refine hK.out _ _ (hS.trans (Kx.of_bw hb13 hle)) (fun hS => ?_)
  clear hK K
  clear hb13 hle
  refine wpAnyH_ready (rs := [31]) (by kernel_rfl) (by simp) ?_
  refine AllReadyH.cons rfl (fun K hK => ?_) ?_
  go_simp
  go_wp2_with (go_at_call 34; (with_reducible refine Calls.mono (C9.out _) ?_); rintro e1 wd ⟨rfl, hb13⟩)
  have hle := Nat.le_of_lt KP.out.lt
  replace KP := Lib.hid (KP.out.bw hb13)
  refine hK.out _ _ (hS.trans (Kx.of_bw hb13 hle)) (fun hS => ?_)
  clear hK K
  clear hb13 hle
  refine take1 (i := 32) (some 38) rfl rfl (by kernel_rfl) (by kernel_rfl) (by kernel_rfl) (fun _ _ _ _ h => h) rfl hS ?_
  apply Exists.intro
  apply And.intro
  · intro W9 hW9; skip; go_simp; try with_reducible rfl
  simp only [Act.put, List.setIfInBounds_toArray, List.set_cons_zero, List.set_cons_succ]
  refine wpAnyH_ready (rs := [35]) (by kernel_rfl) (by simp) ?_
  refine AllReadyH.cons rfl (fun K hK => ?_) ?_
  go_simp
  go_wp2_with (go_at_call 34; (with_reducible refine Calls.mono (C10.out _) ?_); rintro e1 wd ⟨rfl, hb13⟩)
  have hle := Nat.le_of_lt KP.out.lt
  replace KP := Lib.hid (KP.out.bw hb13)
  refine hK.out _ _ (hS.trans (Kx.of_bw hb13 hle)) (fun hS => ?_)
  clear hK K
  clear hb13 hle
  refine wpAnyH_ready (rs := [38]) (by kernel_rfl) (by simp) ?_
  refine AllReadyH.cons rfl (fun K hK => ?_) ?_
  go_simp
  go_wp2_with (go_at_call 34; (with_reducible refine Calls.mono (C11.out _) ?_); rintro e1 wd ⟨rfl, hb13⟩)
  have hle := Nat.le_of_lt KP.out.lt
  replace KP := Lib.hid (KP.out.bw hb13)
  refine hK.out _ _ (hS.trans (Kx.of_bw hb13 hle)) (fun hS => ?_)
  clear hK K
  clear hb13 hle
  refine wpAnyH_ready (rs := [41]) (by kernel_rfl) (by simp) ?_
  refine AllReadyH.cons rfl (fun K hK => ?_) ?_
  go_simp
  go_wp2_with (go_at_call 34; (with_reducible refine Calls.mono (C12.out _) ?_); rintro e1 wd ⟨rfl, hb13⟩)
  have hle := Nat.le_of_lt KP.out.lt
  replace KP := Lib.hid (KP.out.bw hb13)
  refine hK.out _ _ (hS.trans (Kx.of_bw hb13 hle)) (fun hS => ?_)
  clear hK K
  clear hb13 hle
  refine take1 (i := 42) (some 48) rfl rfl (by kernel_rfl) (by kernel_rfl) (by kernel_rfl) (fun _ _ _ _ h => h) rfl hS ?_
  apply Exists.intro
  apply And.intro
  · intro W9 hW9; skip; go_simp; try with_reducible rfl
  simp only [Act.put, List.setIfInBounds_toArray, List.set_cons_zero, List.set_cons_succ]
  refine take1 (i := 43) (some 49) rfl rfl (by kernel_rfl) (by kernel_rfl) (by kernel_rfl) (fun _ _ _ _ h => h) rfl hS ?_
  apply Exists.intro
  apply And.intro
  · intro W9 hW9; skip; go_simp; try with_reducible rfl
  simp only [Act.put, List.setIfInBounds_toArray, List.set_cons_zero, List.set_cons_succ]
  refine wpAnyH_ready (rs := [44]) (by kernel_rfl) (by simp) ?_
  refine AllReadyH.cons rfl (fun K hK => ?_) ?_
  rw [if_pos (by rfl)]
  have hst := Kx.row KP.out.lt #[.int .i64 (1 + p0), .int .i64 p1, .int .i64 p2, .int .i64 p3, .int .i64 p4, .int .i64 p5, .int .i64 p6, .int .i64 p7, .int .i64 p8, .int .i64 p9, .int .i64 p10, .int .i64 p11, .int .i64 p12]
  refine wp_store_row0 27 _ _ rfl rfl g #[.int .i64 (1 + p0), .int .i64 p1, .int .i64 p2, .int .i64 p3, .int .i64 p4, .int .i64 p5, .int .i64 p6, .int .i64 p7, .int .i64 p8, .int .i64 p9, .int .i64 p10, .int .i64 p11, .int .i64 p12] rfl rfl 27 _ KP.out (by kernel_rfl) (by simp) (by simp [Value.oneCell']) ?_
  replace KP := Lib.hid (KP.out.row #[.int .i64 (1 + p0), .int .i64 p1, .int .i64 p2, .int .i64 p3, .int .i64 p4, .int .i64 p5, .int .i64 p6, .int .i64 p7, .int .i64 p8, .int .i64 p9, .int .i64 p10, .int .i64 p11, .int .i64 p12])
  refine hK.out _ _ (hS.trans hst) (fun hS => ?_)
  clear hK K
  clear hst
  refine wpAnyH_done (by kernel_rfl) ?_ _
  rotate_left
  exact AllReadyH.nil
  exact AllReadyH.nil
  exact AllReadyH.nil
  exact AllReadyH.nil
  exact AllReadyH.nil
  exact AllReadyH.nil
  exact AllReadyH.nil
  exact AllReadyH.nil
  exact AllReadyH.nil
  exact AllReadyH.nil
  exact AllReadyH.nil
  exact AllReadyH.nil
  exact AllReadyH.nil
  exact AllReadyH.nil
  all_goals
    go_wp2
    refine bodyPost_ret (v := .agg #[.int .i64 (1 + p0), .int .i64 p1, .int .i64 p2, .int .i64 p3, .int .i64 p4, .int .i64 p5, .int .i64 p6, .int .i64 p7, .int .i64 p8, .int .i64 p9, .int .i64 p10, .int .i64 p11, .int .i64 p12]) ?_ rfl ⟨by rw [HR.out], hS.bw HW.out (by have := HG.out; omega)⟩
    exact results_cell_row (p := 2) rfl _ _ g _ _ (0, 0) _ rfl KP.out Tryd.underlying27 rfl (by kernel_rfl)
theorem ofX27_ok (zs : List Int) : errPg (ofX27 zs) = 0 := by
  refine errPg_yes ?_ ?_
  · have b0 := bel_bd (nth zs 0) 63 (by decide)
    have b1 := bel_bd (nth zs 1) 604800 (by decide)
    have b2 := bel_bd (nth zs 2) 65536 (by decide)
    have b3 := bel_bd (nth zs 3) 1048576 (by decide)
    show 1 ≤ 1 + bel (nth zs 0) 63 ∧ 1 + bel (nth zs 0) 63 ≤ 63 ∧ 0 ≤ bel (nth zs 1) 604800 ∧ bel (nth zs 1) 604800 ≤ 604799 ∧ 0 ≤ bel (nth zs 2) 65536 ∧ bel (nth zs 2) 65536 ≤ 65535 ∧ 0 ≤ bel (nth zs 3) 1048576 ∧ bel (nth zs 3) 1048576 ≤ 1048575
    omega
  · intro i hi
    match i, hi with
    | 0, _ => exact ⟨sgn_ok27 _ 20 (by decide), sgn_ok27 _ 20 (by decide), sgn_ok27 _ 20 (by decide)⟩
    | 1, _ => exact ⟨sgn_ok27 _ 14 (by decide), sgn_ok27 _ 14 (by decide), sgn_ok27 _ 14 (by decide)⟩
    | 2, _ => exact ⟨sgn_ok27 _ 12 (by decide), sgn_ok27 _ 12 (by decide), sgn_ok27 _ 12 (by decide)⟩
end Go.Proofs.Sky
