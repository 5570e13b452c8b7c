/-
  lemmas for the theorems of this claim. No conditions beyond those written in the statements.
-/
import Derived.Test.YtpmopobjlpfdaaaDoorFB40
set_option linter.unusedVariables false
set_option linter.unusedSimpArgs false
set_option linter.unnecessarySimpa false
namespace Go.Proofs.Sky
open Go Go.RowKit Go.Shelf
attribute [local go_sem] Oper.semAt_some
set_option maxHeartbeats 4000000
set_option maxRecDepth 8000
/-! chapter 40: WarmOrders -/
theorem run_append_none40 (w : World) (t ty e : TypeId) (i : TypeInfo) (base size : Nat) (ht : Tryd.prog.underlying t = some (.slice e)) (hi : Tryd.prog.info? e = some i)
    (v : Value) (n c : Nat) (xs : List Value) (hown : w.ownsRow base e size v n xs) :
    (Builtin.append_ #[t, t] ty #[v, .slice none 0 c]).run Tryd.prog w = .ok v w := by
  rcases hown.2 with ⟨rfl, rfl⟩ | ⟨g, cap, cur, rfl, _, _, hnc, _⟩
  · simp [Builtin.append_, run_underlying ht, sizeOf, typeInfo, hi, Builtin.lenOf, Builtin.firstCells]
  · simp [Builtin.append_, run_underlying ht, sizeOf, typeInfo, hi, Builtin.lenOf, Builtin.firstCells, hnc, storeCells]
section
variable {ops : Array Oper} {rest : List Oper} {o : Oper} {a : Act} {w : World} {K : Act → World → Prop} {Q : Exit → Act → World → Prop}
theorem wp_append_rdH (s x : Operand) (t : TypeId)
    (ho : o.op = .call { callee := .builtin .append, args := #[s, x], argTypes := #[t, t] }) (dst : Option Tmp) (hd : o.dst = dst)
    (base : Nat) (ht : Tryd.prog.underlying t = some (.slice 23))
    (v : Value) (fs gs : List (Nat → Int)) (hs : a.eval s = v) (hown : w.ownsRow base 23 6 v fs.length (flatH fs))
    (vx : Value) (hx : a.eval x = vx) (hr : RdH w vx gs)
    (hn : fs.length + gs.length ≤ 1000000) (hbase : base ≤ w.heap.size)
    (h : ∀ v' w', w'.ownsRow base 23 6 v' (fs ++ gs).length (flatH (fs ++ gs)) → w.grownBy w' v.ownBlock → K (a.put dst v') w') : o.wp Tryd.prog a w K Q := by
  obtain ⟨_, ax, c, rfl, h4⟩ := hr
  rcases h4 with rfl | ⟨b, off, rfl, hb, hz⟩
  · cases ax with
    | none =>
      subst hd
      obtain ⟨i, hi, hzz⟩ := Option.map_eq_some_iff.1 infoHn
      have h9 := h v w (by simpa using hown) (World.grownBy.refl _ _)
      have h8 := run_append_none40 w t o.type 23 i base 6 ht hi v fs.length c _ hown
      simp only [List.length_nil] at hx
      unfold Oper.wp execOp
      simp only [ho, resolve, invoke, builtin, Sem.run_bind, Sem.run_pure, Result.andThen_ok, List.map_toArray, List.map_cons, List.map_nil, hs, hx, h8]
      exact h9
    | some ad =>
      subst hd
      obtain ⟨i, hi, hzz⟩ := Option.map_eq_some_iff.1 infoHn
      simp only [Prod.mk.injEq] at hzz
      obtain ⟨hz0, hz1, hz2⟩ := hzz
      refine wp_append_own w s x t ho base 23 i _ 6 48 ht hi hz0 hz1 hz2 rfl (by decide) v fs.length (flatH fs) hs hown ad 0 c [] hx rfl (fun j u hu => by simp at hu) (fun u hu => by simp at hu) (by unfold maxLen; simp at hn; omega) (by simp at hn; omega) hbase (fun v' w' h2 h3 h4 => h v' w' (by simpa using h2) h3)
  · exact wp_append_hns s x t ho dst hd base ht v fs gs hs hown b off c hx hz hn hbase (fun v' w' h1 h2 _ => h v' w' h1 h2)
theorem wpList_append_rdH (hgd : o.guard = none) (s x : Operand) (t : TypeId)
    (ho : o.op = .call { callee := .builtin .append, args := #[s, x], argTypes := #[t, t] })
    (base : Nat) (ht : Tryd.prog.underlying t = some (.slice 23))
    (v : Value) (fs gs : List (Nat → Int)) (hs : a.eval s = v) (hown : w.ownsRow base 23 6 v fs.length (flatH fs))
    (vx : Value) (hx : a.eval x = vx) (hr : RdH w vx gs)
    (hn : fs.length + gs.length ≤ 1000000) (hbase : base ≤ w.heap.size)
    (h : ∀ v' w', w'.ownsRow base 23 6 v' (fs ++ gs).length (flatH (fs ++ gs)) → w.grownBy w' v.ownBlock → wpList Tryd.prog ops Q rest (a.put o.dst v') w') : wpList Tryd.prog ops Q (o :: rest) a w :=
  wpList_plain hgd fun _ hK => wp_append_rdH s x t ho o.dst rfl base ht v fs gs hs hown vx hx hr hn hbase (fun v' w' h1 h2 => hK _ _ (h v' w' h1 h2))
end
theorem fits_both (x : Nat → Int) (lag s : Int) : ∃ (fb : Bool) (fe : Int), (∀ W, Calls Tryd.prog 11 #[.agg (hnV x), .int .i64 lag, .int .i64 s] W fun e w' => e = .returned (.tuple #[.bool fb, .int .i64 fe]) ∧ Bw W w') ∧ (∀ W, Calls Tryd.prog 21 #[.agg (hnV x), .int .i64 lag, .int .i64 s] W fun e w' => e = .returned (.tuple #[.bool fb, .int .i64 fe]) ∧ Bw W w') := by
  by_cases h : s < 1 ∨ 8192 < s ∨ x 4 < 0 ∨ s ≤ x 4 ∨ x 5 < 1 ∨ s < x 5 ∨ lag < 0 ∨ s ≤ lag
  · exact ⟨false, 2, fun W => Fits_bad (x 0) (x 1) (x 2) (x 3) (x 4) (x 5) lag s W h, fun W => RFits_bad (x 0) (x 1) (x 2) (x 3) (x 4) (x 5) lag s W h⟩
  · exact ⟨_, _, fun W => Fits_ok (x 0) (x 1) (x 2) (x 3) (x 4) (x 5) lag s W (by omega) (by omega) (by omega) (by omega), fun W => RFits_ok (x 0) (x 1) (x 2) (x 3) (x 4) (x 5) lag s W (by omega) (by omega) (by omega) (by omega)⟩
theorem law_orders40 (hs : List (Nat → Int)) (v : Value) (x : Nat → Int) (lag s : Int) (w : World) (hv : RdH w v hs) (hw : WdAt w) : Calls Tryd.prog 6 #[v, .agg (hnV x), .int .i64 lag, .int .i64 s] w fun e w' => e = .returned (.bool true) ∧ Bw w w' := by
  have AW := Lib.hid (fun W h => awake40_any W h)
  have HSZ : Hid ((Tryd.prog.info? 23).map (·.size) = some (hnV x).size) := Lib.hid (by kernel_rfl)
  have HB0 := Bw.alloc (Bw.refl w) (.cells (hnV x) 23)
  have KX0 := Blk.new w 23 (hnV x)
  obtain ⟨g, hg⟩ : ∃ g, w.heap.size = g := ⟨_, rfl⟩
  have HG := Lib.hid hg
  obtain ⟨a0, c0, rfl⟩ := hv.form
  obtain ⟨W0, hW0⟩ : ∃ W0, w.alloc (.cells (hnV x) 23) = W0 := ⟨_, rfl⟩
  have HWD := Lib.hid (hw.bw HB0)
  have V0 := Lib.hid (hv.mono HB0)
  rw [hW0] at HB0 KX0 HWD V0
  rw [hg] at KX0
  have HBW := Lib.hid HB0
  have HW := Lib.hid (Bw.refl W0)
  have KX := Lib.hid KX0
  have hv63 := hv.1
  clear HB0 KX0 hv hw
  obtain ⟨fb, fe, hf1, hf2⟩ := fits_both x lag s
  have FA := Lib.hid hf1
  have FR := Lib.hid hf2
  clear hf1 hf2
  have OA := Lib.hid (fun v W h hl => order_all hs v W h hl)
  have OR := Lib.hid (fun v W h hl => rOrder_any hs v W h hl)
  unfold OrdQ at OA OR
  have AKI := Lib.hid (fun va vb W h1 h2 => alike_same ((ordL hs).map fun x => x 0) va vb W h1 h2)
  have AKH := Lib.hid (fun va vb W h1 h2 => alikeHn_any hs va vb W h1 h2)
  generalize ((ordL hs).map fun x => x 0) = M at *
  obtain ⟨A, hA⟩ : ∃ A, A = hnV x := ⟨_, rfl⟩
  rw [← hA] at KX hW0 HSZ FA FR ⊢
  clear hA
  obtain ⟨n, hn⟩ : ∃ n, hs.length = n := ⟨_, rfl⟩
  have HN := Lib.hid hn
  rw [hn] at V0 OA OR hv63 ⊢
  clear hn
  go_enter Tryd.func6, Tryd.ntmps6
  go_upto_region 1 with fail
  clear hW0
  by_cases hl : 100 < n
  · have hlz : (100 : Int) < n := by omega
    clear hl
    go_wp2_with (go_at_call 14; (with_reducible refine Calls.mono (AW.out _ HWD.out) ?_); rintro e1 w1 ⟨rfl, hb1⟩)
    go_ret
    exact ⟨rfl, HBW.out.trans hb1⟩
  have hl1 : ¬ (100 : Int) < n := by omega
  have hn70 : n ≤ 1000 := by omega
  clear hl
  have OE := Lib.hid (own_emptyH W0 23)
  have hbe := Bw.alloc (Bw.refl W0) (.cells #[] 23)
  have VA := Lib.hid (V0.out.mono hbe)
  have HWA := Lib.hid hbe
  clear hbe
  go_upto_region 4 with (at_builtin; refine wpList_append_rdH rfl (.tmp 18) (.tmp 19) _ rfl W0.heap.size Tryd.underlying36 _ [] hs rfl OE.out _ rfl VA.out (by have := HN.out; simp; omega) (by simp only [World.size_alloc]; omega) ?_; intro v11 w8 hown hgr; have hgw := bw_grownN rfl HWA.out OE.out hgr; have V1 := Lib.hid (own_rdH hown (by have := HN.out; simp; omega)).1; clear hown hgr)
  rw [List.nil_append] at V1
  replace KX := Lib.hid (KX.out.bw hgw); replace V0 := Lib.hid (V0.out.mono hgw)
  replace HW := Lib.hid (HW.out.trans hgw)
  clear hgw VA HWA OE hl1
  go_upto_region 5 with (first | ((with_reducible refine at_load 23 (.tmp 5) ?_); refine wpList_load_row rfl 23 _ rfl g (by simp [Act.eval, Act.put, HG.out]) 23 A (0, 0) _ KX.out Tryd.underlying23 rfl HSZ.out ?_) | (go_at_call 11; (with_reducible refine Calls.mono (FA.out _) ?_); rintro e1 w9 ⟨rfl, hb1⟩; (try replace KX := Lib.hid (KX.out.bw hb1)); (try replace V0 := Lib.hid (V0.out.mono hb1)); (try replace V1 := Lib.hid (V1.out.mono hb1)); replace HW := Lib.hid (HW.out.trans hb1); clear hb1))
  go_upto_region 6 with (first | ((with_reducible refine at_load 23 (.tmp 5) ?_); refine wpList_load_row rfl 23 _ rfl g (by simp [Act.eval, Act.put, HG.out]) 23 A (0, 0) _ KX.out Tryd.underlying23 rfl HSZ.out ?_) | (go_at_call 21; (with_reducible refine Calls.mono (FR.out _) ?_); rintro e1 w10 ⟨rfl, hb1⟩; (try replace KX := Lib.hid (KX.out.bw hb1)); (try replace V0 := Lib.hid (V0.out.mono hb1)); (try replace V1 := Lib.hid (V1.out.mono hb1)); replace HW := Lib.hid (HW.out.trans hb1); clear hb1))
  go_wp2_with (first | (go_at_call 10; (with_reducible refine Calls.mono (OA.out _ _ V1.out hn70) ?_); rintro e1 w11 ⟨⟨v12, rfl, hr, _⟩, hb1⟩; have V12 := Lib.hid hr; clear hr; (try replace KX := Lib.hid (KX.out.bw hb1)); (try replace V0 := Lib.hid (V0.out.mono hb1)); (try replace V1 := Lib.hid (V1.out.mono hb1)); replace HW := Lib.hid (HW.out.trans hb1); clear hb1) | (go_at_call 22; (with_reducible refine Calls.mono (OR.out _ _ V0.out hn70) ?_); rintro e1 w12 ⟨⟨v13, rfl, hr, _⟩, hb1⟩; have V13 := Lib.hid hr; clear hr; (try replace KX := Lib.hid (KX.out.bw hb1)); (try replace V0 := Lib.hid (V0.out.mono hb1)); (try replace V1 := Lib.hid (V1.out.mono hb1)); replace V12 := Lib.hid (V12.out.mono hb1); replace HW := Lib.hid (HW.out.trans hb1); clear hb1) | (go_at_call 13; (with_reducible refine Calls.mono (AKI.out _ _ _ V12.out V13.out) ?_); rintro e1 w13 ⟨rfl, hb1⟩; (try replace KX := Lib.hid (KX.out.bw hb1)); (try replace V0 := Lib.hid (V0.out.mono hb1)); (try replace V1 := Lib.hid (V1.out.mono hb1)); replace HW := Lib.hid (HW.out.trans hb1); clear hb1) | (go_at_call 23; (with_reducible refine Calls.mono (AKH.out _ _ _ V1.out V0.out) ?_); rintro e1 w14 ⟨rfl, hb1⟩; (try replace KX := Lib.hid (KX.out.bw hb1)); (try replace V0 := Lib.hid (V0.out.mono hb1)); (try replace V1 := Lib.hid (V1.out.mono hb1)); replace HW := Lib.hid (HW.out.trans hb1); clear hb1) | (go_at_call 14; (with_reducible refine Calls.mono (AW.out _ (HWD.out.bw HW.out)) ?_); rintro e1 w15 ⟨rfl, hb1⟩; replace HW := Lib.hid (HW.out.trans hb1); clear hb1))
  go_ret
  exact ⟨rfl, HBW.out.trans HW.out⟩
end Go.Proofs.Sky
