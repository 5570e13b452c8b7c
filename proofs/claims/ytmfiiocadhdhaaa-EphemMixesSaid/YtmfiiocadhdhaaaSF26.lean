/-
  lemmas for the theorems of this claim. No conditions beyond those written in the statements.
-/
import Derived.Test.YtmfiiocadhdhaaaSD26
import Derived.Test.YtmfiiocadhdhaaaSA26
import Derived.Deep.Cut
set_option linter.unusedVariables false
set_option linter.unusedSimpArgs false
set_option linter.unnecessarySimpa false
namespace Go.Proofs.Sky
open Go Go.RowKit Go.Shelf
set_option maxHeartbeats 4000000
set_option maxRecDepth 8000
/-! chapter 26: Add -/
theorem zP_V (D : Nat → Value) (h : ∀ j, D j = .slice none 0 0) : ptV zP.h zP.is zP.pr D = #[.bool false, .bool false, .bool false, .int .i64 0, .int .i64 0, .slice none 0 0, .slice none 0 0, .slice none 0 0] := by
  unfold ptV; rw [h 0, h 1, h 2]; rfl
theorem AddP.zero (X : Nat → Int) (d : Bool) (er : Int) (w' : World) : AddP (zP, X, d, er) (.returned (.tuple #[.agg #[.bool false, .bool false, .bool false, .int .i64 0, .int .i64 0, .slice none 0 0, .slice none 0 0, .slice none 0 0], .agg (eV X), .bool d, .int .i64 er])) w' :=
  ⟨fun _ => .slice none 0 0, by rw [zP_V _ (fun _ => rfl)], fun j _ => ⟨RdI.nil _, Capd.nil⟩⟩
section
variable {o : Oper} {a : Act} {w : World} {Q : Exit → Act → World → Prop}
def Cel (v : Value) : Prop := (∃ x, v = .int .i64 x) ∨ (∃ b, v = .bool b) ∨ ∃ A n c, v = .slice A n c
theorem run_store_cell {P : Program} (ρ : Operand → Value) (ty : TypeId) (x y : Operand) (ho : o.op = .store ty x y) (g off : Nat) (v : Value) (hv : Cel v) (hx : ρ x = .pointer (some ⟨g, off, none⟩)) (hy : ρ y = v)
    (hi : (P.info? ty).map (·.size) = some 1) {T : TypeId} {cs : Array Value} (hB : Blk w g T cs) (hoff : off < cs.size) : (execOp ρ o).run P w = .ok .skip (w.setCell ⟨g, off, none⟩ v) := by
  have hc := hB.cell (Array.getElem?_eq_getElem hoff)
  have hf := hB.frozen off
  obtain ⟨i, hi1, hi2⟩ := Option.map_eq_some_iff.1 hi
  unfold execOp
  simp only [ho]
  rcases hv with ⟨z, rfl⟩ | ⟨b, rfl⟩ | ⟨A, n, c, rfl⟩
  · simp [hx, hy, hi1, hi2, go_sem, hc, hf, Instr.storeAt, Instr.sureAddr, Value.cells, storeVar, sizeOf, typeInfo, storeCells]
  · simp [hx, hy, hi1, hi2, go_sem, hc, hf, Instr.storeAt, Instr.sureAddr, Value.cells, storeVar, sizeOf, typeInfo, storeCells]
  · simp [hx, hy, hi1, hi2, go_sem, hc, hf, Instr.storeAt, Instr.sureAddr, Value.cells, storeVar, sizeOf, typeInfo, storeCells]
theorem wp_store_cell0 {P : Program} {K : Act → World → Prop} (ty : TypeId) (x y : Operand) (ho : o.op = .store ty x y) (hd : o.dst = none) (g off : Nat) (v : Value) (hv : Cel v) (hx : a.eval x = .pointer (some ⟨g, off, none⟩)) (hy : a.eval y = v)
    (hi : (P.info? ty).map (·.size) = some 1) {T : TypeId} {cs : Array Value} (hB : Blk w g T cs) (hoff : off < cs.size) (h : K a (w.setCell ⟨g, off, none⟩ v)) : o.wp P a w K Q := by
  unfold Oper.wp
  rw [run_store_cell a.eval ty x y ho g off v hv hx hy hi hB hoff]
  simp only [Oper.upon_skip]
  rw [hd]; exact h
end
theorem one8 (h : Nat → Bool) (is pr : Int) (D : Nat → Value) (hD : ∀ j, j < 3 → ∃ a n c, D j = .slice a n c) : (ptV h is pr D).all (·.oneCell') = true := by
  obtain ⟨x0, y0, z0, e0⟩ := hD 0 (by omega)
  obtain ⟨x1, y1, z1, e1⟩ := hD 1 (by omega)
  obtain ⟨x2, y2, z2, e2⟩ := hD 2 (by omega)
  unfold ptV
  rw [e0, e1, e2]
  simp [Value.oneCell']
def flE (Z : Nat → List Int) : Nat → Nat → Int
  | 0 => zE
  | m + 1 => fillX (flE Z m) ((m : Int) + 1) (Z m)
theorem nx_good {p : Pm} {zs : List Int} {kk : Nat} (hs : sndP p = true) (hk : rokV zs ((kk : Int) + 1) = true) : ∀ j, j < 3 → (nxP p zs kk).h j = true → rokV ((nxP p zs kk).Z j) ((j : Int) + 1) = true ∧ rvX ((nxP p zs kk).Z j) j 0 = (nxP p zs kk).is ∧ rvX ((nxP p zs kk).Z j) j 1 = (nxP p zs kk).pr := by
  intro j hj hh
  unfold nxP at hh ⊢
  dsimp only at hh ⊢
  by_cases e : j = kk
  · subst e
    rw [if_pos rfl]
    exact ⟨hk, rfl, rfl⟩
  · rw [if_neg e] at hh ⊢
    simp only [Bool.and_eq_true] at hh
    rw [if_pos hh.1]
    have h9 := (snd_len hs hj).2.2 hh.2
    have h8 := hh.1
    unfold smP at h8
    have h7 := of_decide_eq_true h8
    exact ⟨h9.1, h9.2.1.trans h7.1, h9.2.2.trans h7.2⟩
theorem Add26_any (p : Pm) (D : Nat → Value) (t k : Int) (zs : List Int) (v : Value) (w : World) (hD : ∀ j, j < 3 → RdI w (D j) (p.Z j) ∧ Capd (D j)) (hv : RdI w v zs) (hc : Capd v) :
    Calls Try.prog 20 #[.agg (ptV p.h p.is p.pr D), .agg #[.int .i64 t, .int .i64 k, v]] w fun e w' => AddP (addR p t k zs) e w' ∧ Bw w w' := by
  have HV := Lib.hid hv
  have HC := Lib.hid hc
  obtain ⟨a, c, rfl⟩ := hv.form
  clear hv hc
  have SN : Hid (∀ W, Bw w W → Calls Try.prog 40 #[.agg (ptV p.h p.is p.pr D)] W fun e w' => e = .returned (.bool (sndP p)) ∧ Bw W w') := Lib.hid (fun W q => sound26_any p D W (fun j hj => ⟨(hD j hj).1.mono q, (hD j hj).2⟩))
  have BE : Hid (∀ W, Bw w W → Calls Try.prog 36 #[.agg #[.int .i64 t, .int .i64 k, .slice a zs.length c]] W fun e w' => e = .returned (.tuple #[.agg (eV (belX k zs)), .bool (rokP t k zs)]) ∧ Bw W w') := Lib.hid (fun W q => by have h9 := belongs_any t k zs (.slice a zs.length c) W (HV.out.mono q) HC.out; rw [bel_rok] at h9; exact h9)
  have OW := Lib.hid (fun (hs : sndP p = true) W (q : Bw w W) => own26_any p.h p.is p.pr D p.Z W (fun j hj => ⟨(hD j hj).1.mono q, by have := (snd_len hs hj).1; omega⟩))
  clear hD
  have HSP : Hid ((Try.prog.info? 43).map (·.size) = some (ptV p.h p.is p.pr D).size) := Lib.hid (by kernel_rfl)
  have HAR : Hid (∀ r, r = addR p t k zs → ∀ e w', AddP r e w' → AddP (addR p t k zs) e w') := Lib.hid (fun r e _ _ h => e ▸ h)
  have HA1 := Lib.hid (show sndP p = false → (zP, zE, false, (13 : Int)) = addR p t k zs from fun h => by unfold addR; rw [h]; rfl)
  have HA2 := Lib.hid (show sndP p = true → rokP t k zs = false → (zP, zE, false, (3 : Int)) = addR p t k zs from fun h h2 => by unfold addR; rw [h, h2]; rfl)
  obtain ⟨g, hg⟩ : ∃ g, w.heap.size = g := ⟨_, rfl⟩
  have HBW := Lib.hid (Bw.alloc (Bw.alloc (Bw.alloc (Bw.alloc (Bw.refl w) (.cells (ptV p.h p.is p.pr D) 43)) (.cells #[.int .i64 t, .int .i64 k, .slice a zs.length c] 47)) (.cells #[.bool false, .bool false, .bool false, .int .i64 0, .int .i64 0, .slice none 0 0, .slice none 0 0, .slice none 0 0] 43)) (.cells #[.int .i64 0, .int .i64 0, .int .i64 0, .int .i64 0, .int .i64 0, .int .i64 0, .int .i64 0, .int .i64 0, .int .i64 0, .int .i64 0, .int .i64 0, .int .i64 0, .int .i64 0, .int .i64 0, .int .i64 0, .int .i64 0, .int .i64 0, .int .i64 0, .int .i64 0] 25))
  have KP := Lib.hid ((((Blk.new w 43 (ptV p.h p.is p.pr D)).alloc (.cells #[.int .i64 t, .int .i64 k, .slice a zs.length c] 47)).alloc (.cells #[.bool false, .bool false, .bool false, .int .i64 0, .int .i64 0, .slice none 0 0, .slice none 0 0, .slice none 0 0] 43)).alloc (.cells #[.int .i64 0, .int .i64 0, .int .i64 0, .int .i64 0, .int .i64 0, .int .i64 0, .int .i64 0, .int .i64 0, .int .i64 0, .int .i64 0, .int .i64 0, .int .i64 0, .int .i64 0, .int .i64 0, .int .i64 0, .int .i64 0, .int .i64 0, .int .i64 0, .int .i64 0] 25))
  have KF := Lib.hid (((Blk.new (w.alloc (.cells (ptV p.h p.is p.pr D) 43)) 47 #[.int .i64 t, .int .i64 k, .slice a zs.length c]).alloc (.cells #[.bool false, .bool false, .bool false, .int .i64 0, .int .i64 0, .slice none 0 0, .slice none 0 0, .slice none 0 0] 43)).alloc (.cells #[.int .i64 0, .int .i64 0, .int .i64 0, .int .i64 0, .int .i64 0, .int .i64 0, .int .i64 0, .int .i64 0, .int .i64 0, .int .i64 0, .int .i64 0, .int .i64 0, .int .i64 0, .int .i64 0, .int .i64 0, .int .i64 0, .int .i64 0, .int .i64 0, .int .i64 0] 25))
  have KQ := Lib.hid ((Blk.new ((w.alloc (.cells (ptV p.h p.is p.pr D) 43)).alloc (.cells #[.int .i64 t, .int .i64 k, .slice a zs.length c] 47)) 43 #[.bool false, .bool false, .bool false, .int .i64 0, .int .i64 0, .slice none 0 0, .slice none 0 0, .slice none 0 0]).alloc (.cells #[.int .i64 0, .int .i64 0, .int .i64 0, .int .i64 0, .int .i64 0, .int .i64 0, .int .i64 0, .int .i64 0, .int .i64 0, .int .i64 0, .int .i64 0, .int .i64 0, .int .i64 0, .int .i64 0, .int .i64 0, .int .i64 0, .int .i64 0, .int .i64 0, .int .i64 0] 25))
  have KE := Lib.hid (Blk.new (((w.alloc (.cells (ptV p.h p.is p.pr D) 43)).alloc (.cells #[.int .i64 t, .int .i64 k, .slice a zs.length c] 47)).alloc (.cells #[.bool false, .bool false, .bool false, .int .i64 0, .int .i64 0, .slice none 0 0, .slice none 0 0, .slice none 0 0] 43)) 25 #[.int .i64 0, .int .i64 0, .int .i64 0, .int .i64 0, .int .i64 0, .int .i64 0, .int .i64 0, .int .i64 0, .int .i64 0, .int .i64 0, .int .i64 0, .int .i64 0, .int .i64 0, .int .i64 0, .int .i64 0, .int .i64 0, .int .i64 0, .int .i64 0, .int .i64 0])
  simp only [World.size_alloc, hg] at KP KF KQ KE
  generalize ptV p.h p.is p.pr D = PV at *
  go_enter Try.func20, Try.ntmps20
  go_upto_region 1 with fail
  obtain ⟨W0, hW0⟩ : ∃ W0, (((w.alloc (.cells PV 43)).alloc (.cells #[.int .i64 t, .int .i64 k, .slice a zs.length c] 47)).alloc (.cells #[.bool false, .bool false, .bool false, .int .i64 0, .int .i64 0, .slice none 0 0, .slice none 0 0, .slice none 0 0] 43)).alloc (.cells #[.int .i64 0, .int .i64 0, .int .i64 0, .int .i64 0, .int .i64 0, .int .i64 0, .int .i64 0, .int .i64 0, .int .i64 0, .int .i64 0, .int .i64 0, .int .i64 0, .int .i64 0, .int .i64 0, .int .i64 0, .int .i64 0, .int .i64 0, .int .i64 0, .int .i64 0] 25) = W0 := ⟨_, rfl⟩
  rw [hW0] at HBW KP KF KQ KE ⊢
  clear hW0
  rw [← zE_V] at KE
  have HG := Lib.hid hg
  clear hg
  cases hs : sndP p with
  | false =>
    rw [hs] at SN
    have HR := Lib.hid (HA1.out hs)
    go_upto_region 2 with (first | ((with_reducible refine at_load 43 (.tmp 2) ?_); refine wpList_load_row rfl 43 _ rfl g rfl 43 _ (0, 0) _ KP.out Try.underlying43 rfl HSP.out ?_) | (go_at_call 40; (with_reducible refine Calls.mono (SN.out _ HBW.out) ?_); rintro e1 w1 ⟨rfl, hb9⟩; replace HBW := Lib.hid (HBW.out.trans hb9); replace KP := Lib.hid (KP.out.bw hb9); replace KF := Lib.hid (KF.out.bw hb9); replace KQ := Lib.hid (KQ.out.bw hb9); replace KE := Lib.hid (KE.out.bw hb9); clear hb9))
    refine wp_region_held_drew (S := fun W => Bw w W ∧ Blk W (g + 1 + 1) 43 (#[.bool false, .bool false, .bool false, .int .i64 0, .int .i64 0, .slice none 0 0, .slice none 0 0, .slice none 0 0]) ∧ Blk W (g + 1 + 1 + 1) 25 (eV zE)) (by kernel_rfl) ⟨Bw.drew HBW.out, KQ.out.bw (Bw.drew (Bw.refl _)), KE.out.bw (Bw.drew (Bw.refl _))⟩ (fun hS => ?_)
    replace KQ := Lib.hid (KQ.out.bw (Bw.drew (Bw.refl _)))
    generalize World.drew _ = wd at hS KQ ⊢
    refine take1 (i := 0) (some 14) rfl rfl (by kernel_rfl) (by kernel_rfl) (by kernel_rfl) (fun _ _ _ _ h => h) rfl hS ?_
    refine Exists.intro (.agg (#[.bool false, .bool false, .bool false, .int .i64 0, .int .i64 0, .slice none 0 0, .slice none 0 0, .slice none 0 0])) ?_
    apply And.intro
    · intro W9 hW9; skip; exact run_load_row 43 _ rfl (g + 1 + 1) rfl 43 (#[.bool false, .bool false, .bool false, .int .i64 0, .int .i64 0, .slice none 0 0, .slice none 0 0, .slice none 0 0]) _ hW9.2.1 Try.underlying43 rfl (by kernel_rfl)
    simp only [Act.put, List.setIfInBounds_toArray, List.set_cons_zero, List.set_cons_succ]
    refine take1 (i := 1) (some 15) rfl rfl (by kernel_rfl) (by kernel_rfl) (by kernel_rfl) (fun _ _ _ _ h => h) rfl hS ?_
    refine Exists.intro (.agg (eV zE)) ?_
    apply And.intro
    · intro W9 hW9; skip; exact run_load_row 25 _ rfl (g + 1 + 1 + 1) rfl 25 (eV zE) _ hW9.2.2 Try.underlying25 rfl (by kernel_rfl)
    simp only [Act.put, List.setIfInBounds_toArray, List.set_cons_zero, List.set_cons_succ]
    refine wpAnyH_ready (rs := [2]) (by kernel_rfl) (by simp) ?_
    refine AllReadyH.cons rfl (fun K hK => ?_) ?_
    rw [if_pos (by rfl)]
    refine wp_store_row0 43 _ _ rfl rfl (g + 1 + 1) (#[.bool false, .bool false, .bool false, .int .i64 0, .int .i64 0, .slice none 0 0, .slice none 0 0, .slice none 0 0]) rfl rfl 43 _ KQ.out (by kernel_rfl) rfl (by simp [Value.oneCell']) ?_
    replace KQ := Lib.hid (KQ.out.row (#[.bool false, .bool false, .bool false, .int .i64 0, .int .i64 0, .slice none 0 0, .slice none 0 0, .slice none 0 0]))
    refine hK.out _ _ ⟨Bw.setRow hS.1 (by have := HG.out; omega) (#[.bool false, .bool false, .bool false, .int .i64 0, .int .i64 0, .slice none 0 0, .slice none 0 0, .slice none 0 0]), KQ.out, hS.2.2.row_other (by omega) (#[.bool false, .bool false, .bool false, .int .i64 0, .int .i64 0, .slice none 0 0, .slice none 0 0, .slice none 0 0])⟩ (fun hS => ?_)
    clear hK K
    refine wpAnyH_ready (rs := [3]) (by kernel_rfl) (by simp) ?_
    refine AllReadyH.cons rfl (fun K hK => ?_) ?_
    rw [if_pos (by rfl)]
    refine wp_store_row0 25 _ _ rfl rfl (g + 1 + 1 + 1) (eV zE) rfl rfl 25 (eV zE) hS.2.2 (by kernel_rfl) rfl (by simp [Value.oneCell', eV]) ?_
    replace KQ := Lib.hid (KQ.out.row_other (g' := (g + 1 + 1 + 1)) (by omega) (eV zE))
    refine hK.out _ _ ⟨Bw.setRow hS.1 (by have := HG.out; omega) (eV zE), KQ.out, hS.2.2.row (eV zE)⟩ (fun hS => ?_)
    clear hK K
    refine take1 (i := 4) (some 6) rfl rfl (by kernel_rfl) (by kernel_rfl) (by kernel_rfl) (fun _ _ _ _ h => h) rfl hS ?_
    apply Exists.intro
    apply And.intro
    · intro W9 hW9; skip; go_simp; try with_reducible rfl
    simp only [Act.put, List.setIfInBounds_toArray, List.set_cons_zero, List.set_cons_succ]
    refine take1 (i := 5) (some 7) rfl rfl (by kernel_rfl) (by kernel_rfl) (by kernel_rfl) (fun _ _ _ _ h => h) rfl hS ?_
    apply Exists.intro
    apply And.intro
    · intro W9 hW9; skip; go_simp; try with_reducible rfl
    simp only [Act.put, List.setIfInBounds_toArray, List.set_cons_zero, List.set_cons_succ]
    refine wpAnyH_done (by kernel_rfl) ?_ _
    rotate_left
    exact AllReadyH.nil
    exact AllReadyH.nil
    go_wp2
    refine bodyPost_ret (v := .tuple #[.agg (#[.bool false, .bool false, .bool false, .int .i64 0, .int .i64 0, .slice none 0 0, .slice none 0 0, .slice none 0 0]), .agg (eV zE), .bool false, .int .i64 13]) ?_ rfl ⟨HAR.out _ HR.out _ _ (AddP.zero _ _ _ _), hS.1⟩
    exact res_add (p := 4) (q := 5) (u := 6) (v := 7) rfl _ _ _ _ _ rfl _ rfl KQ.out rfl hS.2.2
  | true =>
    rw [hs] at SN
    replace HA2 := Lib.hid (HA2.out hs)
    have HSL := Lib.hid (fun j hj => snd_len hs (j := j) hj)
    have HRF := Lib.hid (fun hr => rs_false (zs := zs) (k := kdN k) hs hr)
    have HRT := Lib.hid (fun hr => rs_true (p := p) (zs := zs) (k := kdN k) hr)
    have HX1 := Lib.hid (show rokP t k zs = true → kdN k < 3 ∧ k = (kdN k : Int) + 1 ∧ rokV zs k = true ∧ belX k zs 1 = rvX zs (kdN k) 0 ∧ belX k zs 0 = rvX zs (kdN k) 1 from fun h => by
      have h1 := rokP_kind h
      have h2 : k = (kdN k : Int) + 1 := by have := kd_sub h1.1 h1.2; omega
      have h3 : rokV zs k = true := by unfold rokP at h; simp only [Bool.and_eq_true] at h; exact h.2
      have h4 := fill_is (kdN_lt k) zE (zs := zs) (by rw [← h2]; exact h3)
      rw [← h2] at h4
      exact ⟨kdN_lt k, h2, h3, h4⟩)
    generalize belX k zs = X at *
    go_upto_region 4 with (first | ((with_reducible refine at_load 43 (.tmp 2) ?_); refine wpList_load_row rfl 43 _ rfl g rfl 43 _ (0, 0) _ KP.out Try.underlying43 rfl HSP.out ?_) | ((with_reducible refine at_load 47 (.tmp 3) ?_); refine wpList_load_row rfl 47 _ rfl (g + 1) rfl 47 _ (0, 0) _ KF.out Try.underlying47 rfl (by kernel_rfl) ?_) | ((with_reducible refine at_store 25 (.tmp 8) (.tmp 19) ?_); refine wpList_store_row rfl 25 (.tmp 8) (.tmp 19) rfl w2.heap.size (eV X) rfl rfl 25 _ K8.out (by kernel_rfl) rfl (by simp [Value.oneCell', eV]) ?_) | (go_at_call 40; (with_reducible refine Calls.mono (SN.out _ HBW.out) ?_); rintro e1 w1 ⟨rfl, hb9⟩; replace HBW := Lib.hid (HBW.out.trans hb9); replace KP := Lib.hid (KP.out.bw hb9); replace KF := Lib.hid (KF.out.bw hb9); replace KQ := Lib.hid (KQ.out.bw hb9); replace KE := Lib.hid (KE.out.bw hb9); clear hb9) | (go_at_call 36; (with_reducible refine Calls.mono (BE.out _ HBW.out) ?_); rintro e1 w2 ⟨rfl, hb9⟩; replace HBW := Lib.hid (HBW.out.trans hb9); replace KP := Lib.hid (KP.out.bw hb9); replace KF := Lib.hid (KF.out.bw hb9); replace KQ := Lib.hid (KQ.out.bw hb9); replace KE := Lib.hid (KE.out.bw hb9); clear hb9; have K8 := Lib.hid (Blk.new w2 25 #[.int .i64 0, .int .i64 0, .int .i64 0, .int .i64 0, .int .i64 0, .int .i64 0, .int .i64 0, .int .i64 0, .int .i64 0, .int .i64 0, .int .i64 0, .int .i64 0, .int .i64 0, .int .i64 0, .int .i64 0, .int .i64 0, .int .i64 0, .int .i64 0, .int .i64 0])))
    obtain ⟨g8, hg8⟩ : ∃ g8, w2.heap.size = g8 := ⟨_, rfl⟩
    have H8 := Lib.hid (show g + 1 + 1 + 1 < g8 by have := KE.out.lt; omega)
    have hb9 := Bw.setRow (Bw.alloc (Bw.refl w2) (.cells #[.int .i64 0, .int .i64 0, .int .i64 0, .int .i64 0, .int .i64 0, .int .i64 0, .int .i64 0, .int .i64 0, .int .i64 0, .int .i64 0, .int .i64 0, .int .i64 0, .int .i64 0, .int .i64 0, .int .i64 0, .int .i64 0, .int .i64 0, .int .i64 0, .int .i64 0] 25)) (Nat.le_refl _) (eV X)
    replace K8 := Lib.hid (K8.out.row (eV X))
    rw [hg8] at K8 hb9 ⊢
    obtain ⟨W3, hW3⟩ : ∃ W3, (w2.alloc (.cells #[.int .i64 0, .int .i64 0, .int .i64 0, .int .i64 0, .int .i64 0, .int .i64 0, .int .i64 0, .int .i64 0, .int .i64 0, .int .i64 0, .int .i64 0, .int .i64 0, .int .i64 0, .int .i64 0, .int .i64 0, .int .i64 0, .int .i64 0, .int .i64 0, .int .i64 0] 25)).setRow g8 (eV X) = W3 := ⟨_, rfl⟩
    rw [hW3] at K8 hb9 ⊢
    clear hW3 hg8
    replace HBW := Lib.hid (HBW.out.trans hb9)
    replace KP := Lib.hid (KP.out.bw hb9)
    replace KF := Lib.hid (KF.out.bw hb9)
    replace KQ := Lib.hid (KQ.out.bw hb9)
    replace KE := Lib.hid (KE.out.bw hb9)
    clear hb9
    cases hrk : rokP t k zs with
    | false =>
      have HR := Lib.hid (HA2.out hrk)
      go_upto_region 5 with fail
      refine wp_region_held_drew (S := fun W => Bw w W ∧ Blk W (g + 1 + 1) 43 (#[.bool false, .bool false, .bool false, .int .i64 0, .int .i64 0, .slice none 0 0, .slice none 0 0, .slice none 0 0]) ∧ Blk W (g + 1 + 1 + 1) 25 (eV zE)) (by kernel_rfl) ⟨Bw.drew HBW.out, KQ.out.bw (Bw.drew (Bw.refl _)), KE.out.bw (Bw.drew (Bw.refl _))⟩ (fun hS => ?_)
      replace KQ := Lib.hid (KQ.out.bw (Bw.drew (Bw.refl _)))
      generalize World.drew _ = wd at hS KQ ⊢
      refine take1 (i := 0) (some 23) rfl rfl (by kernel_rfl) (by kernel_rfl) (by kernel_rfl) (fun _ _ _ _ h => h) rfl hS ?_
      refine Exists.intro (.agg (#[.bool false, .bool false, .bool false, .int .i64 0, .int .i64 0, .slice none 0 0, .slice none 0 0, .slice none 0 0])) ?_
      apply And.intro
      · intro W9 hW9; skip; exact run_load_row 43 _ rfl (g + 1 + 1) rfl 43 (#[.bool false, .bool false, .bool false, .int .i64 0, .int .i64 0, .slice none 0 0, .slice none 0 0, .slice none 0 0]) _ hW9.2.1 Try.underlying43 rfl (by kernel_rfl)
      simp only [Act.put, List.setIfInBounds_toArray, List.set_cons_zero, List.set_cons_succ]
      refine take1 (i := 1) (some 24) rfl rfl (by kernel_rfl) (by kernel_rfl) (by kernel_rfl) (fun _ _ _ _ h => h) rfl hS ?_
      refine Exists.intro (.agg (eV zE)) ?_
      apply And.intro
      · intro W9 hW9; skip; exact run_load_row 25 _ rfl (g + 1 + 1 + 1) rfl 25 (eV zE) _ hW9.2.2 Try.underlying25 rfl (by kernel_rfl)
      simp only [Act.put, List.setIfInBounds_toArray, List.set_cons_zero, List.set_cons_succ]
      refine wpAnyH_ready (rs := [2]) (by kernel_rfl) (by simp) ?_
      refine AllReadyH.cons rfl (fun K hK => ?_) ?_
      rw [if_pos (by rfl)]
      refine wp_store_row0 43 _ _ rfl rfl (g + 1 + 1) (#[.bool false, .bool false, .bool false, .int .i64 0, .int .i64 0, .slice none 0 0, .slice none 0 0, .slice none 0 0]) rfl rfl 43 _ KQ.out (by kernel_rfl) rfl (by simp [Value.oneCell']) ?_
      replace KQ := Lib.hid (KQ.out.row (#[.bool false, .bool false, .bool false, .int .i64 0, .int .i64 0, .slice none 0 0, .slice none 0 0, .slice none 0 0]))
      refine hK.out _ _ ⟨Bw.setRow hS.1 (by have := HG.out; omega) (#[.bool false, .bool false, .bool false, .int .i64 0, .int .i64 0, .slice none 0 0, .slice none 0 0, .slice none 0 0]), KQ.out, hS.2.2.row_other (by omega) (#[.bool false, .bool false, .bool false, .int .i64 0, .int .i64 0, .slice none 0 0, .slice none 0 0, .slice none 0 0])⟩ (fun hS => ?_)
      clear hK K
      refine wpAnyH_ready (rs := [3]) (by kernel_rfl) (by simp) ?_
      refine AllReadyH.cons rfl (fun K hK => ?_) ?_
      rw [if_pos (by rfl)]
      refine wp_store_row0 25 _ _ rfl rfl (g + 1 + 1 + 1) (eV zE) rfl rfl 25 (eV zE) hS.2.2 (by kernel_rfl) rfl (by simp [Value.oneCell', eV]) ?_
      replace KQ := Lib.hid (KQ.out.row_other (g' := (g + 1 + 1 + 1)) (by omega) (eV zE))
      refine hK.out _ _ ⟨Bw.setRow hS.1 (by have := HG.out; omega) (eV zE), KQ.out, hS.2.2.row (eV zE)⟩ (fun hS => ?_)
      clear hK K
      refine take1 (i := 4) (some 6) rfl rfl (by kernel_rfl) (by kernel_rfl) (by kernel_rfl) (fun _ _ _ _ h => h) rfl hS ?_
      apply Exists.intro
      apply And.intro
      · intro W9 hW9; skip; go_simp; try with_reducible rfl
      simp only [Act.put, List.setIfInBounds_toArray, List.set_cons_zero, List.set_cons_succ]
      refine take1 (i := 5) (some 7) rfl rfl (by kernel_rfl) (by kernel_rfl) (by kernel_rfl) (fun _ _ _ _ h => h) rfl hS ?_
      apply Exists.intro
      apply And.intro
      · intro W9 hW9; skip; go_simp; try with_reducible rfl
      simp only [Act.put, List.setIfInBounds_toArray, List.set_cons_zero, List.set_cons_succ]
      refine wpAnyH_done (by kernel_rfl) ?_ _
      rotate_left
      exact AllReadyH.nil
      exact AllReadyH.nil
      go_wp2
      refine bodyPost_ret (v := .tuple #[.agg (#[.bool false, .bool false, .bool false, .int .i64 0, .int .i64 0, .slice none 0 0, .slice none 0 0, .slice none 0 0]), .agg (eV zE), .bool false, .int .i64 3]) ?_ rfl ⟨HAR.out _ HR.out _ _ (AddP.zero _ _ _ _), hS.1⟩
      exact res_add (p := 4) (q := 5) (u := 6) (v := 7) rfl _ _ _ _ _ rfl _ rfl KQ.out rfl hS.2.2
    | true =>
      obtain ⟨h1, h2, h3, h4, h5⟩ := HX1.out hrk
      clear HX1 HA1 HA2 SN BE
      have HA3 : Hid (((nxP p zs (kdN k)).h 0 && ((nxP p zs (kdN k)).h 1 && (nxP p zs (kdN k)).h 2)) = false → (nxP p zs (kdN k), zE, false, (0 : Int)) = addR p t k zs) := Lib.hid (fun h => by
        unfold addR; rw [hs, hrk, if_pos rfl, if_pos rfl, if_neg]
        rw [Bool.and_assoc, h]; decide)
      have HA4 : Hid (((nxP p zs (kdN k)).h 0 && ((nxP p zs (kdN k)).h 1 && (nxP p zs (kdN k)).h 2)) = true → (zP, togE (rvL ((nxP p zs (kdN k)).Z 0) 0) (rvL ((nxP p zs (kdN k)).Z 1) 1) (rvL ((nxP p zs (kdN k)).Z 2) 2), true, (0 : Int)) = addR p t k zs) := Lib.hid (fun h => by
        unfold addR; rw [hs, hrk, if_pos rfl, if_pos rfl, if_pos]
        rw [Bool.and_assoc, h])
      have HZL := Lib.hid (show zs.length ≤ 206 by have h9 := gdF_of (rok_gd hrk).1; have := h9.len; omega)
      obtain ⟨kk, hkk⟩ : ∃ kk, kk = kdN k := ⟨_, rfl⟩
      rw [← hkk] at h1 h2 h4 h5 HA3 HA4 HRF HRT
      clear hkk
      subst h2
      have HK3 := Lib.hid h3
      have HXV := Lib.hid (And.intro h4 h5)
      clear h3 h4 h5
      go_upto_region 6 with fail
      have HB8 := Lib.hid (K8.out.lt)
      obtain ⟨B, hB⟩ : ∃ B, W3.heap.size = B := ⟨_, rfl⟩
      rw [hB] at HB8
      go_upto_region 7 with (first | ((with_reducible refine at_load 43 (.tmp 2) ?_); refine wpList_load_row rfl 43 _ rfl g rfl 43 _ (0, 0) _ KP.out Try.underlying43 rfl HSP.out ?_) | (go_at_call 41; (with_reducible refine Calls.mono (OW.out hs _ HBW.out) ?_); rintro e1 w4 ⟨⟨D1, rfl, hd1⟩, hb9⟩; rw [hB] at hd1; replace HBW := Lib.hid (HBW.out.trans hb9); replace KP := Lib.hid (KP.out.bw hb9); replace KF := Lib.hid (KF.out.bw hb9); replace KQ := Lib.hid (KQ.out.bw hb9); replace KE := Lib.hid (KE.out.bw hb9); replace K8 := Lib.hid (K8.out.bw hb9); have HD1 := Lib.hid hd1; have HSZ4 := Lib.hid (show B ≤ w4.heap.size by have := hb9.size; omega); clear hb9 hd1; have HO1 := Lib.hid (one8 p.h p.is p.pr D1 (fun j hj => by obtain ⟨x, y, e⟩ := (HD1.out j hj).1.form; exact ⟨x, _, y, e⟩))) | ((with_reducible refine at_store 43 (.tmp 4) (.tmp 26) ?_); refine wpList_store_row rfl 43 (.tmp 4) (.tmp 26) rfl (g + 1 + 1) (ptV p.h p.is p.pr D1) rfl rfl 43 _ KQ.out (by kernel_rfl) rfl HO1.out ?_))
      clear hB
      have hkx := Kx.row KQ.out.lt (ptV p.h p.is p.pr D1)
      have hbs := Bw.setRow HBW.out (show w.heap.size ≤ g + 1 + 1 by have := HG.out; omega) (ptV p.h p.is p.pr D1)
      replace KP := Lib.hid (hkx.blk KP.out (by omega))
      replace KF := Lib.hid (hkx.blk KF.out (by omega))
      replace KE := Lib.hid (hkx.blk KE.out (by omega))
      replace K8 := Lib.hid (hkx.blk K8.out (by have := H8.out; omega))
      replace KQ := Lib.hid (KQ.out.row (ptV p.h p.is p.pr D1))
      replace HD1 := Lib.hid (fun j hj => (HD1.out j hj).kx hkx (by have := H8.out; have := HB8.out; omega))
      replace HBW := Lib.hid hbs
      have HSZ := Lib.hid (show B ≤ (w4.setRow (g + 1 + 1) (ptV p.h p.is p.pr D1)).heap.size by simpa using HSZ4.out)
      clear hbs hkx HSZ4
      generalize World.setRow w4 _ _ = W4 at *
      have q0 := KQ.out.cell (ptV_h p.h p.is p.pr D1 0 (by omega))
      have q1 := KQ.out.cell (ptV_h p.h p.is p.pr D1 1 (by omega))
      have q2 := KQ.out.cell (ptV_h p.h p.is p.pr D1 2 (by omega))
      have q3 := KQ.out.cell (ptV_is p.h p.is p.pr D1)
      have q4 := KQ.out.cell (ptV_pr p.h p.is p.pr D1)
      have e0 := K8.out.cell (eV_at X 0 (by omega))
      have e1 := K8.out.cell (eV_at X 1 (by omega))
      have hq := fun W => eqF3 (p.h 0) (p.h 1) (p.h 2) W
      have hqg := fun op x y W => eqB3_guard (p.h 0) (p.h 1) (p.h 2) false false false op x y W
      simp only [Act.put]
      go_cut [44] from 11 (fun s44 wc => s44 = .bool (rsB p zs kk) ∧ wc = W4)
      case first =>
        have HRS := Lib.hid (show rsB p zs kk = ((p.h 0 || (p.h 1 || p.h 2)) && !(decide (p.is = X 1 ∧ p.pr = X 0))) by rw [HXV.out.1, HXV.out.2]; rfl)
        generalize (p.h 0 || (p.h 1 || p.h 2)) = A at hq HRS
        generalize X 1 = x1 at *
        generalize X 0 = x0 at *
        generalize rsB p zs kk = RS at *
        cases A with
        | false =>
          go_wp2
          go_meet
          exact ⟨by rw [HRS.out]; rfl, rfl⟩
        | true =>
          by_cases r1 : p.is = x1
          · have r1b : (p.is != x1) = false := by simpa using r1
            by_cases r2 : p.pr = x0
            · have r2b : (p.pr != x0) = false := by simpa using r2
              replace HRS := Lib.hid (HRS.out.trans (by rw [decide_eq_true ⟨r1, r2⟩]; rfl : _ = false))
              clear r1 r2
              go_wp2
              go_meet
              exact ⟨by rw [HRS.out], rfl⟩
            · have r2b : (p.pr != x0) = true := by simpa using r2
              replace HRS := Lib.hid (HRS.out.trans (by rw [decide_eq_false (fun h9 => r2 h9.2)]; rfl : _ = true))
              clear r1 r2
              go_wp2
              go_meet
              exact ⟨by rw [HRS.out], rfl⟩
          · have r1b : (p.is != x1) = true := by simpa using r1
            replace HRS := Lib.hid (HRS.out.trans (by rw [decide_eq_false (fun h9 => r1 h9.1)]; rfl : _ = true))
            clear r1
            go_wp2
            go_meet
            exact ⟨by rw [HRS.out], rfl⟩
      case rest =>
        obtain ⟨rfl, hwc⟩ := hcut
        subst hwc
        clear hq hqg q0 q1 q2 q3 q4 e0 e1
        go_upto_if 44 with fail
        go_cut [] from 11 (fun wx => Hid (Bw w wx) ∧ Hid (B ≤ wx.heap.size) ∧ Hid (Blk wx (g + 1) 47 #[.int .i64 t, .int .i64 ((kk : Int) + 1), .slice a zs.length c]) ∧ Hid (Blk wx (g + 1 + 1 + 1) 25 (eV zE)) ∧ Hid (Blk wx g8 25 (eV X)) ∧ ∃ is' pr' D2, Hid (Blk wx (g + 1 + 1) 43 (ptV (fun j => smP p zs kk && p.h j) is' pr' D2)) ∧ Hid (∀ j, j < 3 → RdN wx B (D2 j) (if smP p zs kk then p.Z j else [])))
        case first =>
          cases hrs : rsB p zs kk with
          | true =>
            have hsm := HRT.out hrs
            go_wp2_with ((with_reducible refine at_store 43 (.tmp 4) (.tmp 45) ?_); refine wpList_store_row rfl 43 (.tmp 4) (.tmp 45) rfl (g + 1 + 1) #[.bool false, .bool false, .bool false, .int .i64 0, .int .i64 0, .slice none 0 0, .slice none 0 0, .slice none 0 0] rfl rfl 43 _ KQ.out (by kernel_rfl) rfl (by simp [Value.oneCell']) ?_)
            go_meet
            have hkx := Kx.row KQ.out.lt #[.bool false, .bool false, .bool false, .int .i64 0, .int .i64 0, .slice none 0 0, .slice none 0 0, .slice none 0 0]
            have hbs := Bw.setRow HBW.out (show w.heap.size ≤ g + 1 + 1 by have := HG.out; omega) #[.bool false, .bool false, .bool false, .int .i64 0, .int .i64 0, .slice none 0 0, .slice none 0 0, .slice none 0 0]
            refine ⟨Lib.hid hbs, Lib.hid (by simpa using HSZ.out), Lib.hid (hkx.blk KF.out (by omega)), Lib.hid (hkx.blk KE.out (by omega)), Lib.hid (hkx.blk K8.out (by have := H8.out; omega)), 0, 0, fun _ => .slice none 0 0, ?_, ?_⟩
            · rw [hsm]
              exact Lib.hid (KQ.out.row #[.bool false, .bool false, .bool false, .int .i64 0, .int .i64 0, .slice none 0 0, .slice none 0 0, .slice none 0 0])
            · rw [hsm]
              exact Lib.hid (fun j _ => RdN.nil _ _)
          | false =>
            go_wp2
            go_meet
            have HR9 := HRF.out hrs
            refine ⟨HBW, HSZ, KF, KE, K8, p.is, p.pr, D1, ?_, ?_⟩
            · rw [ptV_congr p.is p.pr D1 (fun j hj => (HR9 j hj).1)]
              exact KQ
            · exact Lib.hid (fun j hj => by rw [(HR9 j hj).2]; exact HD1.out j hj)
        case rest =>
          clear KF KE K8 KQ HD1 HBW KP HRT HRF HO1 HSZ
          obtain ⟨HBW, HSZ, KF, KE, K8, is', pr', D2, KQ, HD2⟩ := hcut
          go_upto_region 9 with fail
          refine wp_region_held_drew (S := fun W => Bw w W ∧ Blk W g8 25 (eV X)) (by kernel_rfl) ⟨Bw.drew HBW.out, K8.out.bw (Bw.drew (Bw.refl _))⟩ (fun hS => ?_)
          replace KQ := Lib.hid (KQ.out.bw (Bw.drew (Bw.refl _)))
          replace KF := Lib.hid (KF.out.bw (Bw.drew (Bw.refl _)))
          replace KE := Lib.hid (KE.out.bw (Bw.drew (Bw.refl _)))
          replace HD2 := Lib.hid (fun j hj => (HD2.out j hj).bw (Bw.drew (Bw.refl _)))
          clear K8 HBW
          replace HSZ := Lib.hid (show B ≤ (World.drew wc).heap.size from HSZ.out)
          generalize World.drew _ = wd at hS KQ KF KE HD2 HSZ ⊢
          refine take1 (i := 0) (some 46) rfl rfl (by kernel_rfl) (by kernel_rfl) (by kernel_rfl) (fun _ _ _ _ h => h) rfl hS ?_
          apply Exists.intro
          apply And.intro
          · intro W9 hW9; have y1 := hW9.2.cell (eV_at X 1 (by omega)); have y0 := hW9.2.cell (eV_at X 0 (by omega)); go_simp; try with_reducible rfl
          simp only [Act.put, List.setIfInBounds_toArray, List.set_cons_zero, List.set_cons_succ]
          refine take1 (i := 1) (some 47) rfl rfl (by kernel_rfl) (by kernel_rfl) (by kernel_rfl) (fun _ _ _ _ h => h) rfl hS ?_
          apply Exists.intro
          apply And.intro
          · intro W9 hW9; have y1 := hW9.2.cell (eV_at X 1 (by omega)); have y0 := hW9.2.cell (eV_at X 0 (by omega)); go_simp; try with_reducible rfl
          simp only [Act.put, List.setIfInBounds_toArray, List.set_cons_zero, List.set_cons_succ]
          refine take1 (i := 2) (some 48) rfl rfl (by kernel_rfl) (by kernel_rfl) (by kernel_rfl) (fun _ _ _ _ h => h) rfl hS ?_
          apply Exists.intro
          apply And.intro
          · intro W9 hW9; have y1 := hW9.2.cell (eV_at X 1 (by omega)); have y0 := hW9.2.cell (eV_at X 0 (by omega)); go_simp; try with_reducible rfl
          simp only [Act.put, List.setIfInBounds_toArray, List.set_cons_zero, List.set_cons_succ]
          refine take1 (i := 3) (some 49) rfl rfl (by kernel_rfl) (by kernel_rfl) (by kernel_rfl) (fun _ _ _ _ h => h) rfl hS ?_
          apply Exists.intro
          apply And.intro
          · intro W9 hW9; have y1 := hW9.2.cell (eV_at X 1 (by omega)); have y0 := hW9.2.cell (eV_at X 0 (by omega)); go_simp; try with_reducible rfl
          simp only [Act.put, List.setIfInBounds_toArray, List.set_cons_zero, List.set_cons_succ]
          refine take1 (i := 4) (some 50) rfl rfl (by kernel_rfl) (by kernel_rfl) (by kernel_rfl) (fun _ _ _ _ h => h) rfl hS ?_
          apply Exists.intro
          apply And.intro
          · intro W9 hW9; have y1 := hW9.2.cell (eV_at X 1 (by omega)); have y0 := hW9.2.cell (eV_at X 0 (by omega)); go_simp; try with_reducible rfl
          simp only [Act.put, List.setIfInBounds_toArray, List.set_cons_zero, List.set_cons_succ]
          refine wpAnyH_ready (rs := [5]) (by kernel_rfl) (by simp) ?_
          refine AllReadyH.cons rfl (fun K hK => ?_) ?_
          rw [if_pos (by rfl)]
          refine wp_store_cell0 3 _ _ rfl rfl (g + 1 + 1) (3) (.int .i64 (X 1)) (.inl ⟨_, rfl⟩) rfl rfl (by kernel_rfl) KQ.out (by simp [ptV]) ?_
          replace KQ := Lib.hid (KQ.out.set (3) (.int .i64 (X 1)))
          replace HD2 := Lib.hid (fun j hj => (HD2.out j hj).set (b := g + 1 + 1) (by have := H8.out; have := HB8.out; omega) (3) (.int .i64 (X 1)))
          replace KF := Lib.hid (KF.out.set_other (b := g + 1 + 1) (by omega) (3) (.int .i64 (X 1)))
          replace KE := Lib.hid (KE.out.set_other (b := g + 1 + 1) (by omega) (3) (.int .i64 (X 1)))
          refine hK.out _ _ ⟨Bw.setCell hS.1 (p := ⟨g + 1 + 1, 3, none⟩) (by have := HG.out; simp; omega) (.int .i64 (X 1)), hS.2.set_other (b := g + 1 + 1) (by have := H8.out; omega) (3) (.int .i64 (X 1))⟩ (fun hS => ?_)
          clear hK K
          refine take1 (i := 6) (some 51) rfl rfl (by kernel_rfl) (by kernel_rfl) (by kernel_rfl) (fun _ _ _ _ h => h) rfl hS ?_
          apply Exists.intro
          apply And.intro
          · intro W9 hW9; have y1 := hW9.2.cell (eV_at X 1 (by omega)); have y0 := hW9.2.cell (eV_at X 0 (by omega)); go_simp; try with_reducible rfl
          simp only [Act.put, List.setIfInBounds_toArray, List.set_cons_zero, List.set_cons_succ]
          refine wpAnyH_ready (rs := [7]) (by kernel_rfl) (by simp) ?_
          refine AllReadyH.cons rfl (fun K hK => ?_) ?_
          rw [if_pos (by rfl)]
          refine wp_store_cell0 3 _ _ rfl rfl (g + 1 + 1) (4) (.int .i64 (X 0)) (.inl ⟨_, rfl⟩) rfl rfl (by kernel_rfl) KQ.out (by simp [ptV]) ?_
          replace KQ := Lib.hid (KQ.out.set (4) (.int .i64 (X 0)))
          replace HD2 := Lib.hid (fun j hj => (HD2.out j hj).set (b := g + 1 + 1) (by have := H8.out; have := HB8.out; omega) (4) (.int .i64 (X 0)))
          replace KF := Lib.hid (KF.out.set_other (b := g + 1 + 1) (by omega) (4) (.int .i64 (X 0)))
          replace KE := Lib.hid (KE.out.set_other (b := g + 1 + 1) (by omega) (4) (.int .i64 (X 0)))
          refine hK.out _ _ ⟨Bw.setCell hS.1 (p := ⟨g + 1 + 1, 4, none⟩) (by have := HG.out; simp; omega) (.int .i64 (X 0)), hS.2.set_other (b := g + 1 + 1) (by have := H8.out; omega) (4) (.int .i64 (X 0))⟩ (fun hS => ?_)
          clear hK K
          refine wpAnyH_done (by kernel_rfl) ?_ _
          rotate_left
          exact AllReadyH.nil
          exact AllReadyH.nil
          have HBW := Lib.hid hS.1
          clear hS
          clear hS
          rw [ptV_setis, ptV_setpr] at KQ
          replace HSZ := Lib.hid (show B ≤ (World.setCell (World.setCell wd ⟨g + 1 + 1, 3, none⟩ (.int .i64 (X 1))) ⟨g + 1 + 1, 4, none⟩ (.int .i64 (X 0))).heap.size by simpa using HSZ.out)
          generalize World.setCell (World.setCell wd _ _) _ _ = we at *
          go_upto_region 10 with fail
          have CLZ := Lib.hid (fun W (q : Bw w W) => Clone26_any zs (.slice a zs.length c) W (HV.out.mono q) (by have := HZL.out; omega))
          rw [HXV.out.1, HXV.out.2] at KQ
          go_cut [] from 11 (fun wx => Hid (Bw w wx) ∧ Hid (Blk wx (g + 1 + 1 + 1) 25 (eV zE)) ∧ ∃ D3, Hid (Blk wx (g + 1 + 1) 43 (ptV (nxP p zs kk).h (nxP p zs kk).is (nxP p zs kk).pr D3)) ∧ Hid (∀ j, j < 3 → RdN wx B (D3 j) ((nxP p zs kk).Z j)))
          case first =>
            have hk3 : kk = 0 ∨ kk = 1 ∨ kk = 2 := by omega
            clear HA3 HA4 HK3 HXV hrk HAR HSL OW
            rcases hk3 with rfl | rfl | rfl
            · skip
              replace KF := Lib.hid (show Blk we (g + 1) 47 #[.int .i64 t, .int .i64 1, .slice a zs.length c] by simpa using KF.out)
              refine wp_region_held_drew (S := fun W => Bw w W ∧ Blk W (g + 1) 47 #[.int .i64 t, .int .i64 1, .slice a zs.length c]) (by kernel_rfl) ⟨Bw.drew HBW.out, KF.out.bw (Bw.drew (Bw.refl _))⟩ (fun hS => ?_)
              replace KQ := Lib.hid (KQ.out.bw (Bw.drew (Bw.refl _)))
              replace KE := Lib.hid (KE.out.bw (Bw.drew (Bw.refl _)))
              replace HD2 := Lib.hid (fun j hj => (HD2.out j hj).bw (Bw.drew (Bw.refl _)))
              replace HSZ := Lib.hid (show B ≤ (World.drew we).heap.size from HSZ.out)
              clear KF HBW
              generalize World.drew _ = wd at hS KQ KE HD2 HSZ ⊢
              refine take1 (i := 0) (some 52) rfl rfl (by kernel_rfl) (by kernel_rfl) (by kernel_rfl) (fun _ _ _ _ h => h) rfl hS ?_
              apply Exists.intro
              apply And.intro
              · intro W9 hW9; have y1 := hW9.2.cell (j := 1) rfl; have y2 := hW9.2.cell (j := 2) rfl; go_simp; try with_reducible rfl
              simp only [Act.put, List.setIfInBounds_toArray, List.set_cons_zero, List.set_cons_succ]
              refine take1 (i := 1) (some 53) rfl rfl (by kernel_rfl) (by kernel_rfl) (by kernel_rfl) (fun _ _ _ _ h => h) rfl hS ?_
              apply Exists.intro
              apply And.intro
              · intro W9 hW9; have y1 := hW9.2.cell (j := 1) rfl; have y2 := hW9.2.cell (j := 2) rfl; go_simp; try with_reducible rfl
              simp only [Act.put, List.setIfInBounds_toArray, List.set_cons_zero, List.set_cons_succ]
              refine take1 (i := 2) (some 54) rfl rfl (by kernel_rfl) (by kernel_rfl) (by kernel_rfl) (fun _ _ _ _ h => h) rfl hS ?_
              refine Exists.intro (.int .i64 0) ?_
              apply And.intro
              · intro W9 hW9; have y1 := hW9.2.cell (j := 1) rfl; have y2 := hW9.2.cell (j := 2) rfl; go_simp; (try go_bits); (try with_reducible rfl); (try trivial)
              simp only [Act.put, List.setIfInBounds_toArray, List.set_cons_zero, List.set_cons_succ]
              refine take1 (i := 3) (some 55) rfl rfl (by kernel_rfl) (by kernel_rfl) (by kernel_rfl) (fun _ _ _ _ h => h) rfl hS ?_
              apply Exists.intro
              apply And.intro
              · intro W9 hW9; have y1 := hW9.2.cell (j := 1) rfl; have y2 := hW9.2.cell (j := 2) rfl; go_simp; try with_reducible rfl
              simp only [Act.put, List.setIfInBounds_toArray, List.set_cons_zero, List.set_cons_succ]
              refine take1 (i := 4) (some 56) rfl rfl (by kernel_rfl) (by kernel_rfl) (by kernel_rfl) (fun _ _ _ _ h => h) rfl hS ?_
              apply Exists.intro
              apply And.intro
              · intro W9 hW9; have y1 := hW9.2.cell (j := 1) rfl; have y2 := hW9.2.cell (j := 2) rfl; go_simp; try with_reducible rfl
              simp only [Act.put, List.setIfInBounds_toArray, List.set_cons_zero, List.set_cons_succ]
              refine take1 (i := 5) (some 57) rfl rfl (by kernel_rfl) (by kernel_rfl) (by kernel_rfl) (fun _ _ _ _ h => h) rfl hS ?_
              refine Exists.intro (.int .i64 0) ?_
              apply And.intro
              · intro W9 hW9; have y1 := hW9.2.cell (j := 1) rfl; have y2 := hW9.2.cell (j := 2) rfl; go_simp; (try go_bits); (try with_reducible rfl); (try trivial)
              simp only [Act.put, List.setIfInBounds_toArray, List.set_cons_zero, List.set_cons_succ]
              refine take1 (i := 6) (some 58) rfl rfl (by kernel_rfl) (by kernel_rfl) (by kernel_rfl) (fun _ _ _ _ h => h) rfl hS ?_
              apply Exists.intro
              apply And.intro
              · intro W9 hW9; have y1 := hW9.2.cell (j := 1) rfl; have y2 := hW9.2.cell (j := 2) rfl; go_simp; try with_reducible rfl
              simp only [Act.put, List.setIfInBounds_toArray, List.set_cons_zero, List.set_cons_succ]
              refine take1 (i := 7) (some 59) rfl rfl (by kernel_rfl) (by kernel_rfl) (by kernel_rfl) (fun _ _ _ _ h => h) rfl hS ?_
              apply Exists.intro
              apply And.intro
              · intro W9 hW9; have y1 := hW9.2.cell (j := 1) rfl; have y2 := hW9.2.cell (j := 2) rfl; go_simp; try with_reducible rfl
              simp only [Act.put, List.setIfInBounds_toArray, List.set_cons_zero, List.set_cons_succ]
              refine take1 (i := 9) (some 61) rfl rfl (by kernel_rfl) (by kernel_rfl) (by kernel_rfl) (fun _ _ _ _ h => h) rfl hS ?_
              apply Exists.intro
              apply And.intro
              · intro W9 hW9; have y1 := hW9.2.cell (j := 1) rfl; have y2 := hW9.2.cell (j := 2) rfl; go_simp; try with_reducible rfl
              simp only [Act.put, List.setIfInBounds_toArray, List.set_cons_zero, List.set_cons_succ]
              refine take1 (i := 10) (some 62) rfl rfl (by kernel_rfl) (by kernel_rfl) (by kernel_rfl) (fun _ _ _ _ h => h) rfl hS ?_
              apply Exists.intro
              apply And.intro
              · intro W9 hW9; have y1 := hW9.2.cell (j := 1) rfl; have y2 := hW9.2.cell (j := 2) rfl; go_simp; try with_reducible rfl
              simp only [Act.put, List.setIfInBounds_toArray, List.set_cons_zero, List.set_cons_succ]
              refine take1 (i := 12) (some 63) rfl rfl (by kernel_rfl) (by kernel_rfl) (by kernel_rfl) (fun _ _ _ _ h => h) rfl hS ?_
              apply Exists.intro
              apply And.intro
              · intro W9 hW9; have y1 := hW9.2.cell (j := 1) rfl; have y2 := hW9.2.cell (j := 2) rfl; go_simp; try with_reducible rfl
              simp only [Act.put, List.setIfInBounds_toArray, List.set_cons_zero, List.set_cons_succ]
              refine wpAnyH_ready (rs := [8]) (by kernel_rfl) (by simp) ?_
              refine AllReadyH.cons rfl (fun K hK => ?_) ?_
              go_simp
              go_wp2_with (go_at_call 42; (with_reducible refine Calls.mono (CLZ.out _ hS.1) ?_); rintro e1 w7 ⟨⟨vc, rfl, hrc⟩, hb10⟩)
              obtain ⟨ac, cc, rfl⟩ := hrc.1.form
              have HNC := Lib.hid (hrc.down (show B ≤ wd.heap.size from HSZ.out))
              replace KQ := Lib.hid (KQ.out.bw hb10)
              replace KE := Lib.hid (KE.out.bw hb10)
              replace HD2 := Lib.hid (fun j hj => (HD2.out j hj).bw hb10)
              clear hrc
              refine hK.out _ _ ⟨hS.1.trans hb10, hS.2.bw hb10⟩ (fun hS => ?_)
              clear hK K
              refine wpAnyH_ready (rs := [11]) (by kernel_rfl) (by simp) ?_
              refine AllReadyH.cons rfl (fun K hK => ?_) ?_
              rw [if_pos (by rfl)]
              refine wp_store_cell0 4 _ _ rfl rfl (g + 1 + 1) (0) (.bool true) (.inr (.inl ⟨_, rfl⟩)) rfl rfl (by kernel_rfl) KQ.out (by simp [ptV]) ?_
              replace KQ := Lib.hid (KQ.out.set (0) (.bool true))
              replace HD2 := Lib.hid (fun j hj => (HD2.out j hj).set (b := g + 1 + 1) (by have := H8.out; have := HB8.out; omega) (0) (.bool true))
              replace KE := Lib.hid (KE.out.set_other (b := g + 1 + 1) (by omega) (0) (.bool true))
              replace HNC := Lib.hid (HNC.out.set (b := g + 1 + 1) (by have := H8.out; have := HB8.out; omega) (0) (.bool true))
              refine hK.out _ _ ⟨Bw.setCell hS.1 (p := ⟨g + 1 + 1, 0, none⟩) (by have := HG.out; simp; omega) (.bool true), hS.2.set_other (b := g + 1 + 1) (by omega) (0) (.bool true)⟩ (fun hS => ?_)
              clear hK K
              refine take1 (i := 13) (some 64) rfl rfl (by kernel_rfl) (by kernel_rfl) (by kernel_rfl) (fun _ _ _ _ h => h) rfl hS ?_
              apply Exists.intro
              apply And.intro
              · intro W9 hW9; have y1 := hW9.2.cell (j := 1) rfl; have y2 := hW9.2.cell (j := 2) rfl; go_simp; try with_reducible rfl
              simp only [Act.put, List.setIfInBounds_toArray, List.set_cons_zero, List.set_cons_succ]
              refine wpAnyH_ready (rs := [14]) (by kernel_rfl) (by simp) ?_
              refine AllReadyH.cons rfl (fun K hK => ?_) ?_
              rw [if_pos (by rfl)]
              refine wp_store_cell0 40 _ _ rfl rfl (g + 1 + 1) (5) (.slice ac zs.length cc) (.inr (.inr ⟨_, _, _, rfl⟩)) rfl rfl (by kernel_rfl) KQ.out (by simp [ptV]) ?_
              replace KQ := Lib.hid (KQ.out.set (5) (.slice ac zs.length cc))
              replace HD2 := Lib.hid (fun j hj => (HD2.out j hj).set (b := g + 1 + 1) (by have := H8.out; have := HB8.out; omega) (5) (.slice ac zs.length cc))
              replace KE := Lib.hid (KE.out.set_other (b := g + 1 + 1) (by omega) (5) (.slice ac zs.length cc))
              replace HNC := Lib.hid (HNC.out.set (b := g + 1 + 1) (by have := H8.out; have := HB8.out; omega) (5) (.slice ac zs.length cc))
              refine hK.out _ _ ⟨Bw.setCell hS.1 (p := ⟨g + 1 + 1, 5, none⟩) (by have := HG.out; simp; omega) (.slice ac zs.length cc), hS.2.set_other (b := g + 1 + 1) (by omega) (5) (.slice ac zs.length cc)⟩ (fun hS => ?_)
              clear hK K
              refine wpAnyH_done (by kernel_rfl) ?_ _
              rotate_left
              exact AllReadyH.nil
              exact AllReadyH.nil
              exact AllReadyH.nil
              go_wp2
              go_meet
              refine ⟨Lib.hid hS.1, KE, upN D2 0 (.slice ac zs.length cc), ?_, Lib.hid (fun j hj => ?_)⟩
              · rw [ptV_seth _ _ _ _ 0 (by omega)] at KQ
                rw [show (5 : Nat) = 5 + 0 from rfl, ptV_setD _ _ _ _ 0 (by omega)] at KQ
                exact KQ
              · unfold upN nxP
                dsimp only
                by_cases e : j = 0
                · rw [if_pos e, if_pos e]; exact HNC.out
                · rw [if_neg e, if_neg e]; exact HD2.out j hj
            · skip
              replace KF := Lib.hid (show Blk we (g + 1) 47 #[.int .i64 t, .int .i64 2, .slice a zs.length c] by simpa using KF.out)
              refine wp_region_held_drew (S := fun W => Bw w W ∧ Blk W (g + 1) 47 #[.int .i64 t, .int .i64 2, .slice a zs.length c]) (by kernel_rfl) ⟨Bw.drew HBW.out, KF.out.bw (Bw.drew (Bw.refl _))⟩ (fun hS => ?_)
              replace KQ := Lib.hid (KQ.out.bw (Bw.drew (Bw.refl _)))
              replace KE := Lib.hid (KE.out.bw (Bw.drew (Bw.refl _)))
              replace HD2 := Lib.hid (fun j hj => (HD2.out j hj).bw (Bw.drew (Bw.refl _)))
              replace HSZ := Lib.hid (show B ≤ (World.drew we).heap.size from HSZ.out)
              clear KF HBW
              generalize World.drew _ = wd at hS KQ KE HD2 HSZ ⊢
              refine take1 (i := 0) (some 52) rfl rfl (by kernel_rfl) (by kernel_rfl) (by kernel_rfl) (fun _ _ _ _ h => h) rfl hS ?_
              apply Exists.intro
              apply And.intro
              · intro W9 hW9; have y1 := hW9.2.cell (j := 1) rfl; have y2 := hW9.2.cell (j := 2) rfl; go_simp; try with_reducible rfl
              simp only [Act.put, List.setIfInBounds_toArray, List.set_cons_zero, List.set_cons_succ]
              refine take1 (i := 1) (some 53) rfl rfl (by kernel_rfl) (by kernel_rfl) (by kernel_rfl) (fun _ _ _ _ h => h) rfl hS ?_
              apply Exists.intro
              apply And.intro
              · intro W9 hW9; have y1 := hW9.2.cell (j := 1) rfl; have y2 := hW9.2.cell (j := 2) rfl; go_simp; try with_reducible rfl
              simp only [Act.put, List.setIfInBounds_toArray, List.set_cons_zero, List.set_cons_succ]
              refine take1 (i := 2) (some 54) rfl rfl (by kernel_rfl) (by kernel_rfl) (by kernel_rfl) (fun _ _ _ _ h => h) rfl hS ?_
              refine Exists.intro (.int .i64 1) ?_
              apply And.intro
              · intro W9 hW9; have y1 := hW9.2.cell (j := 1) rfl; have y2 := hW9.2.cell (j := 2) rfl; go_simp; (try go_bits); (try with_reducible rfl); (try trivial)
              simp only [Act.put, List.setIfInBounds_toArray, List.set_cons_zero, List.set_cons_succ]
              refine take1 (i := 3) (some 55) rfl rfl (by kernel_rfl) (by kernel_rfl) (by kernel_rfl) (fun _ _ _ _ h => h) rfl hS ?_
              apply Exists.intro
              apply And.intro
              · intro W9 hW9; have y1 := hW9.2.cell (j := 1) rfl; have y2 := hW9.2.cell (j := 2) rfl; go_simp; try with_reducible rfl
              simp only [Act.put, List.setIfInBounds_toArray, List.set_cons_zero, List.set_cons_succ]
              refine take1 (i := 4) (some 56) rfl rfl (by kernel_rfl) (by kernel_rfl) (by kernel_rfl) (fun _ _ _ _ h => h) rfl hS ?_
              apply Exists.intro
              apply And.intro
              · intro W9 hW9; have y1 := hW9.2.cell (j := 1) rfl; have y2 := hW9.2.cell (j := 2) rfl; go_simp; try with_reducible rfl
              simp only [Act.put, List.setIfInBounds_toArray, List.set_cons_zero, List.set_cons_succ]
              refine take1 (i := 5) (some 57) rfl rfl (by kernel_rfl) (by kernel_rfl) (by kernel_rfl) (fun _ _ _ _ h => h) rfl hS ?_
              refine Exists.intro (.int .i64 1) ?_
              apply And.intro
              · intro W9 hW9; have y1 := hW9.2.cell (j := 1) rfl; have y2 := hW9.2.cell (j := 2) rfl; go_simp; (try go_bits); (try with_reducible rfl); (try trivial)
              simp only [Act.put, List.setIfInBounds_toArray, List.set_cons_zero, List.set_cons_succ]
              refine take1 (i := 6) (some 58) rfl rfl (by kernel_rfl) (by kernel_rfl) (by kernel_rfl) (fun _ _ _ _ h => h) rfl hS ?_
              apply Exists.intro
              apply And.intro
              · intro W9 hW9; have y1 := hW9.2.cell (j := 1) rfl; have y2 := hW9.2.cell (j := 2) rfl; go_simp; try with_reducible rfl
              simp only [Act.put, List.setIfInBounds_toArray, List.set_cons_zero, List.set_cons_succ]
              refine take1 (i := 7) (some 59) rfl rfl (by kernel_rfl) (by kernel_rfl) (by kernel_rfl) (fun _ _ _ _ h => h) rfl hS ?_
              apply Exists.intro
              apply And.intro
              · intro W9 hW9; have y1 := hW9.2.cell (j := 1) rfl; have y2 := hW9.2.cell (j := 2) rfl; go_simp; try with_reducible rfl
              simp only [Act.put, List.setIfInBounds_toArray, List.set_cons_zero, List.set_cons_succ]
              refine take1 (i := 9) (some 61) rfl rfl (by kernel_rfl) (by kernel_rfl) (by kernel_rfl) (fun _ _ _ _ h => h) rfl hS ?_
              apply Exists.intro
              apply And.intro
              · intro W9 hW9; have y1 := hW9.2.cell (j := 1) rfl; have y2 := hW9.2.cell (j := 2) rfl; go_simp; try with_reducible rfl
              simp only [Act.put, List.setIfInBounds_toArray, List.set_cons_zero, List.set_cons_succ]
              refine take1 (i := 10) (some 62) rfl rfl (by kernel_rfl) (by kernel_rfl) (by kernel_rfl) (fun _ _ _ _ h => h) rfl hS ?_
              apply Exists.intro
              apply And.intro
              · intro W9 hW9; have y1 := hW9.2.cell (j := 1) rfl; have y2 := hW9.2.cell (j := 2) rfl; go_simp; try with_reducible rfl
              simp only [Act.put, List.setIfInBounds_toArray, List.set_cons_zero, List.set_cons_succ]
              refine take1 (i := 12) (some 63) rfl rfl (by kernel_rfl) (by kernel_rfl) (by kernel_rfl) (fun _ _ _ _ h => h) rfl hS ?_
              apply Exists.intro
              apply And.intro
              · intro W9 hW9; have y1 := hW9.2.cell (j := 1) rfl; have y2 := hW9.2.cell (j := 2) rfl; go_simp; try with_reducible rfl
              simp only [Act.put, List.setIfInBounds_toArray, List.set_cons_zero, List.set_cons_succ]
              refine wpAnyH_ready (rs := [8]) (by kernel_rfl) (by simp) ?_
              refine AllReadyH.cons rfl (fun K hK => ?_) ?_
              go_simp
              go_wp2_with (go_at_call 42; (with_reducible refine Calls.mono (CLZ.out _ hS.1) ?_); rintro e1 w7 ⟨⟨vc, rfl, hrc⟩, hb10⟩)
              obtain ⟨ac, cc, rfl⟩ := hrc.1.form
              have HNC := Lib.hid (hrc.down (show B ≤ wd.heap.size from HSZ.out))
              replace KQ := Lib.hid (KQ.out.bw hb10)
              replace KE := Lib.hid (KE.out.bw hb10)
              replace HD2 := Lib.hid (fun j hj => (HD2.out j hj).bw hb10)
              clear hrc
              refine hK.out _ _ ⟨hS.1.trans hb10, hS.2.bw hb10⟩ (fun hS => ?_)
              clear hK K
              refine wpAnyH_ready (rs := [11]) (by kernel_rfl) (by simp) ?_
              refine AllReadyH.cons rfl (fun K hK => ?_) ?_
              rw [if_pos (by rfl)]
              refine wp_store_cell0 4 _ _ rfl rfl (g + 1 + 1) (1) (.bool true) (.inr (.inl ⟨_, rfl⟩)) rfl rfl (by kernel_rfl) KQ.out (by simp [ptV]) ?_
              replace KQ := Lib.hid (KQ.out.set (1) (.bool true))
              replace HD2 := Lib.hid (fun j hj => (HD2.out j hj).set (b := g + 1 + 1) (by have := H8.out; have := HB8.out; omega) (1) (.bool true))
              replace KE := Lib.hid (KE.out.set_other (b := g + 1 + 1) (by omega) (1) (.bool true))
              replace HNC := Lib.hid (HNC.out.set (b := g + 1 + 1) (by have := H8.out; have := HB8.out; omega) (1) (.bool true))
              refine hK.out _ _ ⟨Bw.setCell hS.1 (p := ⟨g + 1 + 1, 1, none⟩) (by have := HG.out; simp; omega) (.bool true), hS.2.set_other (b := g + 1 + 1) (by omega) (1) (.bool true)⟩ (fun hS => ?_)
              clear hK K
              refine take1 (i := 13) (some 64) rfl rfl (by kernel_rfl) (by kernel_rfl) (by kernel_rfl) (fun _ _ _ _ h => h) rfl hS ?_
              apply Exists.intro
              apply And.intro
              · intro W9 hW9; have y1 := hW9.2.cell (j := 1) rfl; have y2 := hW9.2.cell (j := 2) rfl; go_simp; try with_reducible rfl
              simp only [Act.put, List.setIfInBounds_toArray, List.set_cons_zero, List.set_cons_succ]
              refine wpAnyH_ready (rs := [14]) (by kernel_rfl) (by simp) ?_
              refine AllReadyH.cons rfl (fun K hK => ?_) ?_
              rw [if_pos (by rfl)]
              refine wp_store_cell0 40 _ _ rfl rfl (g + 1 + 1) (6) (.slice ac zs.length cc) (.inr (.inr ⟨_, _, _, rfl⟩)) rfl rfl (by kernel_rfl) KQ.out (by simp [ptV]) ?_
              replace KQ := Lib.hid (KQ.out.set (6) (.slice ac zs.length cc))
              replace HD2 := Lib.hid (fun j hj => (HD2.out j hj).set (b := g + 1 + 1) (by have := H8.out; have := HB8.out; omega) (6) (.slice ac zs.length cc))
              replace KE := Lib.hid (KE.out.set_other (b := g + 1 + 1) (by omega) (6) (.slice ac zs.length cc))
              replace HNC := Lib.hid (HNC.out.set (b := g + 1 + 1) (by have := H8.out; have := HB8.out; omega) (6) (.slice ac zs.length cc))
              refine hK.out _ _ ⟨Bw.setCell hS.1 (p := ⟨g + 1 + 1, 6, none⟩) (by have := HG.out; simp; omega) (.slice ac zs.length cc), hS.2.set_other (b := g + 1 + 1) (by omega) (6) (.slice ac zs.length cc)⟩ (fun hS => ?_)
              clear hK K
              refine wpAnyH_done (by kernel_rfl) ?_ _
              rotate_left
              exact AllReadyH.nil
              exact AllReadyH.nil
              exact AllReadyH.nil
              go_wp2
              go_meet
              refine ⟨Lib.hid hS.1, KE, upN D2 1 (.slice ac zs.length cc), ?_, Lib.hid (fun j hj => ?_)⟩
              · rw [ptV_seth _ _ _ _ 1 (by omega)] at KQ
                rw [show (6 : Nat) = 5 + 1 from rfl, ptV_setD _ _ _ _ 1 (by omega)] at KQ
                exact KQ
              · unfold upN nxP
                dsimp only
                by_cases e : j = 1
                · rw [if_pos e, if_pos e]; exact HNC.out
                · rw [if_neg e, if_neg e]; exact HD2.out j hj
            · skip
              replace KF := Lib.hid (show Blk we (g + 1) 47 #[.int .i64 t, .int .i64 3, .slice a zs.length c] by simpa using KF.out)
              refine wp_region_held_drew (S := fun W => Bw w W ∧ Blk W (g + 1) 47 #[.int .i64 t, .int .i64 3, .slice a zs.length c]) (by kernel_rfl) ⟨Bw.drew HBW.out, KF.out.bw (Bw.drew (Bw.refl _))⟩ (fun hS => ?_)
              replace KQ := Lib.hid (KQ.out.bw (Bw.drew (Bw.refl _)))
              replace KE := Lib.hid (KE.out.bw (Bw.drew (Bw.refl _)))
              replace HD2 := Lib.hid (fun j hj => (HD2.out j hj).bw (Bw.drew (Bw.refl _)))
              replace HSZ := Lib.hid (show B ≤ (World.drew we).heap.size from HSZ.out)
              clear KF HBW
              generalize World.drew _ = wd at hS KQ KE HD2 HSZ ⊢
              refine take1 (i := 0) (some 52) rfl rfl (by kernel_rfl) (by kernel_rfl) (by kernel_rfl) (fun _ _ _ _ h => h) rfl hS ?_
              apply Exists.intro
              apply And.intro
              · intro W9 hW9; have y1 := hW9.2.cell (j := 1) rfl; have y2 := hW9.2.cell (j := 2) rfl; go_simp; try with_reducible rfl
              simp only [Act.put, List.setIfInBounds_toArray, List.set_cons_zero, List.set_cons_succ]
              refine take1 (i := 1) (some 53) rfl rfl (by kernel_rfl) (by kernel_rfl) (by kernel_rfl) (fun _ _ _ _ h => h) rfl hS ?_
              apply Exists.intro
              apply And.intro
              · intro W9 hW9; have y1 := hW9.2.cell (j := 1) rfl; have y2 := hW9.2.cell (j := 2) rfl; go_simp; try with_reducible rfl
              simp only [Act.put, List.setIfInBounds_toArray, List.set_cons_zero, List.set_cons_succ]
              refine take1 (i := 2) (some 54) rfl rfl (by kernel_rfl) (by kernel_rfl) (by kernel_rfl) (fun _ _ _ _ h => h) rfl hS ?_
              refine Exists.intro (.int .i64 2) ?_
              apply And.intro
              · intro W9 hW9; have y1 := hW9.2.cell (j := 1) rfl; have y2 := hW9.2.cell (j := 2) rfl; go_simp; (try go_bits); (try with_reducible rfl); (try trivial)
              simp only [Act.put, List.setIfInBounds_toArray, List.set_cons_zero, List.set_cons_succ]
              refine take1 (i := 3) (some 55) rfl rfl (by kernel_rfl) (by kernel_rfl) (by kernel_rfl) (fun _ _ _ _ h => h) rfl hS ?_
              apply Exists.intro
              apply And.intro
              · intro W9 hW9; have y1 := hW9.2.cell (j := 1) rfl; have y2 := hW9.2.cell (j := 2) rfl; go_simp; try with_reducible rfl
              simp only [Act.put, List.setIfInBounds_toArray, List.set_cons_zero, List.set_cons_succ]
              refine take1 (i := 4) (some 56) rfl rfl (by kernel_rfl) (by kernel_rfl) (by kernel_rfl) (fun _ _ _ _ h => h) rfl hS ?_
              apply Exists.intro
              apply And.intro
              · intro W9 hW9; have y1 := hW9.2.cell (j := 1) rfl; have y2 := hW9.2.cell (j := 2) rfl; go_simp; try with_reducible rfl
              simp only [Act.put, List.setIfInBounds_toArray, List.set_cons_zero, List.set_cons_succ]
              refine take1 (i := 5) (some 57) rfl rfl (by kernel_rfl) (by kernel_rfl) (by kernel_rfl) (fun _ _ _ _ h => h) rfl hS ?_
              refine Exists.intro (.int .i64 2) ?_
              apply And.intro
              · intro W9 hW9; have y1 := hW9.2.cell (j := 1) rfl; have y2 := hW9.2.cell (j := 2) rfl; go_simp; (try go_bits); (try with_reducible rfl); (try trivial)
              simp only [Act.put, List.setIfInBounds_toArray, List.set_cons_zero, List.set_cons_succ]
              refine take1 (i := 6) (some 58) rfl rfl (by kernel_rfl) (by kernel_rfl) (by kernel_rfl) (fun _ _ _ _ h => h) rfl hS ?_
              apply Exists.intro
              apply And.intro
              · intro W9 hW9; have y1 := hW9.2.cell (j := 1) rfl; have y2 := hW9.2.cell (j := 2) rfl; go_simp; try with_reducible rfl
              simp only [Act.put, List.setIfInBounds_toArray, List.set_cons_zero, List.set_cons_succ]
              refine take1 (i := 7) (some 59) rfl rfl (by kernel_rfl) (by kernel_rfl) (by kernel_rfl) (fun _ _ _ _ h => h) rfl hS ?_
              apply Exists.intro
              apply And.intro
              · intro W9 hW9; have y1 := hW9.2.cell (j := 1) rfl; have y2 := hW9.2.cell (j := 2) rfl; go_simp; try with_reducible rfl
              simp only [Act.put, List.setIfInBounds_toArray, List.set_cons_zero, List.set_cons_succ]
              refine take1 (i := 9) (some 61) rfl rfl (by kernel_rfl) (by kernel_rfl) (by kernel_rfl) (fun _ _ _ _ h => h) rfl hS ?_
              apply Exists.intro
              apply And.intro
              · intro W9 hW9; have y1 := hW9.2.cell (j := 1) rfl; have y2 := hW9.2.cell (j := 2) rfl; go_simp; try with_reducible rfl
              simp only [Act.put, List.setIfInBounds_toArray, List.set_cons_zero, List.set_cons_succ]
              refine take1 (i := 10) (some 62) rfl rfl (by kernel_rfl) (by kernel_rfl) (by kernel_rfl) (fun _ _ _ _ h => h) rfl hS ?_
              apply Exists.intro
              apply And.intro
              · intro W9 hW9; have y1 := hW9.2.cell (j := 1) rfl; have y2 := hW9.2.cell (j := 2) rfl; go_simp; try with_reducible rfl
              simp only [Act.put, List.setIfInBounds_toArray, List.set_cons_zero, List.set_cons_succ]
              refine take1 (i := 12) (some 63) rfl rfl (by kernel_rfl) (by kernel_rfl) (by kernel_rfl) (fun _ _ _ _ h => h) rfl hS ?_
              apply Exists.intro
              apply And.intro
              · intro W9 hW9; have y1 := hW9.2.cell (j := 1) rfl; have y2 := hW9.2.cell (j := 2) rfl; go_simp; try with_reducible rfl
              simp only [Act.put, List.setIfInBounds_toArray, List.set_cons_zero, List.set_cons_succ]
              refine wpAnyH_ready (rs := [8]) (by kernel_rfl) (by simp) ?_
              refine AllReadyH.cons rfl (fun K hK => ?_) ?_
              go_simp
              go_wp2_with (go_at_call 42; (with_reducible refine Calls.mono (CLZ.out _ hS.1) ?_); rintro e1 w7 ⟨⟨vc, rfl, hrc⟩, hb10⟩)
              obtain ⟨ac, cc, rfl⟩ := hrc.1.form
              have HNC := Lib.hid (hrc.down (show B ≤ wd.heap.size from HSZ.out))
              replace KQ := Lib.hid (KQ.out.bw hb10)
              replace KE := Lib.hid (KE.out.bw hb10)
              replace HD2 := Lib.hid (fun j hj => (HD2.out j hj).bw hb10)
              clear hrc
              refine hK.out _ _ ⟨hS.1.trans hb10, hS.2.bw hb10⟩ (fun hS => ?_)
              clear hK K
              refine wpAnyH_ready (rs := [11]) (by kernel_rfl) (by simp) ?_
              refine AllReadyH.cons rfl (fun K hK => ?_) ?_
              rw [if_pos (by rfl)]
              refine wp_store_cell0 4 _ _ rfl rfl (g + 1 + 1) (2) (.bool true) (.inr (.inl ⟨_, rfl⟩)) rfl rfl (by kernel_rfl) KQ.out (by simp [ptV]) ?_
              replace KQ := Lib.hid (KQ.out.set (2) (.bool true))
              replace HD2 := Lib.hid (fun j hj => (HD2.out j hj).set (b := g + 1 + 1) (by have := H8.out; have := HB8.out; omega) (2) (.bool true))
              replace KE := Lib.hid (KE.out.set_other (b := g + 1 + 1) (by omega) (2) (.bool true))
              replace HNC := Lib.hid (HNC.out.set (b := g + 1 + 1) (by have := H8.out; have := HB8.out; omega) (2) (.bool true))
              refine hK.out _ _ ⟨Bw.setCell hS.1 (p := ⟨g + 1 + 1, 2, none⟩) (by have := HG.out; simp; omega) (.bool true), hS.2.set_other (b := g + 1 + 1) (by omega) (2) (.bool true)⟩ (fun hS => ?_)
              clear hK K
              refine take1 (i := 13) (some 64) rfl rfl (by kernel_rfl) (by kernel_rfl) (by kernel_rfl) (fun _ _ _ _ h => h) rfl hS ?_
              apply Exists.intro
              apply And.intro
              · intro W9 hW9; have y1 := hW9.2.cell (j := 1) rfl; have y2 := hW9.2.cell (j := 2) rfl; go_simp; try with_reducible rfl
              simp only [Act.put, List.setIfInBounds_toArray, List.set_cons_zero, List.set_cons_succ]
              refine wpAnyH_ready (rs := [14]) (by kernel_rfl) (by simp) ?_
              refine AllReadyH.cons rfl (fun K hK => ?_) ?_
              rw [if_pos (by rfl)]
              refine wp_store_cell0 40 _ _ rfl rfl (g + 1 + 1) (7) (.slice ac zs.length cc) (.inr (.inr ⟨_, _, _, rfl⟩)) rfl rfl (by kernel_rfl) KQ.out (by simp [ptV]) ?_
              replace KQ := Lib.hid (KQ.out.set (7) (.slice ac zs.length cc))
              replace HD2 := Lib.hid (fun j hj => (HD2.out j hj).set (b := g + 1 + 1) (by have := H8.out; have := HB8.out; omega) (7) (.slice ac zs.length cc))
              replace KE := Lib.hid (KE.out.set_other (b := g + 1 + 1) (by omega) (7) (.slice ac zs.length cc))
              replace HNC := Lib.hid (HNC.out.set (b := g + 1 + 1) (by have := H8.out; have := HB8.out; omega) (7) (.slice ac zs.length cc))
              refine hK.out _ _ ⟨Bw.setCell hS.1 (p := ⟨g + 1 + 1, 7, none⟩) (by have := HG.out; simp; omega) (.slice ac zs.length cc), hS.2.set_other (b := g + 1 + 1) (by omega) (7) (.slice ac zs.length cc)⟩ (fun hS => ?_)
              clear hK K
              refine wpAnyH_done (by kernel_rfl) ?_ _
              rotate_left
              exact AllReadyH.nil
              exact AllReadyH.nil
              exact AllReadyH.nil
              go_wp2
              go_meet
              refine ⟨Lib.hid hS.1, KE, upN D2 2 (.slice ac zs.length cc), ?_, Lib.hid (fun j hj => ?_)⟩
              · rw [ptV_seth _ _ _ _ 2 (by omega)] at KQ
                rw [show (7 : Nat) = 5 + 2 from rfl, ptV_setD _ _ _ _ 2 (by omega)] at KQ
                exact KQ
              · unfold upN nxP
                dsimp only
                by_cases e : j = 2
                · rw [if_pos e, if_pos e]; exact HNC.out
                · rw [if_neg e, if_neg e]; exact HD2.out j hj
          case rest =>
            clear KF KE KQ HD2 HBW HSZ CLZ
            obtain ⟨HBW, KE, D3, KQ, HD3⟩ := hcut
            go_upto_region 11 with fail
            have HGD := Lib.hid (fun j (hj : j < 3) => nx_good (p := p) (zs := zs) (kk := kk) hs HK3.out j hj)
            clear hS
            generalize nxP p zs kk = N at *
            obtain ⟨Nh, Nis, Npr, NZ⟩ := N
            dsimp only at HA3 HA4 KQ HD3 HGD
            have q0 := KQ.out.cell (ptV_h Nh Nis Npr D3 0 (by omega))
            have q1 := KQ.out.cell (ptV_h Nh Nis Npr D3 1 (by omega))
            have q2 := KQ.out.cell (ptV_h Nh Nis Npr D3 2 (by omega))
            have hq := fun W => eqT3 (Nh 0) (Nh 1) (Nh 2) W
            have hqg := fun op x y W => eqB3_guard (Nh 0) (Nh 1) (Nh 2) true true true op x y W
            cases hf : (Nh 0 && (Nh 1 && Nh 2)) with
            | false =>
              have HR := Lib.hid (HA3.out hf)
              rw [hf] at hq
              go_upto_region 12 with fail
              clear q0 q1 q2 hq hqg
              have HO3 := one8 Nh Nis Npr D3 (fun j hj => by obtain ⟨x, y, e⟩ := (HD3.out j hj).1.form; exact ⟨x, _, y, e⟩)
              refine wp_region_held_drew (S := fun W => Bw w W ∧ Blk W (g + 1 + 1) 43 (ptV Nh Nis Npr D3) ∧ Blk W (g + 1 + 1 + 1) 25 (eV zE)) (by kernel_rfl) ⟨Bw.drew HBW.out, KQ.out.bw (Bw.drew (Bw.refl _)), KE.out.bw (Bw.drew (Bw.refl _))⟩ (fun hS => ?_)
              replace KQ := Lib.hid (KQ.out.bw (Bw.drew (Bw.refl _)))
              replace HD3 := Lib.hid (fun j hj => (HD3.out j hj).bw (Bw.drew (Bw.refl _)))
              generalize World.drew _ = wd at hS KQ HD3 ⊢
              refine take1 (i := 0) (some 69) rfl rfl (by kernel_rfl) (by kernel_rfl) (by kernel_rfl) (fun _ _ _ _ h => h) rfl hS ?_
              refine Exists.intro (.agg (ptV Nh Nis Npr D3)) ?_
              apply And.intro
              · intro W9 hW9; skip; exact run_load_row 43 _ rfl (g + 1 + 1) rfl 43 (ptV Nh Nis Npr D3) _ hW9.2.1 Try.underlying43 rfl (by kernel_rfl)
              simp only [Act.put, List.setIfInBounds_toArray, List.set_cons_zero, List.set_cons_succ]
              refine take1 (i := 1) (some 70) rfl rfl (by kernel_rfl) (by kernel_rfl) (by kernel_rfl) (fun _ _ _ _ h => h) rfl hS ?_
              refine Exists.intro (.agg (eV zE)) ?_
              apply And.intro
              · intro W9 hW9; skip; exact run_load_row 25 _ rfl (g + 1 + 1 + 1) rfl 25 (eV zE) _ hW9.2.2 Try.underlying25 rfl (by kernel_rfl)
              simp only [Act.put, List.setIfInBounds_toArray, List.set_cons_zero, List.set_cons_succ]
              refine wpAnyH_ready (rs := [2]) (by kernel_rfl) (by simp) ?_
              refine AllReadyH.cons rfl (fun K hK => ?_) ?_
              rw [if_pos (by rfl)]
              refine wp_store_row0 43 _ _ rfl rfl (g + 1 + 1) (ptV Nh Nis Npr D3) rfl rfl 43 _ KQ.out (by kernel_rfl) rfl HO3 ?_
              replace HD3 := Lib.hid (fun j hj => (HD3.out j hj).kx (Kx.row KQ.out.lt (ptV Nh Nis Npr D3)) (by have := H8.out; have := HB8.out; omega))
              replace KQ := Lib.hid (KQ.out.row (ptV Nh Nis Npr D3))
              refine hK.out _ _ ⟨Bw.setRow hS.1 (by have := HG.out; omega) (ptV Nh Nis Npr D3), KQ.out, hS.2.2.row_other (by omega) (ptV Nh Nis Npr D3)⟩ (fun hS => ?_)
              clear hK K
              refine wpAnyH_ready (rs := [3]) (by kernel_rfl) (by simp) ?_
              refine AllReadyH.cons rfl (fun K hK => ?_) ?_
              rw [if_pos (by rfl)]
              refine wp_store_row0 25 _ _ rfl rfl (g + 1 + 1 + 1) (eV zE) rfl rfl 25 (eV zE) hS.2.2 (by kernel_rfl) rfl (by simp [Value.oneCell', eV]) ?_
              replace HD3 := Lib.hid (fun j hj => (HD3.out j hj).kx (Kx.row (show (g + 1 + 1 + 1) < _ from hS.2.2.lt) (eV zE)) (by have := H8.out; have := HB8.out; omega))
              replace KQ := Lib.hid (KQ.out.row_other (g' := (g + 1 + 1 + 1)) (by omega) (eV zE))
              refine hK.out _ _ ⟨Bw.setRow hS.1 (by have := HG.out; omega) (eV zE), KQ.out, hS.2.2.row (eV zE)⟩ (fun hS => ?_)
              clear hK K
              refine take1 (i := 4) (some 6) rfl rfl (by kernel_rfl) (by kernel_rfl) (by kernel_rfl) (fun _ _ _ _ h => h) rfl hS ?_
              apply Exists.intro
              apply And.intro
              · intro W9 hW9; skip; go_simp; try with_reducible rfl
              simp only [Act.put, List.setIfInBounds_toArray, List.set_cons_zero, List.set_cons_succ]
              refine take1 (i := 5) (some 7) rfl rfl (by kernel_rfl) (by kernel_rfl) (by kernel_rfl) (fun _ _ _ _ h => h) rfl hS ?_
              apply Exists.intro
              apply And.intro
              · intro W9 hW9; skip; go_simp; try with_reducible rfl
              simp only [Act.put, List.setIfInBounds_toArray, List.set_cons_zero, List.set_cons_succ]
              refine wpAnyH_done (by kernel_rfl) ?_ _
              rotate_left
              exact AllReadyH.nil
              exact AllReadyH.nil
              go_wp2
              refine bodyPost_ret (v := .tuple #[.agg (ptV Nh Nis Npr D3), .agg (eV zE), .bool false, .int .i64 0]) ?_ rfl ⟨HAR.out _ HR.out _ _ ⟨D3, rfl, fun j hj => ⟨(HD3.out j hj).1, (HD3.out j hj).2.1⟩⟩, hS.1⟩
              exact res_add (p := 4) (q := 5) (u := 6) (v := 7) rfl _ _ _ _ _ rfl _ rfl KQ.out rfl hS.2.2
            | true =>
              have HR := Lib.hid (HA4.out hf)
              rw [hf] at hq
              have hhh : ∀ j, j < 3 → Nh j = true := fun j hj => by
                simp only [Bool.and_eq_true] at hf
                match j, hj with
                | 0, _ => exact hf.1
                | 1, _ => exact hf.2.1
                | 2, _ => exact hf.2.2
              have HG3 := Lib.hid (fun j hj => HGD.out j hj (hhh j hj))
              have HFT := Lib.hid (fill_three (A := NZ 0) (B := NZ 1) (C := NZ 2) (HG3.out 0 (by omega)).1 (HG3.out 1 (by omega)).1 (HG3.out 2 (by omega)).1 ((HG3.out 0 (by omega)).2.1.trans (HG3.out 2 (by omega)).2.1.symm) ((HG3.out 0 (by omega)).2.2.trans (HG3.out 2 (by omega)).2.2.symm))
              have FL := Lib.hid (fun g y kind zs v W h1 h2 h3 => fill_any g y kind zs v W h1 h2 h3)
              unfold FillP at FL
              clear hhh HGD HA3 HA4 OW
              go_wp2
              clear q0 q1 q2 hq hqg
              go_loopg [71] 3 (fun gg s71 wr => ∃ m : Nat, m ≤ 3 ∧ 3 - m ≤ gg ∧ s71 = .int .i64 m ∧ Hid (Bw w wr) ∧ Hid (Blk wr (g + 1 + 1) 43 (ptV Nh Nis Npr D3)) ∧ Hid (Blk wr (g + 1 + 1 + 1) 25 (eV (flE NZ m))) ∧ Hid (∀ j, j < 3 → RdN wr B (D3 j) (NZ j)))
              case atStart => exact ⟨0, by omega, by omega, rfl, HBW, KQ, KE, HD3⟩
              case round =>
                clear HBW KQ KE HD3
                obtain ⟨m, hm, hgg, rfl, HBW, KQ, KE, HD3⟩ := hrel
                obtain ⟨wa, rfl⟩ : ∃ wa, wa = wr := ⟨_, rfl⟩
                by_cases hlt : m < 3
                · have hmz : (m : Int) < 3 := by omega
                  have hm0 : (0 : Int) ≤ m := by omega
                  have cm := KQ.out.cell (ptV_D Nh Nis Npr D3 m hlt)
                  have HRM := Lib.hid (HD3.out m hlt)
                  obtain ⟨am, cmm, hvm⟩ := HRM.out.1.form
                  rw [hvm] at cm HRM
                  have HFL := Lib.hid (show flE NZ (m + 1) = fillX (flE NZ m) ((m : Int) + 1) (NZ m) from rfl)
                  clear hvm
                  have HM1 := Lib.hid HRM.out.1
                  have HM2 := Lib.hid HRM.out.2.1
                  go_wp2_with (go_at_call 37; go_loud ((with_reducible refine Calls.mono (FL.out _ _ _ (NZ m) _ _ KE.out HM1.out HM2.out) ?_); rintro e1 w8 ⟨rfl, hk9, hb9⟩; replace HBW := Lib.hid (hk9.bw HBW.out (by have := HG.out; omega)); replace KQ := Lib.hid (hk9.blk KQ.out (by omega)); replace KE := Lib.hid hb9; replace HD3 := Lib.hid (fun j hj => (HD3.out j hj).kx hk9 (by have := H8.out; have := HB8.out; omega)); clear hk9 hb9 cm))
                  go_roundg (3 - (m + 1))
                  case measure => omega
                  case rel => exact ⟨m + 1, by omega, by omega, by go_num, HBW, KQ, Lib.hid (by rw [HFL.out]; exact KE.out), HD3⟩
                · obtain rfl : m = 3 := by omega
                  have hmz : ¬ ((3 : Nat) : Int) < 3 := by omega
                  replace KE := Lib.hid (show Blk wa (g + 1 + 1 + 1) 25 (eV (togE (rvL (NZ 0) 0) (rvL (NZ 1) 1) (rvL (NZ 2) 2))) from HFT.out ▸ KE.out)
                  generalize togE (rvL (NZ 0) 0) (rvL (NZ 1) 1) (rvL (NZ 2) 2) = TE at *
                  go_upto_region 18 with fail
                  refine wp_region_held_drew (S := fun W => Bw w W ∧ Blk W (g + 1 + 1 + 1) 25 (eV TE)) (by kernel_rfl) ⟨Bw.drew HBW.out, KE.out.bw (Bw.drew (Bw.refl _))⟩ (fun hS => ?_)
                  replace KQ := Lib.hid (KQ.out.bw (Bw.drew (Bw.refl _)))
                  generalize World.drew _ = wd at hS KQ ⊢
                  refine take1 (i := 0) (some 82) rfl rfl (by kernel_rfl) (by kernel_rfl) (by kernel_rfl) (fun _ _ _ _ h => h) rfl hS ?_
                  apply Exists.intro
                  apply And.intro
                  · intro W9 hW9; skip; go_simp; try with_reducible rfl
                  simp only [Act.put, List.setIfInBounds_toArray, List.set_cons_zero, List.set_cons_succ]
                  refine take1 (i := 1) (some 83) rfl rfl (by kernel_rfl) (by kernel_rfl) (by kernel_rfl) (fun _ _ _ _ h => h) rfl hS ?_
                  refine Exists.intro (.agg (eV TE)) ?_
                  apply And.intro
                  · intro W9 hW9; skip; exact run_load_row 25 _ rfl (g + 1 + 1 + 1) rfl 25 (eV TE) _ hW9.2 Try.underlying25 rfl (by kernel_rfl)
                  simp only [Act.put, List.setIfInBounds_toArray, List.set_cons_zero, List.set_cons_succ]
                  refine wpAnyH_ready (rs := [2]) (by kernel_rfl) (by simp) ?_
                  refine AllReadyH.cons rfl (fun K hK => ?_) ?_
                  rw [if_pos (by rfl)]
                  refine wp_store_row0 43 _ _ rfl rfl (g + 1 + 1) (#[.bool false, .bool false, .bool false, .int .i64 0, .int .i64 0, .slice none 0 0, .slice none 0 0, .slice none 0 0]) rfl rfl 43 _ KQ.out (by kernel_rfl) rfl (by simp [Value.oneCell']) ?_
                  replace KQ := Lib.hid (KQ.out.row (#[.bool false, .bool false, .bool false, .int .i64 0, .int .i64 0, .slice none 0 0, .slice none 0 0, .slice none 0 0]))
                  refine hK.out _ _ ⟨Bw.setRow hS.1 (by have := HG.out; omega) (#[.bool false, .bool false, .bool false, .int .i64 0, .int .i64 0, .slice none 0 0, .slice none 0 0, .slice none 0 0]), hS.2.row_other (by omega) (#[.bool false, .bool false, .bool false, .int .i64 0, .int .i64 0, .slice none 0 0, .slice none 0 0, .slice none 0 0])⟩ (fun hS => ?_)
                  clear hK K
                  refine wpAnyH_ready (rs := [3]) (by kernel_rfl) (by simp) ?_
                  refine AllReadyH.cons rfl (fun K hK => ?_) ?_
                  rw [if_pos (by rfl)]
                  refine wp_store_row0 25 _ _ rfl rfl (g + 1 + 1 + 1) (eV TE) rfl rfl 25 (eV TE) hS.2 (by kernel_rfl) rfl (by simp [Value.oneCell', eV]) ?_
                  replace KQ := Lib.hid (KQ.out.row_other (g' := (g + 1 + 1 + 1)) (by omega) (eV TE))
                  refine hK.out _ _ ⟨Bw.setRow hS.1 (by have := HG.out; omega) (eV TE), hS.2.row (eV TE)⟩ (fun hS => ?_)
                  clear hK K
                  refine take1 (i := 4) (some 6) rfl rfl (by kernel_rfl) (by kernel_rfl) (by kernel_rfl) (fun _ _ _ _ h => h) rfl hS ?_
                  apply Exists.intro
                  apply And.intro
                  · intro W9 hW9; skip; go_simp; try with_reducible rfl
                  simp only [Act.put, List.setIfInBounds_toArray, List.set_cons_zero, List.set_cons_succ]
                  refine take1 (i := 5) (some 7) rfl rfl (by kernel_rfl) (by kernel_rfl) (by kernel_rfl) (fun _ _ _ _ h => h) rfl hS ?_
                  apply Exists.intro
                  apply And.intro
                  · intro W9 hW9; skip; go_simp; try with_reducible rfl
                  simp only [Act.put, List.setIfInBounds_toArray, List.set_cons_zero, List.set_cons_succ]
                  refine wpAnyH_done (by kernel_rfl) ?_ _
                  rotate_left
                  exact AllReadyH.nil
                  exact AllReadyH.nil
                  go_wp2
                  refine bodyPost_ret (v := .tuple #[.agg (#[.bool false, .bool false, .bool false, .int .i64 0, .int .i64 0, .slice none 0 0, .slice none 0 0, .slice none 0 0]), .agg (eV TE), .bool true, .int .i64 0]) ?_ rfl ⟨HAR.out _ HR.out _ _ (AddP.zero _ _ _ _), hS.1⟩
                  exact res_add (p := 4) (q := 5) (u := 6) (v := 7) rfl _ _ _ _ _ rfl _ rfl KQ.out rfl hS.2
end Go.Proofs.Sky
