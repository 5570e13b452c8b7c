/-
  lemmas for the theorems of this claim. No conditions beyond those written in the statements.
-/
import Derived.Test.YtcmjcobhobfloaaDoorCF27
import Derived.Deep.Cut
set_option linter.unusedVariables false
set_option linter.unusedSimpArgs false
set_option linter.unnecessarySimpa false
namespace Go.Proofs.Sky
open Go Go.RowKit Go.Shelf
attribute [local go_sem] Oper.semAt_some
set_option maxHeartbeats 4000000
set_option maxRecDepth 8000
/-! chapter 27: Read -/
theorem RdI.setOff {w : World} {v : Value} {zs : List Int} (h : RdI w v zs) {g : Nat} (ho : Off g v zs) (o : Nat) (u : Value) : RdI (w.setCell ⟨g, o, none⟩ u) v zs := by
  obtain ⟨h2, a, cap, rfl, h4⟩ := h
  refine ⟨h2, a, cap, rfl, ?_⟩
  rcases h4 with h4 | ⟨b', off, rfl, h6, h7⟩
  · exact .inl h4
  · rcases ho with ho | ho
    · exact .inl ho
    · have := ho b' rfl
      refine .inr ⟨b', off, rfl, by simpa using h6, fun i hi => ?_⟩
      rw [cell_set_ne _ _ _ _ _ _ (fun e => this e.symm)]; exact h7 i hi
theorem zeroSI (w : World) : (zeroValue 22).run Tryd.prog w = .ok (.slice none 0 0) w := by kernel_rfl
section
variable {P : Program} {Q : Exit → Act → World → Prop}
theorem wp_alloc_slice {o : Oper} {a : Act} {w : World} {K : Act → World → Prop} (ty : TypeId) (ho : o.op = .alloc ty) (dst : Option Tmp) (hd : o.dst = dst) (hz : (zeroValue ty).run P w = .ok (.slice none 0 0) w)
    (h : ∀ g w', w.heap.size ≤ g → Blk w' g ty #[.slice none 0 0] → Bw w w' → K (a.put dst (.pointer (some ⟨g, 0, none⟩))) w') : o.wp P a w K Q := by
  have h9 := h w.heap.size (w.alloc (.cells #[.slice none 0 0] ty)) (Nat.le_refl _) (Blk.new w ty #[.slice none 0 0]) (Bw.alloc (Bw.refl w) _)
  subst hd
  unfold Oper.wp execOp
  simp only [ho]
  simp [Instr.alloc, hz, go_sem, Value.cells]
  exact h9
end
theorem rdIK {W W' : World} {row : Option Nat} {B : Nat} {v : Value} {zs : List Int} (h : RdI W v zs) (hg : W.grownBy W' row) (hr : ∀ r, row = some r → B ≤ r ∧ ∃ o : Obj, W.heap[r]? = some o ∧ o.isCells = false) : RdI W' v zs := by
  obtain ⟨h2, a, cap, h3, h4⟩ := h
  refine ⟨h2, a, cap, h3, ?_⟩
  rcases h4 with h4 | ⟨b, off, h5, h6, h7⟩
  · exact .inl h4
  · exact .inr ⟨b, off, h5, Nat.lt_of_lt_of_le h6 hg.size, fun i hi => cellK (h7 i hi) hg hr⟩
def RdOk27 (t k : Int) (zs pl : List Int) (px : Int) (x : Nat → Int) : Prop := k = 4 ∧ 0 ≤ t ∧ t < 131072 ∧ zs.length = 206 ∧ px = 0 ∧ errPg x = 0 ∧ (zs.drop 200).any (fun d => d != 0) = false
theorem unR_len (zs : List Int) : ∀ (fs : List Fd) (i : Nat) (out : List Int), (unR i zs out fs).2.1 = 0 → (unR i zs out fs).1.length = out.length + fs.length := by
  intro fs
  induction fs with
  | nil => intro i out _; rfl
  | cons f r ih =>
    intro i out h
    rw [unR] at h ⊢
    by_cases he : errT zs f.a f.n f.u f.c = 0
    · rw [if_pos he] at h ⊢
      rw [ih _ _ h]; simp; omega
    · rw [if_neg he] at h
      exact absurd h he
theorem unpackR_len (fs : List Fd) (zs : List Int) (h : (unpackR fs zs).2.1 = 0) : (unpackR fs zs).1.length = fs.length := by
  unfold unpackR at h ⊢
  by_cases hl : (layout fs zs.length).1 = 0
  · rw [if_pos hl] at h ⊢
    rw [unR_len _ _ _ _ h]; simp
  · rw [if_neg hl] at h
    exact absurd h hl
theorem pgV_congr2 {x y : Nat → Int} (h : ∀ j, j < 13 → x j = y j) : pgV x = pgV y := by
  unfold pgV
  rw [h 0 (by omega), h 1 (by omega), h 2 (by omega), h 3 (by omega), h 4 (by omega), h 5 (by omega), h 6 (by omega), h 7 (by omega), h 8 (by omega), h 9 (by omega), h 10 (by omega), h 11 (by omega), h 12 (by omega)]
theorem pgV_set (x : Nat → Int) (k : Nat) (h : k < 13) (v : Int) : (pgV x).setIfInBounds k (.int .i64 v) = pgV (fun j => if j = k then v else x j) := by
  match k, h with
  | 0, _ => rfl
  | 1, _ => rfl
  | 2, _ => rfl
  | 3, _ => rfl
  | 4, _ => rfl
  | 5, _ => rfl
  | 6, _ => rfl
  | 7, _ => rfl
  | 8, _ => rfl
  | 9, _ => rfl
  | 10, _ => rfl
  | 11, _ => rfl
  | 12, _ => rfl
theorem atPGL : atS PGL 13 = 200 := by decide
theorem AlRead_main (t k : Int) (zs pl : List Int) (px py : Int) (a : Option Addr) (c : Nat) (w : World) (hw : WdAt w) (x : Nat → Int) (RX : Nat → Int) (RE : Int)
    (hv : RdI w (.slice a zs.length c) zs) (hc : zs.length ≤ c ∧ c ≤ 9223372036854775807) (hu : unpackR (fdsS PGL) zs = (pl, (px, py))) (hx : ∀ i, pl.getD i 0 = x i)
    (h : (RdOk27 t k zs pl px x ∧ RX = x ∧ RE = 0) ∨ (¬ RdOk27 t k zs pl px x ∧ RX = (fun _ => 0) ∧ RE = 3)) :
    Calls Tryd.prog 25 #[.agg #[.int .i64 t, .int .i64 k, .slice a zs.length c]] w fun e w' => e = .returned (.tuple #[.agg (pgV RX), .int .i64 RE]) ∧ Bw w w' := by
  have HWD := Lib.hid hw
  have HV := Lib.hid hv
  have FD := Lib.hid (fun W h => alFields_any W h)
  have UN := Lib.hid (fun W vf vv hf hv => Unpack_any (fdsS PGL) zs vf vv W hf hv)
  unfold PackP at UN
  have HLN := Lib.hid (fun h => unpackR_len (fdsS PGL) zs h)
  rw [hu] at UN HLN
  dsimp only at UN HLN
  clear hu hv hw
  have HNO : Hid (¬ RdOk27 t k zs pl px x → RX = (fun _ => 0) ∧ RE = 3) := Lib.hid (fun hn => by rcases h with h | h; exact absurd h.1 hn; exact h.2)
  have HYE : Hid (RdOk27 t k zs pl px x → RX = x ∧ RE = 0) := Lib.hid (fun hn => by rcases h with h | h; exact h.2; exact absurd hn h.1)
  have HX := Lib.hid hx
  have HC := Lib.hid hc
  clear h hx
  have HBW := Lib.hid (Bw.alloc (Bw.alloc (Bw.refl w) (.cells #[.int .i64 t, .int .i64 k, .slice a zs.length c] 40)) (.cells #[.int .i64 0, .int .i64 0, .int .i64 0, .int .i64 0, .int .i64 0, .int .i64 0, .int .i64 0, .int .i64 0, .int .i64 0, .int .i64 0, .int .i64 0, .int .i64 0, .int .i64 0] 27))
  have KX := Lib.hid ((Blk.new w 40 #[.int .i64 t, .int .i64 k, .slice a zs.length c]).alloc (.cells #[.int .i64 0, .int .i64 0, .int .i64 0, .int .i64 0, .int .i64 0, .int .i64 0, .int .i64 0, .int .i64 0, .int .i64 0, .int .i64 0, .int .i64 0, .int .i64 0, .int .i64 0] 27))
  have RX0 : Hid (Blk ((w.alloc (.cells #[.int .i64 t, .int .i64 k, .slice a zs.length c] 40)).alloc (.cells #[.int .i64 0, .int .i64 0, .int .i64 0, .int .i64 0, .int .i64 0, .int .i64 0, .int .i64 0, .int .i64 0, .int .i64 0, .int .i64 0, .int .i64 0, .int .i64 0, .int .i64 0] 27)) (w.heap.size + 1) 27 #[.int .i64 0, .int .i64 0, .int .i64 0, .int .i64 0, .int .i64 0, .int .i64 0, .int .i64 0, .int .i64 0, .int .i64 0, .int .i64 0, .int .i64 0, .int .i64 0, .int .i64 0]) := Lib.hid (by have h9 := Blk.new (w.alloc (.cells #[.int .i64 t, .int .i64 k, .slice a zs.length c] 40)) 27 #[.int .i64 0, .int .i64 0, .int .i64 0, .int .i64 0, .int .i64 0, .int .i64 0, .int .i64 0, .int .i64 0, .int .i64 0, .int .i64 0, .int .i64 0, .int .i64 0, .int .i64 0]; simpa using h9)
  obtain ⟨g, hg⟩ : ∃ g, w.heap.size = g := ⟨_, rfl⟩
  rw [hg] at KX RX0
  have HG := Lib.hid hg
  (refine calls_of_marks (w.heap.size) Tryd.func25 rfl ?_; simp only [Tryd.ntmps25, List.size_toArray, List.length_cons, List.length_nil, Nat.reduceAdd, Nat.reduceSub, Array.replicate_succ, Array.replicate_zero, List.push_toArray, List.append_toArray, List.nil_append, List.cons_append])
  go_upto_region 1 with fail
  obtain ⟨W0, hW0⟩ : ∃ W0, (w.alloc (.cells #[.int .i64 t, .int .i64 k, .slice a zs.length c] 40)).alloc (.cells #[.int .i64 0, .int .i64 0, .int .i64 0, .int .i64 0, .int .i64 0, .int .i64 0, .int .i64 0, .int .i64 0, .int .i64 0, .int .i64 0, .int .i64 0, .int .i64 0, .int .i64 0] 27) = W0 := ⟨_, rfl⟩
  rw [hW0] at HBW KX RX0 ⊢
  clear hW0 hg
  go_cut [4, 5] from 12 (fun s4 s5 wc => ∃ g4 g5 a4 c4, s4 = .pointer (some ⟨g4, 0, none⟩) ∧ s5 = .pointer (some ⟨g5, 0, none⟩) ∧ W0.heap.size ≤ g4 ∧ Hid (Bw W0 wc) ∧ Hid (Blk wc g4 22 #[.slice a4 pl.length c4]) ∧ Hid (Blk wc g5 71 #[.int .i64 px, .int .i64 py]) ∧ Hid (RdI wc (.slice a4 pl.length c4) pl))
  case first =>
    refine wp_region_held_drew (S := Bw W0) (by kernel_rfl) (Bw.drew (Bw.refl _)) (fun hS => ?_)
    generalize World.drew _ = wd at hS ⊢
    refine take1 (i := 1) (some 14) rfl rfl (by kernel_rfl) (by kernel_rfl) (by kernel_rfl) (fun _ _ _ _ h => h) rfl hS ?_
    apply Exists.intro
    apply And.intro
    · intro W9 hW9; have y2 := (KX.out.bw hW9).cell (j := 2) rfl; go_simp; try with_reducible rfl
    simp only [Act.put, List.setIfInBounds_toArray, List.set_cons_zero, List.set_cons_succ]
    refine take1 (i := 2) (some 15) rfl rfl (by kernel_rfl) (by kernel_rfl) (by kernel_rfl) (fun _ _ _ _ h => h) rfl hS ?_
    apply Exists.intro
    apply And.intro
    · intro W9 hW9; have y2 := (KX.out.bw hW9).cell (j := 2) rfl; go_simp; try with_reducible rfl
    simp only [Act.put, List.setIfInBounds_toArray, List.set_cons_zero, List.set_cons_succ]
    refine wpAnyH_ready (rs := [0, 7, 8]) (by kernel_rfl) (by simp) ?_
    refine AllReadyH.cons rfl (fun K hK => ?_) ?_
    go_simp
    go_wp2_with (go_at_call 43; (with_reducible refine Calls.mono (FD.out _ (HWD.out.bw (HBW.out.trans hS))) ?_); rintro e1 wd ⟨⟨vf, rfl, hrf, _⟩, hbw⟩)
    have HF := Lib.hid hrf
    clear hrf
    refine hK.out _ _ (hS.trans hbw) (fun hS => ?_)
    clear hK K
    clear hbw
    refine wpAnyH_ready (rs := [3, 7, 8]) (by kernel_rfl) (by simp) ?_
    refine AllReadyH.cons rfl (fun K hK => ?_) ?_
    go_simp
    go_wp2_with (go_at_call 52; (with_reducible refine Calls.mono (UN.out _ _ _ HF.out (HV.out.mono (HBW.out.trans hS))) ?_); rintro e1 wd ⟨⟨vu, rfl, hru, hfu, _⟩, hbw⟩)
    obtain ⟨a4, c4, rfl⟩ := hru.form
    have HD := Lib.hid hru
    clear hru hfu
    refine hK.out _ _ (hS.trans hbw) (fun hS => ?_)
    clear hK K
    clear hbw
    refine take1 (i := 4) (some 12) rfl rfl (by kernel_rfl) (by kernel_rfl) (by kernel_rfl) (fun _ _ _ _ h => h) rfl hS ?_
    apply Exists.intro
    apply And.intro
    · intro W9 hW9; have y2 := (KX.out.bw hW9).cell (j := 2) rfl; go_simp; try with_reducible rfl
    simp only [Act.put, List.setIfInBounds_toArray, List.set_cons_zero, List.set_cons_succ]
    refine take1 (i := 5) (some 17) rfl rfl (by kernel_rfl) (by kernel_rfl) (by kernel_rfl) (fun _ _ _ _ h => h) rfl hS ?_
    apply Exists.intro
    apply And.intro
    · intro W9 hW9; have y2 := (KX.out.bw hW9).cell (j := 2) rfl; go_simp; try with_reducible rfl
    simp only [Act.put, List.setIfInBounds_toArray, List.set_cons_zero, List.set_cons_succ]
    refine take1 (i := 6) (some 18) rfl rfl (by kernel_rfl) (by kernel_rfl) (by kernel_rfl) (fun _ _ _ _ h => h) rfl hS ?_
    apply Exists.intro
    apply And.intro
    · intro W9 hW9; have y2 := (KX.out.bw hW9).cell (j := 2) rfl; go_simp; try with_reducible rfl
    simp only [Act.put, List.setIfInBounds_toArray, List.set_cons_zero, List.set_cons_succ]
    refine wpAnyH_ready (rs := [7, 8]) (by kernel_rfl) (by simp) ?_
    refine AllReadyH.cons rfl (fun K hK => ?_) ?_
    rw [if_pos (by rfl)]
    refine wp_alloc_slice 22 rfl (some 4) rfl (zeroSI _) ?_
    intro g4 w5 hg5 hN hbw
    simp only [Act.put, List.setIfInBounds_toArray, List.set_cons_zero, List.set_cons_succ]
    have K4 := Lib.hid hN
    have HG4 := Lib.hid (Nat.le_trans hS.size hg5)
    have NE4 := Lib.hid (HD.out.off hg5)
    replace HD := Lib.hid (HD.out.mono hbw)
    clear hN
    refine hK.out _ _ (hS.trans hbw) (fun hS => ?_)
    clear hK K
    clear hbw hg5
    skip
    refine wpAnyH_ready (rs := [8]) (by kernel_rfl) (by simp) ?_
    refine AllReadyH.cons rfl (fun K hK => ?_) ?_
    rw [if_pos (by rfl)]
    refine wp_alloc_new28 71 rfl (some 5) rfl _ (zeroFl _) ?_
    intro g5 w6 hg5 hN hbw
    simp only [Act.put, List.setIfInBounds_toArray, List.set_cons_zero, List.set_cons_succ]
    have K5 := Lib.hid hN
    have HG5 := Lib.hid (Nat.le_trans hS.size hg5)
    have NE5 := Lib.hid (HD.out.off hg5)
    replace K4 := Lib.hid (K4.out.bw hbw)
    replace HD := Lib.hid (HD.out.mono hbw)
    clear hN
    refine hK.out _ _ (hS.trans hbw) (fun hS => ?_)
    clear hK K
    clear hbw hg5
    refine wpAnyH_ready (rs := [9]) (by kernel_rfl) (by simp) ?_
    refine AllReadyH.cons rfl (fun K hK => ?_) ?_
    have lc := K4.out.cell (show (#[_] : Array Value)[0]? = _ from rfl)
    have lf := K4.out.frozen 0
    go_simp
    clear lc lf
    replace HD := Lib.hid (HD.out.setOff NE4.out 0 (.slice a4 pl.length c4))
    replace K5 := Lib.hid (K5.out.set_other (show g5 ≠ g4 from fun e => by subst e; have h9 := K4.out.eq.symm.trans K5.out.eq; cases h9) 0 (.slice a4 pl.length c4))
    have hst := Bw.setCell hS (p := ⟨g4, 0, none⟩) HG4.out (.slice a4 pl.length c4)
    replace K4 := Lib.hid (K4.out.set 0 (.slice a4 pl.length c4))
    refine hK.out _ _ hst (fun hS => ?_)
    clear hK K
    clear hst
    refine wpAnyH_ready (rs := [10]) (by kernel_rfl) (by simp) ?_
    refine AllReadyH.cons rfl (fun K hK => ?_) ?_
    rw [if_pos (by rfl)]
    refine wp_store_row0 71 _ _ rfl rfl g5 #[.int .i64 px, .int .i64 py] rfl rfl 71 #[.int .i64 0, .int .i64 0] K5.out (by kernel_rfl) (by simp) (by simp [Value.oneCell']) ?_
    replace HD := Lib.hid (HD.out.rowOff NE5.out #[.int .i64 px, .int .i64 py])
    replace K4 := Lib.hid (K4.out.row_other (show g4 ≠ g5 from fun e => by subst e; have h9 := K4.out.eq.symm.trans K5.out.eq; cases h9) #[.int .i64 px, .int .i64 py])
    replace K5 := Lib.hid (K5.out.row #[.int .i64 px, .int .i64 py])
    have hst := Bw.setRow hS HG5.out #[.int .i64 px, .int .i64 py]
    refine hK.out _ _ hst (fun hS => ?_)
    clear hK K
    clear hst
    refine wpAnyH_done (by kernel_rfl) ?_ _
    rotate_left
    exact AllReadyH.nil
    exact AllReadyH.nil
    exact AllReadyH.nil
    refine AllReadyH.cons rfl (fun K hK => ?_) ?_
    rw [if_pos (by rfl)]
    refine wp_alloc_new28 71 rfl (some 5) rfl _ (zeroFl _) ?_
    intro g5 w6 hg5 hN hbw
    simp only [Act.put, List.setIfInBounds_toArray, List.set_cons_zero, List.set_cons_succ]
    have K5 := Lib.hid hN
    have HG5 := Lib.hid (Nat.le_trans hS.size hg5)
    have NE5 := Lib.hid (HD.out.off hg5)
    replace HD := Lib.hid (HD.out.mono hbw)
    clear hN
    refine hK.out _ _ (hS.trans hbw) (fun hS => ?_)
    clear hK K
    clear hbw hg5
    refine wpAnyH_ready (rs := [7]) (by kernel_rfl) (by simp) ?_
    refine AllReadyH.cons rfl (fun K hK => ?_) ?_
    rw [if_pos (by rfl)]
    refine wp_alloc_slice 22 rfl (some 4) rfl (zeroSI _) ?_
    intro g4 w5 hg5 hN hbw
    simp only [Act.put, List.setIfInBounds_toArray, List.set_cons_zero, List.set_cons_succ]
    have K4 := Lib.hid hN
    have HG4 := Lib.hid (Nat.le_trans hS.size hg5)
    have NE4 := Lib.hid (HD.out.off hg5)
    replace K5 := Lib.hid (K5.out.bw hbw)
    replace HD := Lib.hid (HD.out.mono hbw)
    clear hN
    refine hK.out _ _ (hS.trans hbw) (fun hS => ?_)
    clear hK K
    clear hbw hg5
    skip
    refine wpAnyH_ready (rs := [9]) (by kernel_rfl) (by simp) ?_
    refine AllReadyH.cons rfl (fun K hK => ?_) ?_
    have lc := K4.out.cell (show (#[_] : Array Value)[0]? = _ from rfl)
    have lf := K4.out.frozen 0
    go_simp
    clear lc lf
    replace HD := Lib.hid (HD.out.setOff NE4.out 0 (.slice a4 pl.length c4))
    replace K5 := Lib.hid (K5.out.set_other (show g5 ≠ g4 from fun e => by subst e; have h9 := K4.out.eq.symm.trans K5.out.eq; cases h9) 0 (.slice a4 pl.length c4))
    have hst := Bw.setCell hS (p := ⟨g4, 0, none⟩) HG4.out (.slice a4 pl.length c4)
    replace K4 := Lib.hid (K4.out.set 0 (.slice a4 pl.length c4))
    refine hK.out _ _ hst (fun hS => ?_)
    clear hK K
    clear hst
    refine wpAnyH_ready (rs := [10]) (by kernel_rfl) (by simp) ?_
    refine AllReadyH.cons rfl (fun K hK => ?_) ?_
    rw [if_pos (by rfl)]
    refine wp_store_row0 71 _ _ rfl rfl g5 #[.int .i64 px, .int .i64 py] rfl rfl 71 #[.int .i64 0, .int .i64 0] K5.out (by kernel_rfl) (by simp) (by simp [Value.oneCell']) ?_
    replace HD := Lib.hid (HD.out.rowOff NE5.out #[.int .i64 px, .int .i64 py])
    replace K4 := Lib.hid (K4.out.row_other (show g4 ≠ g5 from fun e => by subst e; have h9 := K4.out.eq.symm.trans K5.out.eq; cases h9) #[.int .i64 px, .int .i64 py])
    replace K5 := Lib.hid (K5.out.row #[.int .i64 px, .int .i64 py])
    have hst := Bw.setRow hS HG5.out #[.int .i64 px, .int .i64 py]
    refine hK.out _ _ hst (fun hS => ?_)
    clear hK K
    clear hst
    refine wpAnyH_done (by kernel_rfl) ?_ _
    rotate_left
    exact AllReadyH.nil
    exact AllReadyH.nil
    exact AllReadyH.nil
    exact AllReadyH.nil
    refine AllReadyH.cons rfl (fun K hK => ?_) ?_
    rw [if_pos (by rfl)]
    refine wp_alloc_slice 22 rfl (some 4) rfl (zeroSI _) ?_
    intro g4 w5 hg5 hN hbw
    simp only [Act.put, List.setIfInBounds_toArray, List.set_cons_zero, List.set_cons_succ]
    have K4 := Lib.hid hN
    have HG4 := Lib.hid (Nat.le_trans hS.size hg5)
    replace HF := Lib.hid (HF.out.mono hbw)
    clear hN
    refine hK.out _ _ (hS.trans hbw) (fun hS => ?_)
    clear hK K
    clear hbw hg5
    skip
    refine wpAnyH_ready (rs := [3, 8]) (by kernel_rfl) (by simp) ?_
    refine AllReadyH.cons rfl (fun K hK => ?_) ?_
    go_simp
    go_wp2_with (go_at_call 52; (with_reducible refine Calls.mono (UN.out _ _ _ HF.out (HV.out.mono (HBW.out.trans hS))) ?_); rintro e1 wd ⟨⟨vu, rfl, hru, hfu, _⟩, hbw⟩)
    obtain ⟨a4, c4, rfl⟩ := hru.form
    have NE4 := Lib.hid (hfu.off K4.out.lt pl)
    replace K4 := Lib.hid (K4.out.bw hbw)
    have HD := Lib.hid hru
    clear hru hfu
    refine hK.out _ _ (hS.trans hbw) (fun hS => ?_)
    clear hK K
    clear hbw
    refine take1 (i := 4) (some 12) rfl rfl (by kernel_rfl) (by kernel_rfl) (by kernel_rfl) (fun _ _ _ _ h => h) rfl hS ?_
    apply Exists.intro
    apply And.intro
    · intro W9 hW9; have y2 := (KX.out.bw hW9).cell (j := 2) rfl; go_simp; try with_reducible rfl
    simp only [Act.put, List.setIfInBounds_toArray, List.set_cons_zero, List.set_cons_succ]
    refine take1 (i := 5) (some 17) rfl rfl (by kernel_rfl) (by kernel_rfl) (by kernel_rfl) (fun _ _ _ _ h => h) rfl hS ?_
    apply Exists.intro
    apply And.intro
    · intro W9 hW9; have y2 := (KX.out.bw hW9).cell (j := 2) rfl; go_simp; try with_reducible rfl
    simp only [Act.put, List.setIfInBounds_toArray, List.set_cons_zero, List.set_cons_succ]
    refine take1 (i := 6) (some 18) rfl rfl (by kernel_rfl) (by kernel_rfl) (by kernel_rfl) (fun _ _ _ _ h => h) rfl hS ?_
    apply Exists.intro
    apply And.intro
    · intro W9 hW9; have y2 := (KX.out.bw hW9).cell (j := 2) rfl; go_simp; try with_reducible rfl
    simp only [Act.put, List.setIfInBounds_toArray, List.set_cons_zero, List.set_cons_succ]
    refine wpAnyH_ready (rs := [8]) (by kernel_rfl) (by simp) ?_
    refine AllReadyH.cons rfl (fun K hK => ?_) ?_
    rw [if_pos (by rfl)]
    refine wp_alloc_new28 71 rfl (some 5) rfl _ (zeroFl _) ?_
    intro g5 w6 hg5 hN hbw
    simp only [Act.put, List.setIfInBounds_toArray, List.set_cons_zero, List.set_cons_succ]
    have K5 := Lib.hid hN
    have HG5 := Lib.hid (Nat.le_trans hS.size hg5)
    have NE5 := Lib.hid (HD.out.off hg5)
    replace K4 := Lib.hid (K4.out.bw hbw)
    replace HD := Lib.hid (HD.out.mono hbw)
    clear hN
    refine hK.out _ _ (hS.trans hbw) (fun hS => ?_)
    clear hK K
    clear hbw hg5
    refine wpAnyH_ready (rs := [9]) (by kernel_rfl) (by simp) ?_
    refine AllReadyH.cons rfl (fun K hK => ?_) ?_
    have lc := K4.out.cell (show (#[_] : Array Value)[0]? = _ from rfl)
    have lf := K4.out.frozen 0
    go_simp
    clear lc lf
    replace HD := Lib.hid (HD.out.setOff NE4.out 0 (.slice a4 pl.length c4))
    replace K5 := Lib.hid (K5.out.set_other (show g5 ≠ g4 from fun e => by subst e; have h9 := K4.out.eq.symm.trans K5.out.eq; cases h9) 0 (.slice a4 pl.length c4))
    have hst := Bw.setCell hS (p := ⟨g4, 0, none⟩) HG4.out (.slice a4 pl.length c4)
    replace K4 := Lib.hid (K4.out.set 0 (.slice a4 pl.length c4))
    refine hK.out _ _ hst (fun hS => ?_)
    clear hK K
    clear hst
    refine wpAnyH_ready (rs := [10]) (by kernel_rfl) (by simp) ?_
    refine AllReadyH.cons rfl (fun K hK => ?_) ?_
    rw [if_pos (by rfl)]
    refine wp_store_row0 71 _ _ rfl rfl g5 #[.int .i64 px, .int .i64 py] rfl rfl 71 #[.int .i64 0, .int .i64 0] K5.out (by kernel_rfl) (by simp) (by simp [Value.oneCell']) ?_
    replace HD := Lib.hid (HD.out.rowOff NE5.out #[.int .i64 px, .int .i64 py])
    replace K4 := Lib.hid (K4.out.row_other (show g4 ≠ g5 from fun e => by subst e; have h9 := K4.out.eq.symm.trans K5.out.eq; cases h9) #[.int .i64 px, .int .i64 py])
    replace K5 := Lib.hid (K5.out.row #[.int .i64 px, .int .i64 py])
    have hst := Bw.setRow hS HG5.out #[.int .i64 px, .int .i64 py]
    refine hK.out _ _ hst (fun hS => ?_)
    clear hK K
    clear hst
    refine wpAnyH_done (by kernel_rfl) ?_ _
    rotate_left
    exact AllReadyH.nil
    exact AllReadyH.nil
    exact AllReadyH.nil
    refine AllReadyH.cons rfl (fun K hK => ?_) ?_
    rw [if_pos (by rfl)]
    refine wp_alloc_new28 71 rfl (some 5) rfl _ (zeroFl _) ?_
    intro g5 w6 hg5 hN hbw
    simp only [Act.put, List.setIfInBounds_toArray, List.set_cons_zero, List.set_cons_succ]
    have K5 := Lib.hid hN
    have HG5 := Lib.hid (Nat.le_trans hS.size hg5)
    replace K4 := Lib.hid (K4.out.bw hbw)
    replace HF := Lib.hid (HF.out.mono hbw)
    clear hN
    refine hK.out _ _ (hS.trans hbw) (fun hS => ?_)
    clear hK K
    clear hbw hg5
    refine wpAnyH_ready (rs := [3]) (by kernel_rfl) (by simp) ?_
    refine AllReadyH.cons rfl (fun K hK => ?_) ?_
    go_simp
    go_wp2_with (go_at_call 52; (with_reducible refine Calls.mono (UN.out _ _ _ HF.out (HV.out.mono (HBW.out.trans hS))) ?_); rintro e1 wd ⟨⟨vu, rfl, hru, hfu, _⟩, hbw⟩)
    obtain ⟨a4, c4, rfl⟩ := hru.form
    have NE4 := Lib.hid (hfu.off K4.out.lt pl)
    replace K4 := Lib.hid (K4.out.bw hbw)
    have NE5 := Lib.hid (hfu.off K5.out.lt pl)
    replace K5 := Lib.hid (K5.out.bw hbw)
    have HD := Lib.hid hru
    clear hru hfu
    refine hK.out _ _ (hS.trans hbw) (fun hS => ?_)
    clear hK K
    clear hbw
    refine take1 (i := 4) (some 12) rfl rfl (by kernel_rfl) (by kernel_rfl) (by kernel_rfl) (fun _ _ _ _ h => h) rfl hS ?_
    apply Exists.intro
    apply And.intro
    · intro W9 hW9; have y2 := (KX.out.bw hW9).cell (j := 2) rfl; go_simp; try with_reducible rfl
    simp only [Act.put, List.setIfInBounds_toArray, List.set_cons_zero, List.set_cons_succ]
    refine take1 (i := 5) (some 17) rfl rfl (by kernel_rfl) (by kernel_rfl) (by kernel_rfl) (fun _ _ _ _ h => h) rfl hS ?_
    apply Exists.intro
    apply And.intro
    · intro W9 hW9; have y2 := (KX.out.bw hW9).cell (j := 2) rfl; go_simp; try with_reducible rfl
    simp only [Act.put, List.setIfInBounds_toArray, List.set_cons_zero, List.set_cons_succ]
    refine take1 (i := 6) (some 18) rfl rfl (by kernel_rfl) (by kernel_rfl) (by kernel_rfl) (fun _ _ _ _ h => h) rfl hS ?_
    apply Exists.intro
    apply And.intro
    · intro W9 hW9; have y2 := (KX.out.bw hW9).cell (j := 2) rfl; go_simp; try with_reducible rfl
    simp only [Act.put, List.setIfInBounds_toArray, List.set_cons_zero, List.set_cons_succ]
    refine wpAnyH_ready (rs := [9]) (by kernel_rfl) (by simp) ?_
    refine AllReadyH.cons rfl (fun K hK => ?_) ?_
    have lc := K4.out.cell (show (#[_] : Array Value)[0]? = _ from rfl)
    have lf := K4.out.frozen 0
    go_simp
    clear lc lf
    replace HD := Lib.hid (HD.out.setOff NE4.out 0 (.slice a4 pl.length c4))
    replace K5 := Lib.hid (K5.out.set_other (show g5 ≠ g4 from fun e => by subst e; have h9 := K4.out.eq.symm.trans K5.out.eq; cases h9) 0 (.slice a4 pl.length c4))
    have hst := Bw.setCell hS (p := ⟨g4, 0, none⟩) HG4.out (.slice a4 pl.length c4)
    replace K4 := Lib.hid (K4.out.set 0 (.slice a4 pl.length c4))
    refine hK.out _ _ hst (fun hS => ?_)
    clear hK K
    clear hst
    refine wpAnyH_ready (rs := [10]) (by kernel_rfl) (by simp) ?_
    refine AllReadyH.cons rfl (fun K hK => ?_) ?_
    rw [if_pos (by rfl)]
    refine wp_store_row0 71 _ _ rfl rfl g5 #[.int .i64 px, .int .i64 py] rfl rfl 71 #[.int .i64 0, .int .i64 0] K5.out (by kernel_rfl) (by simp) (by simp [Value.oneCell']) ?_
    replace HD := Lib.hid (HD.out.rowOff NE5.out #[.int .i64 px, .int .i64 py])
    replace K4 := Lib.hid (K4.out.row_other (show g4 ≠ g5 from fun e => by subst e; have h9 := K4.out.eq.symm.trans K5.out.eq; cases h9) #[.int .i64 px, .int .i64 py])
    replace K5 := Lib.hid (K5.out.row #[.int .i64 px, .int .i64 py])
    have hst := Bw.setRow hS HG5.out #[.int .i64 px, .int .i64 py]
    refine hK.out _ _ hst (fun hS => ?_)
    clear hK K
    clear hst
    refine wpAnyH_done (by kernel_rfl) ?_ _
    rotate_left
    exact AllReadyH.nil
    exact AllReadyH.nil
    exact AllReadyH.nil
    exact AllReadyH.nil
    refine AllReadyH.cons rfl (fun K hK => ?_) ?_
    rw [if_pos (by rfl)]
    refine wp_alloc_new28 71 rfl (some 5) rfl _ (zeroFl _) ?_
    intro g5 w6 hg5 hN hbw
    simp only [Act.put, List.setIfInBounds_toArray, List.set_cons_zero, List.set_cons_succ]
    have K5 := Lib.hid hN
    have HG5 := Lib.hid (Nat.le_trans hS.size hg5)
    replace HF := Lib.hid (HF.out.mono hbw)
    clear hN
    refine hK.out _ _ (hS.trans hbw) (fun hS => ?_)
    clear hK K
    clear hbw hg5
    refine wpAnyH_ready (rs := [3, 7]) (by kernel_rfl) (by simp) ?_
    refine AllReadyH.cons rfl (fun K hK => ?_) ?_
    go_simp
    go_wp2_with (go_at_call 52; (with_reducible refine Calls.mono (UN.out _ _ _ HF.out (HV.out.mono (HBW.out.trans hS))) ?_); rintro e1 wd ⟨⟨vu, rfl, hru, hfu, _⟩, hbw⟩)
    obtain ⟨a4, c4, rfl⟩ := hru.form
    have NE5 := Lib.hid (hfu.off K5.out.lt pl)
    replace K5 := Lib.hid (K5.out.bw hbw)
    have HD := Lib.hid hru
    clear hru hfu
    refine hK.out _ _ (hS.trans hbw) (fun hS => ?_)
    clear hK K
    clear hbw
    refine take1 (i := 4) (some 12) rfl rfl (by kernel_rfl) (by kernel_rfl) (by kernel_rfl) (fun _ _ _ _ h => h) rfl hS ?_
    apply Exists.intro
    apply And.intro
    · intro W9 hW9; have y2 := (KX.out.bw hW9).cell (j := 2) rfl; go_simp; try with_reducible rfl
    simp only [Act.put, List.setIfInBounds_toArray, List.set_cons_zero, List.set_cons_succ]
    refine take1 (i := 5) (some 17) rfl rfl (by kernel_rfl) (by kernel_rfl) (by kernel_rfl) (fun _ _ _ _ h => h) rfl hS ?_
    apply Exists.intro
    apply And.intro
    · intro W9 hW9; have y2 := (KX.out.bw hW9).cell (j := 2) rfl; go_simp; try with_reducible rfl
    simp only [Act.put, List.setIfInBounds_toArray, List.set_cons_zero, List.set_cons_succ]
    refine take1 (i := 6) (some 18) rfl rfl (by kernel_rfl) (by kernel_rfl) (by kernel_rfl) (fun _ _ _ _ h => h) rfl hS ?_
    apply Exists.intro
    apply And.intro
    · intro W9 hW9; have y2 := (KX.out.bw hW9).cell (j := 2) rfl; go_simp; try with_reducible rfl
    simp only [Act.put, List.setIfInBounds_toArray, List.set_cons_zero, List.set_cons_succ]
    refine wpAnyH_ready (rs := [7]) (by kernel_rfl) (by simp) ?_
    refine AllReadyH.cons rfl (fun K hK => ?_) ?_
    rw [if_pos (by rfl)]
    refine wp_alloc_slice 22 rfl (some 4) rfl (zeroSI _) ?_
    intro g4 w5 hg5 hN hbw
    simp only [Act.put, List.setIfInBounds_toArray, List.set_cons_zero, List.set_cons_succ]
    have K4 := Lib.hid hN
    have HG4 := Lib.hid (Nat.le_trans hS.size hg5)
    have NE4 := Lib.hid (HD.out.off hg5)
    replace K5 := Lib.hid (K5.out.bw hbw)
    replace HD := Lib.hid (HD.out.mono hbw)
    clear hN
    refine hK.out _ _ (hS.trans hbw) (fun hS => ?_)
    clear hK K
    clear hbw hg5
    skip
    refine wpAnyH_ready (rs := [9]) (by kernel_rfl) (by simp) ?_
    refine AllReadyH.cons rfl (fun K hK => ?_) ?_
    have lc := K4.out.cell (show (#[_] : Array Value)[0]? = _ from rfl)
    have lf := K4.out.frozen 0
    go_simp
    clear lc lf
    replace HD := Lib.hid (HD.out.setOff NE4.out 0 (.slice a4 pl.length c4))
    replace K5 := Lib.hid (K5.out.set_other (show g5 ≠ g4 from fun e => by subst e; have h9 := K4.out.eq.symm.trans K5.out.eq; cases h9) 0 (.slice a4 pl.length c4))
    have hst := Bw.setCell hS (p := ⟨g4, 0, none⟩) HG4.out (.slice a4 pl.length c4)
    replace K4 := Lib.hid (K4.out.set 0 (.slice a4 pl.length c4))
    refine hK.out _ _ hst (fun hS => ?_)
    clear hK K
    clear hst
    refine wpAnyH_ready (rs := [10]) (by kernel_rfl) (by simp) ?_
    refine AllReadyH.cons rfl (fun K hK => ?_) ?_
    rw [if_pos (by rfl)]
    refine wp_store_row0 71 _ _ rfl rfl g5 #[.int .i64 px, .int .i64 py] rfl rfl 71 #[.int .i64 0, .int .i64 0] K5.out (by kernel_rfl) (by simp) (by simp [Value.oneCell']) ?_
    replace HD := Lib.hid (HD.out.rowOff NE5.out #[.int .i64 px, .int .i64 py])
    replace K4 := Lib.hid (K4.out.row_other (show g4 ≠ g5 from fun e => by subst e; have h9 := K4.out.eq.symm.trans K5.out.eq; cases h9) #[.int .i64 px, .int .i64 py])
    replace K5 := Lib.hid (K5.out.row #[.int .i64 px, .int .i64 py])
    have hst := Bw.setRow hS HG5.out #[.int .i64 px, .int .i64 py]
    refine hK.out _ _ hst (fun hS => ?_)
    clear hK K
    clear hst
    refine wpAnyH_done (by kernel_rfl) ?_ _
    rotate_left
    exact AllReadyH.nil
    exact AllReadyH.nil
    exact AllReadyH.nil
    refine AllReadyH.cons rfl (fun K hK => ?_) ?_
    rw [if_pos (by rfl)]
    refine wp_alloc_slice 22 rfl (some 4) rfl (zeroSI _) ?_
    intro g4 w5 hg5 hN hbw
    simp only [Act.put, List.setIfInBounds_toArray, List.set_cons_zero, List.set_cons_succ]
    have K4 := Lib.hid hN
    have HG4 := Lib.hid (Nat.le_trans hS.size hg5)
    replace K5 := Lib.hid (K5.out.bw hbw)
    replace HF := Lib.hid (HF.out.mono hbw)
    clear hN
    refine hK.out _ _ (hS.trans hbw) (fun hS => ?_)
    clear hK K
    clear hbw hg5
    skip
    refine wpAnyH_ready (rs := [3]) (by kernel_rfl) (by simp) ?_
    refine AllReadyH.cons rfl (fun K hK => ?_) ?_
    go_simp
    go_wp2_with (go_at_call 52; (with_reducible refine Calls.mono (UN.out _ _ _ HF.out (HV.out.mono (HBW.out.trans hS))) ?_); rintro e1 wd ⟨⟨vu, rfl, hru, hfu, _⟩, hbw⟩)
    obtain ⟨a4, c4, rfl⟩ := hru.form
    have NE4 := Lib.hid (hfu.off K4.out.lt pl)
    replace K4 := Lib.hid (K4.out.bw hbw)
    have NE5 := Lib.hid (hfu.off K5.out.lt pl)
    replace K5 := Lib.hid (K5.out.bw hbw)
    have HD := Lib.hid hru
    clear hru hfu
    refine hK.out _ _ (hS.trans hbw) (fun hS => ?_)
    clear hK K
    clear hbw
    refine take1 (i := 4) (some 12) rfl rfl (by kernel_rfl) (by kernel_rfl) (by kernel_rfl) (fun _ _ _ _ h => h) rfl hS ?_
    apply Exists.intro
    apply And.intro
    · intro W9 hW9; have y2 := (KX.out.bw hW9).cell (j := 2) rfl; go_simp; try with_reducible rfl
    simp only [Act.put, List.setIfInBounds_toArray, List.set_cons_zero, List.set_cons_succ]
    refine take1 (i := 5) (some 17) rfl rfl (by kernel_rfl) (by kernel_rfl) (by kernel_rfl) (fun _ _ _ _ h => h) rfl hS ?_
    apply Exists.intro
    apply And.intro
    · intro W9 hW9; have y2 := (KX.out.bw hW9).cell (j := 2) rfl; go_simp; try with_reducible rfl
    simp only [Act.put, List.setIfInBounds_toArray, List.set_cons_zero, List.set_cons_succ]
    refine take1 (i := 6) (some 18) rfl rfl (by kernel_rfl) (by kernel_rfl) (by kernel_rfl) (fun _ _ _ _ h => h) rfl hS ?_
    apply Exists.intro
    apply And.intro
    · intro W9 hW9; have y2 := (KX.out.bw hW9).cell (j := 2) rfl; go_simp; try with_reducible rfl
    simp only [Act.put, List.setIfInBounds_toArray, List.set_cons_zero, List.set_cons_succ]
    refine wpAnyH_ready (rs := [9]) (by kernel_rfl) (by simp) ?_
    refine AllReadyH.cons rfl (fun K hK => ?_) ?_
    have lc := K4.out.cell (show (#[_] : Array Value)[0]? = _ from rfl)
    have lf := K4.out.frozen 0
    go_simp
    clear lc lf
    replace HD := Lib.hid (HD.out.setOff NE4.out 0 (.slice a4 pl.length c4))
    replace K5 := Lib.hid (K5.out.set_other (show g5 ≠ g4 from fun e => by subst e; have h9 := K4.out.eq.symm.trans K5.out.eq; cases h9) 0 (.slice a4 pl.length c4))
    have hst := Bw.setCell hS (p := ⟨g4, 0, none⟩) HG4.out (.slice a4 pl.length c4)
    replace K4 := Lib.hid (K4.out.set 0 (.slice a4 pl.length c4))
    refine hK.out _ _ hst (fun hS => ?_)
    clear hK K
    clear hst
    refine wpAnyH_ready (rs := [10]) (by kernel_rfl) (by simp) ?_
    refine AllReadyH.cons rfl (fun K hK => ?_) ?_
    rw [if_pos (by rfl)]
    refine wp_store_row0 71 _ _ rfl rfl g5 #[.int .i64 px, .int .i64 py] rfl rfl 71 #[.int .i64 0, .int .i64 0] K5.out (by kernel_rfl) (by simp) (by simp [Value.oneCell']) ?_
    replace HD := Lib.hid (HD.out.rowOff NE5.out #[.int .i64 px, .int .i64 py])
    replace K4 := Lib.hid (K4.out.row_other (show g4 ≠ g5 from fun e => by subst e; have h9 := K4.out.eq.symm.trans K5.out.eq; cases h9) #[.int .i64 px, .int .i64 py])
    replace K5 := Lib.hid (K5.out.row #[.int .i64 px, .int .i64 py])
    have hst := Bw.setRow hS HG5.out #[.int .i64 px, .int .i64 py]
    refine hK.out _ _ hst (fun hS => ?_)
    clear hK K
    clear hst
    refine wpAnyH_done (by kernel_rfl) ?_ _
    rotate_left
    exact AllReadyH.nil
    exact AllReadyH.nil
    exact AllReadyH.nil
    exact AllReadyH.nil
    exact AllReadyH.nil
    refine AllReadyH.cons rfl (fun K hK => ?_) ?_
    rw [if_pos (by rfl)]
    refine wp_alloc_slice 22 rfl (some 4) rfl (zeroSI _) ?_
    intro g4 w5 hg5 hN hbw
    simp only [Act.put, List.setIfInBounds_toArray, List.set_cons_zero, List.set_cons_succ]
    have K4 := Lib.hid hN
    have HG4 := Lib.hid (Nat.le_trans hS.size hg5)
    clear hN
    refine hK.out _ _ (hS.trans hbw) (fun hS => ?_)
    clear hK K
    clear hbw hg5
    skip
    refine wpAnyH_ready (rs := [0, 8]) (by kernel_rfl) (by simp) ?_
    refine AllReadyH.cons rfl (fun K hK => ?_) ?_
    go_simp
    go_wp2_with (go_at_call 43; (with_reducible refine Calls.mono (FD.out _ (HWD.out.bw (HBW.out.trans hS))) ?_); rintro e1 wd ⟨⟨vf, rfl, hrf, _⟩, hbw⟩)
    have HF := Lib.hid hrf
    clear hrf
    replace K4 := Lib.hid (K4.out.bw hbw)
    refine hK.out _ _ (hS.trans hbw) (fun hS => ?_)
    clear hK K
    clear hbw
    refine wpAnyH_ready (rs := [3, 8]) (by kernel_rfl) (by simp) ?_
    refine AllReadyH.cons rfl (fun K hK => ?_) ?_
    go_simp
    go_wp2_with (go_at_call 52; (with_reducible refine Calls.mono (UN.out _ _ _ HF.out (HV.out.mono (HBW.out.trans hS))) ?_); rintro e1 wd ⟨⟨vu, rfl, hru, hfu, _⟩, hbw⟩)
    obtain ⟨a4, c4, rfl⟩ := hru.form
    have NE4 := Lib.hid (hfu.off K4.out.lt pl)
    replace K4 := Lib.hid (K4.out.bw hbw)
    have HD := Lib.hid hru
    clear hru hfu
    refine hK.out _ _ (hS.trans hbw) (fun hS => ?_)
    clear hK K
    clear hbw
    refine take1 (i := 4) (some 12) rfl rfl (by kernel_rfl) (by kernel_rfl) (by kernel_rfl) (fun _ _ _ _ h => h) rfl hS ?_
    apply Exists.intro
    apply And.intro
    · intro W9 hW9; have y2 := (KX.out.bw hW9).cell (j := 2) rfl; go_simp; try with_reducible rfl
    simp only [Act.put, List.setIfInBounds_toArray, List.set_cons_zero, List.set_cons_succ]
    refine take1 (i := 5) (some 17) rfl rfl (by kernel_rfl) (by kernel_rfl) (by kernel_rfl) (fun _ _ _ _ h => h) rfl hS ?_
    apply Exists.intro
    apply And.intro
    · intro W9 hW9; have y2 := (KX.out.bw hW9).cell (j := 2) rfl; go_simp; try with_reducible rfl
    simp only [Act.put, List.setIfInBounds_toArray, List.set_cons_zero, List.set_cons_succ]
    refine take1 (i := 6) (some 18) rfl rfl (by kernel_rfl) (by kernel_rfl) (by kernel_rfl) (fun _ _ _ _ h => h) rfl hS ?_
    apply Exists.intro
    apply And.intro
    · intro W9 hW9; have y2 := (KX.out.bw hW9).cell (j := 2) rfl; go_simp; try with_reducible rfl
    simp only [Act.put, List.setIfInBounds_toArray, List.set_cons_zero, List.set_cons_succ]
    refine wpAnyH_ready (rs := [8]) (by kernel_rfl) (by simp) ?_
    refine AllReadyH.cons rfl (fun K hK => ?_) ?_
    rw [if_pos (by rfl)]
    refine wp_alloc_new28 71 rfl (some 5) rfl _ (zeroFl _) ?_
    intro g5 w6 hg5 hN hbw
    simp only [Act.put, List.setIfInBounds_toArray, List.set_cons_zero, List.set_cons_succ]
    have K5 := Lib.hid hN
    have HG5 := Lib.hid (Nat.le_trans hS.size hg5)
    have NE5 := Lib.hid (HD.out.off hg5)
    replace K4 := Lib.hid (K4.out.bw hbw)
    replace HD := Lib.hid (HD.out.mono hbw)
    clear hN
    refine hK.out _ _ (hS.trans hbw) (fun hS => ?_)
    clear hK K
    clear hbw hg5
    refine wpAnyH_ready (rs := [9]) (by kernel_rfl) (by simp) ?_
    refine AllReadyH.cons rfl (fun K hK => ?_) ?_
    have lc := K4.out.cell (show (#[_] : Array Value)[0]? = _ from rfl)
    have lf := K4.out.frozen 0
    go_simp
    clear lc lf
    replace HD := Lib.hid (HD.out.setOff NE4.out 0 (.slice a4 pl.length c4))
    replace K5 := Lib.hid (K5.out.set_other (show g5 ≠ g4 from fun e => by subst e; have h9 := K4.out.eq.symm.trans K5.out.eq; cases h9) 0 (.slice a4 pl.length c4))
    have hst := Bw.setCell hS (p := ⟨g4, 0, none⟩) HG4.out (.slice a4 pl.length c4)
    replace K4 := Lib.hid (K4.out.set 0 (.slice a4 pl.length c4))
    refine hK.out _ _ hst (fun hS => ?_)
    clear hK K
    clear hst
    refine wpAnyH_ready (rs := [10]) (by kernel_rfl) (by simp) ?_
    refine AllReadyH.cons rfl (fun K hK => ?_) ?_
    rw [if_pos (by rfl)]
    refine wp_store_row0 71 _ _ rfl rfl g5 #[.int .i64 px, .int .i64 py] rfl rfl 71 #[.int .i64 0, .int .i64 0] K5.out (by kernel_rfl) (by simp) (by simp [Value.oneCell']) ?_
    replace HD := Lib.hid (HD.out.rowOff NE5.out #[.int .i64 px, .int .i64 py])
    replace K4 := Lib.hid (K4.out.row_other (show g4 ≠ g5 from fun e => by subst e; have h9 := K4.out.eq.symm.trans K5.out.eq; cases h9) #[.int .i64 px, .int .i64 py])
    replace K5 := Lib.hid (K5.out.row #[.int .i64 px, .int .i64 py])
    have hst := Bw.setRow hS HG5.out #[.int .i64 px, .int .i64 py]
    refine hK.out _ _ hst (fun hS => ?_)
    clear hK K
    clear hst
    refine wpAnyH_done (by kernel_rfl) ?_ _
    rotate_left
    exact AllReadyH.nil
    exact AllReadyH.nil
    exact AllReadyH.nil
    refine AllReadyH.cons rfl (fun K hK => ?_) ?_
    rw [if_pos (by rfl)]
    refine wp_alloc_new28 71 rfl (some 5) rfl _ (zeroFl _) ?_
    intro g5 w6 hg5 hN hbw
    simp only [Act.put, List.setIfInBounds_toArray, List.set_cons_zero, List.set_cons_succ]
    have K5 := Lib.hid hN
    have HG5 := Lib.hid (Nat.le_trans hS.size hg5)
    replace K4 := Lib.hid (K4.out.bw hbw)
    replace HF := Lib.hid (HF.out.mono hbw)
    clear hN
    refine hK.out _ _ (hS.trans hbw) (fun hS => ?_)
    clear hK K
    clear hbw hg5
    refine wpAnyH_ready (rs := [3]) (by kernel_rfl) (by simp) ?_
    refine AllReadyH.cons rfl (fun K hK => ?_) ?_
    go_simp
    go_wp2_with (go_at_call 52; (with_reducible refine Calls.mono (UN.out _ _ _ HF.out (HV.out.mono (HBW.out.trans hS))) ?_); rintro e1 wd ⟨⟨vu, rfl, hru, hfu, _⟩, hbw⟩)
    obtain ⟨a4, c4, rfl⟩ := hru.form
    have NE4 := Lib.hid (hfu.off K4.out.lt pl)
    replace K4 := Lib.hid (K4.out.bw hbw)
    have NE5 := Lib.hid (hfu.off K5.out.lt pl)
    replace K5 := Lib.hid (K5.out.bw hbw)
    have HD := Lib.hid hru
    clear hru hfu
    refine hK.out _ _ (hS.trans hbw) (fun hS => ?_)
    clear hK K
    clear hbw
    refine take1 (i := 4) (some 12) rfl rfl (by kernel_rfl) (by kernel_rfl) (by kernel_rfl) (fun _ _ _ _ h => h) rfl hS ?_
    apply Exists.intro
    apply And.intro
    · intro W9 hW9; have y2 := (KX.out.bw hW9).cell (j := 2) rfl; go_simp; try with_reducible rfl
    simp only [Act.put, List.setIfInBounds_toArray, List.set_cons_zero, List.set_cons_succ]
    refine take1 (i := 5) (some 17) rfl rfl (by kernel_rfl) (by kernel_rfl) (by kernel_rfl) (fun _ _ _ _ h => h) rfl hS ?_
    apply Exists.intro
    apply And.intro
    · intro W9 hW9; have y2 := (KX.out.bw hW9).cell (j := 2) rfl; go_simp; try with_reducible rfl
    simp only [Act.put, List.setIfInBounds_toArray, List.set_cons_zero, List.set_cons_succ]
    refine take1 (i := 6) (some 18) rfl rfl (by kernel_rfl) (by kernel_rfl) (by kernel_rfl) (fun _ _ _ _ h => h) rfl hS ?_
    apply Exists.intro
    apply And.intro
    · intro W9 hW9; have y2 := (KX.out.bw hW9).cell (j := 2) rfl; go_simp; try with_reducible rfl
    simp only [Act.put, List.setIfInBounds_toArray, List.set_cons_zero, List.set_cons_succ]
    refine wpAnyH_ready (rs := [9]) (by kernel_rfl) (by simp) ?_
    refine AllReadyH.cons rfl (fun K hK => ?_) ?_
    have lc := K4.out.cell (show (#[_] : Array Value)[0]? = _ from rfl)
    have lf := K4.out.frozen 0
    go_simp
    clear lc lf
    replace HD := Lib.hid (HD.out.setOff NE4.out 0 (.slice a4 pl.length c4))
    replace K5 := Lib.hid (K5.out.set_other (show g5 ≠ g4 from fun e => by subst e; have h9 := K4.out.eq.symm.trans K5.out.eq; cases h9) 0 (.slice a4 pl.length c4))
    have hst := Bw.setCell hS (p := ⟨g4, 0, none⟩) HG4.out (.slice a4 pl.length c4)
    replace K4 := Lib.hid (K4.out.set 0 (.slice a4 pl.length c4))
    refine hK.out _ _ hst (fun hS => ?_)
    clear hK K
    clear hst
    refine wpAnyH_ready (rs := [10]) (by kernel_rfl) (by simp) ?_
    refine AllReadyH.cons rfl (fun K hK => ?_) ?_
    rw [if_pos (by rfl)]
    refine wp_store_row0 71 _ _ rfl rfl g5 #[.int .i64 px, .int .i64 py] rfl rfl 71 #[.int .i64 0, .int .i64 0] K5.out (by kernel_rfl) (by simp) (by simp [Value.oneCell']) ?_
    replace HD := Lib.hid (HD.out.rowOff NE5.out #[.int .i64 px, .int .i64 py])
    replace K4 := Lib.hid (K4.out.row_other (show g4 ≠ g5 from fun e => by subst e; have h9 := K4.out.eq.symm.trans K5.out.eq; cases h9) #[.int .i64 px, .int .i64 py])
    replace K5 := Lib.hid (K5.out.row #[.int .i64 px, .int .i64 py])
    have hst := Bw.setRow hS HG5.out #[.int .i64 px, .int .i64 py]
    refine hK.out _ _ hst (fun hS => ?_)
    clear hK K
    clear hst
    refine wpAnyH_done (by kernel_rfl) ?_ _
    rotate_left
    exact AllReadyH.nil
    exact AllReadyH.nil
    exact AllReadyH.nil
    exact AllReadyH.nil
    refine AllReadyH.cons rfl (fun K hK => ?_) ?_
    rw [if_pos (by rfl)]
    refine wp_alloc_new28 71 rfl (some 5) rfl _ (zeroFl _) ?_
    intro g5 w6 hg5 hN hbw
    simp only [Act.put, List.setIfInBounds_toArray, List.set_cons_zero, List.set_cons_succ]
    have K5 := Lib.hid hN
    have HG5 := Lib.hid (Nat.le_trans hS.size hg5)
    replace K4 := Lib.hid (K4.out.bw hbw)
    clear hN
    refine hK.out _ _ (hS.trans hbw) (fun hS => ?_)
    clear hK K
    clear hbw hg5
    refine wpAnyH_ready (rs := [0]) (by kernel_rfl) (by simp) ?_
    refine AllReadyH.cons rfl (fun K hK => ?_) ?_
    go_simp
    go_wp2_with (go_at_call 43; (with_reducible refine Calls.mono (FD.out _ (HWD.out.bw (HBW.out.trans hS))) ?_); rintro e1 wd ⟨⟨vf, rfl, hrf, _⟩, hbw⟩)
    have HF := Lib.hid hrf
    clear hrf
    replace K4 := Lib.hid (K4.out.bw hbw)
    replace K5 := Lib.hid (K5.out.bw hbw)
    refine hK.out _ _ (hS.trans hbw) (fun hS => ?_)
    clear hK K
    clear hbw
    refine wpAnyH_ready (rs := [3]) (by kernel_rfl) (by simp) ?_
    refine AllReadyH.cons rfl (fun K hK => ?_) ?_
    go_simp
    go_wp2_with (go_at_call 52; (with_reducible refine Calls.mono (UN.out _ _ _ HF.out (HV.out.mono (HBW.out.trans hS))) ?_); rintro e1 wd ⟨⟨vu, rfl, hru, hfu, _⟩, hbw⟩)
    obtain ⟨a4, c4, rfl⟩ := hru.form
    have NE4 := Lib.hid (hfu.off K4.out.lt pl)
    replace K4 := Lib.hid (K4.out.bw hbw)
    have NE5 := Lib.hid (hfu.off K5.out.lt pl)
    replace K5 := Lib.hid (K5.out.bw hbw)
    have HD := Lib.hid hru
    clear hru hfu
    refine hK.out _ _ (hS.trans hbw) (fun hS => ?_)
    clear hK K
    clear hbw
    refine take1 (i := 4) (some 12) rfl rfl (by kernel_rfl) (by kernel_rfl) (by kernel_rfl) (fun _ _ _ _ h => h) rfl hS ?_
    apply Exists.intro
    apply And.intro
    · intro W9 hW9; have y2 := (KX.out.bw hW9).cell (j := 2) rfl; go_simp; try with_reducible rfl
    simp only [Act.put, List.setIfInBounds_toArray, List.set_cons_zero, List.set_cons_succ]
    refine take1 (i := 5) (some 17) rfl rfl (by kernel_rfl) (by kernel_rfl) (by kernel_rfl) (fun _ _ _ _ h => h) rfl hS ?_
    apply Exists.intro
    apply And.intro
    · intro W9 hW9; have y2 := (KX.out.bw hW9).cell (j := 2) rfl; go_simp; try with_reducible rfl
    simp only [Act.put, List.setIfInBounds_toArray, List.set_cons_zero, List.set_cons_succ]
    refine take1 (i := 6) (some 18) rfl rfl (by kernel_rfl) (by kernel_rfl) (by kernel_rfl) (fun _ _ _ _ h => h) rfl hS ?_
    apply Exists.intro
    apply And.intro
    · intro W9 hW9; have y2 := (KX.out.bw hW9).cell (j := 2) rfl; go_simp; try with_reducible rfl
    simp only [Act.put, List.setIfInBounds_toArray, List.set_cons_zero, List.set_cons_succ]
    refine wpAnyH_ready (rs := [9]) (by kernel_rfl) (by simp) ?_
    refine AllReadyH.cons rfl (fun K hK => ?_) ?_
    have lc := K4.out.cell (show (#[_] : Array Value)[0]? = _ from rfl)
    have lf := K4.out.frozen 0
    go_simp
    clear lc lf
    replace HD := Lib.hid (HD.out.setOff NE4.out 0 (.slice a4 pl.length c4))
    replace K5 := Lib.hid (K5.out.set_other (show g5 ≠ g4 from fun e => by subst e; have h9 := K4.out.eq.symm.trans K5.out.eq; cases h9) 0 (.slice a4 pl.length c4))
    have hst := Bw.setCell hS (p := ⟨g4, 0, none⟩) HG4.out (.slice a4 pl.length c4)
    replace K4 := Lib.hid (K4.out.set 0 (.slice a4 pl.length c4))
    refine hK.out _ _ hst (fun hS => ?_)
    clear hK K
    clear hst
    refine wpAnyH_ready (rs := [10]) (by kernel_rfl) (by simp) ?_
    refine AllReadyH.cons rfl (fun K hK => ?_) ?_
    rw [if_pos (by rfl)]
    refine wp_store_row0 71 _ _ rfl rfl g5 #[.int .i64 px, .int .i64 py] rfl rfl 71 #[.int .i64 0, .int .i64 0] K5.out (by kernel_rfl) (by simp) (by simp [Value.oneCell']) ?_
    replace HD := Lib.hid (HD.out.rowOff NE5.out #[.int .i64 px, .int .i64 py])
    replace K4 := Lib.hid (K4.out.row_other (show g4 ≠ g5 from fun e => by subst e; have h9 := K4.out.eq.symm.trans K5.out.eq; cases h9) #[.int .i64 px, .int .i64 py])
    replace K5 := Lib.hid (K5.out.row #[.int .i64 px, .int .i64 py])
    have hst := Bw.setRow hS HG5.out #[.int .i64 px, .int .i64 py]
    refine hK.out _ _ hst (fun hS => ?_)
    clear hK K
    clear hst
    refine wpAnyH_done (by kernel_rfl) ?_ _
    rotate_left
    exact AllReadyH.nil
    exact AllReadyH.nil
    exact AllReadyH.nil
    exact AllReadyH.nil
    exact AllReadyH.nil
    refine AllReadyH.cons rfl (fun K hK => ?_) ?_
    rw [if_pos (by rfl)]
    refine wp_alloc_new28 71 rfl (some 5) rfl _ (zeroFl _) ?_
    intro g5 w6 hg5 hN hbw
    simp only [Act.put, List.setIfInBounds_toArray, List.set_cons_zero, List.set_cons_succ]
    have K5 := Lib.hid hN
    have HG5 := Lib.hid (Nat.le_trans hS.size hg5)
    clear hN
    refine hK.out _ _ (hS.trans hbw) (fun hS => ?_)
    clear hK K
    clear hbw hg5
    refine wpAnyH_ready (rs := [0, 7]) (by kernel_rfl) (by simp) ?_
    refine AllReadyH.cons rfl (fun K hK => ?_) ?_
    go_simp
    go_wp2_with (go_at_call 43; (with_reducible refine Calls.mono (FD.out _ (HWD.out.bw (HBW.out.trans hS))) ?_); rintro e1 wd ⟨⟨vf, rfl, hrf, _⟩, hbw⟩)
    have HF := Lib.hid hrf
    clear hrf
    replace K5 := Lib.hid (K5.out.bw hbw)
    refine hK.out _ _ (hS.trans hbw) (fun hS => ?_)
    clear hK K
    clear hbw
    refine wpAnyH_ready (rs := [3, 7]) (by kernel_rfl) (by simp) ?_
    refine AllReadyH.cons rfl (fun K hK => ?_) ?_
    go_simp
    go_wp2_with (go_at_call 52; (with_reducible refine Calls.mono (UN.out _ _ _ HF.out (HV.out.mono (HBW.out.trans hS))) ?_); rintro e1 wd ⟨⟨vu, rfl, hru, hfu, _⟩, hbw⟩)
    obtain ⟨a4, c4, rfl⟩ := hru.form
    have NE5 := Lib.hid (hfu.off K5.out.lt pl)
    replace K5 := Lib.hid (K5.out.bw hbw)
    have HD := Lib.hid hru
    clear hru hfu
    refine hK.out _ _ (hS.trans hbw) (fun hS => ?_)
    clear hK K
    clear hbw
    refine take1 (i := 4) (some 12) rfl rfl (by kernel_rfl) (by kernel_rfl) (by kernel_rfl) (fun _ _ _ _ h => h) rfl hS ?_
    apply Exists.intro
    apply And.intro
    · intro W9 hW9; have y2 := (KX.out.bw hW9).cell (j := 2) rfl; go_simp; try with_reducible rfl
    simp only [Act.put, List.setIfInBounds_toArray, List.set_cons_zero, List.set_cons_succ]
    refine take1 (i := 5) (some 17) rfl rfl (by kernel_rfl) (by kernel_rfl) (by kernel_rfl) (fun _ _ _ _ h => h) rfl hS ?_
    apply Exists.intro
    apply And.intro
    · intro W9 hW9; have y2 := (KX.out.bw hW9).cell (j := 2) rfl; go_simp; try with_reducible rfl
    simp only [Act.put, List.setIfInBounds_toArray, List.set_cons_zero, List.set_cons_succ]
    refine take1 (i := 6) (some 18) rfl rfl (by kernel_rfl) (by kernel_rfl) (by kernel_rfl) (fun _ _ _ _ h => h) rfl hS ?_
    apply Exists.intro
    apply And.intro
    · intro W9 hW9; have y2 := (KX.out.bw hW9).cell (j := 2) rfl; go_simp; try with_reducible rfl
    simp only [Act.put, List.setIfInBounds_toArray, List.set_cons_zero, List.set_cons_succ]
    refine wpAnyH_ready (rs := [7]) (by kernel_rfl) (by simp) ?_
    refine AllReadyH.cons rfl (fun K hK => ?_) ?_
    rw [if_pos (by rfl)]
    refine wp_alloc_slice 22 rfl (some 4) rfl (zeroSI _) ?_
    intro g4 w5 hg5 hN hbw
    simp only [Act.put, List.setIfInBounds_toArray, List.set_cons_zero, List.set_cons_succ]
    have K4 := Lib.hid hN
    have HG4 := Lib.hid (Nat.le_trans hS.size hg5)
    have NE4 := Lib.hid (HD.out.off hg5)
    replace K5 := Lib.hid (K5.out.bw hbw)
    replace HD := Lib.hid (HD.out.mono hbw)
    clear hN
    refine hK.out _ _ (hS.trans hbw) (fun hS => ?_)
    clear hK K
    clear hbw hg5
    skip
    refine wpAnyH_ready (rs := [9]) (by kernel_rfl) (by simp) ?_
    refine AllReadyH.cons rfl (fun K hK => ?_) ?_
    have lc := K4.out.cell (show (#[_] : Array Value)[0]? = _ from rfl)
    have lf := K4.out.frozen 0
    go_simp
    clear lc lf
    replace HD := Lib.hid (HD.out.setOff NE4.out 0 (.slice a4 pl.length c4))
    replace K5 := Lib.hid (K5.out.set_other (show g5 ≠ g4 from fun e => by subst e; have h9 := K4.out.eq.symm.trans K5.out.eq; cases h9) 0 (.slice a4 pl.length c4))
    have hst := Bw.setCell hS (p := ⟨g4, 0, none⟩) HG4.out (.slice a4 pl.length c4)
    replace K4 := Lib.hid (K4.out.set 0 (.slice a4 pl.length c4))
    refine hK.out _ _ hst (fun hS => ?_)
    clear hK K
    clear hst
    refine wpAnyH_ready (rs := [10]) (by kernel_rfl) (by simp) ?_
    refine AllReadyH.cons rfl (fun K hK => ?_) ?_
    rw [if_pos (by rfl)]
    refine wp_store_row0 71 _ _ rfl rfl g5 #[.int .i64 px, .int .i64 py] rfl rfl 71 #[.int .i64 0, .int .i64 0] K5.out (by kernel_rfl) (by simp) (by simp [Value.oneCell']) ?_
    replace HD := Lib.hid (HD.out.rowOff NE5.out #[.int .i64 px, .int .i64 py])
    replace K4 := Lib.hid (K4.out.row_other (show g4 ≠ g5 from fun e => by subst e; have h9 := K4.out.eq.symm.trans K5.out.eq; cases h9) #[.int .i64 px, .int .i64 py])
    replace K5 := Lib.hid (K5.out.row #[.int .i64 px, .int .i64 py])
    have hst := Bw.setRow hS HG5.out #[.int .i64 px, .int .i64 py]
    refine hK.out _ _ hst (fun hS => ?_)
    clear hK K
    clear hst
    refine wpAnyH_done (by kernel_rfl) ?_ _
    rotate_left
    exact AllReadyH.nil
    exact AllReadyH.nil
    exact AllReadyH.nil
    refine AllReadyH.cons rfl (fun K hK => ?_) ?_
    rw [if_pos (by rfl)]
    refine wp_alloc_slice 22 rfl (some 4) rfl (zeroSI _) ?_
    intro g4 w5 hg5 hN hbw
    simp only [Act.put, List.setIfInBounds_toArray, List.set_cons_zero, List.set_cons_succ]
    have K4 := Lib.hid hN
    have HG4 := Lib.hid (Nat.le_trans hS.size hg5)
    replace K5 := Lib.hid (K5.out.bw hbw)
    replace HF := Lib.hid (HF.out.mono hbw)
    clear hN
    refine hK.out _ _ (hS.trans hbw) (fun hS => ?_)
    clear hK K
    clear hbw hg5
    skip
    refine wpAnyH_ready (rs := [3]) (by kernel_rfl) (by simp) ?_
    refine AllReadyH.cons rfl (fun K hK => ?_) ?_
    go_simp
    go_wp2_with (go_at_call 52; (with_reducible refine Calls.mono (UN.out _ _ _ HF.out (HV.out.mono (HBW.out.trans hS))) ?_); rintro e1 wd ⟨⟨vu, rfl, hru, hfu, _⟩, hbw⟩)
    obtain ⟨a4, c4, rfl⟩ := hru.form
    have NE4 := Lib.hid (hfu.off K4.out.lt pl)
    replace K4 := Lib.hid (K4.out.bw hbw)
    have NE5 := Lib.hid (hfu.off K5.out.lt pl)
    replace K5 := Lib.hid (K5.out.bw hbw)
    have HD := Lib.hid hru
    clear hru hfu
    refine hK.out _ _ (hS.trans hbw) (fun hS => ?_)
    clear hK K
    clear hbw
    refine take1 (i := 4) (some 12) rfl rfl (by kernel_rfl) (by kernel_rfl) (by kernel_rfl) (fun _ _ _ _ h => h) rfl hS ?_
    apply Exists.intro
    apply And.intro
    · intro W9 hW9; have y2 := (KX.out.bw hW9).cell (j := 2) rfl; go_simp; try with_reducible rfl
    simp only [Act.put, List.setIfInBounds_toArray, List.set_cons_zero, List.set_cons_succ]
    refine take1 (i := 5) (some 17) rfl rfl (by kernel_rfl) (by kernel_rfl) (by kernel_rfl) (fun _ _ _ _ h => h) rfl hS ?_
    apply Exists.intro
    apply And.intro
    · intro W9 hW9; have y2 := (KX.out.bw hW9).cell (j := 2) rfl; go_simp; try with_reducible rfl
    simp only [Act.put, List.setIfInBounds_toArray, List.set_cons_zero, List.set_cons_succ]
    refine take1 (i := 6) (some 18) rfl rfl (by kernel_rfl) (by kernel_rfl) (by kernel_rfl) (fun _ _ _ _ h => h) rfl hS ?_
    apply Exists.intro
    apply And.intro
    · intro W9 hW9; have y2 := (KX.out.bw hW9).cell (j := 2) rfl; go_simp; try with_reducible rfl
    simp only [Act.put, List.setIfInBounds_toArray, List.set_cons_zero, List.set_cons_succ]
    refine wpAnyH_ready (rs := [9]) (by kernel_rfl) (by simp) ?_
    refine AllReadyH.cons rfl (fun K hK => ?_) ?_
    have lc := K4.out.cell (show (#[_] : Array Value)[0]? = _ from rfl)
    have lf := K4.out.frozen 0
    go_simp
    clear lc lf
    replace HD := Lib.hid (HD.out.setOff NE4.out 0 (.slice a4 pl.length c4))
    replace K5 := Lib.hid (K5.out.set_other (show g5 ≠ g4 from fun e => by subst e; have h9 := K4.out.eq.symm.trans K5.out.eq; cases h9) 0 (.slice a4 pl.length c4))
    have hst := Bw.setCell hS (p := ⟨g4, 0, none⟩) HG4.out (.slice a4 pl.length c4)
    replace K4 := Lib.hid (K4.out.set 0 (.slice a4 pl.length c4))
    refine hK.out _ _ hst (fun hS => ?_)
    clear hK K
    clear hst
    refine wpAnyH_ready (rs := [10]) (by kernel_rfl) (by simp) ?_
    refine AllReadyH.cons rfl (fun K hK => ?_) ?_
    rw [if_pos (by rfl)]
    refine wp_store_row0 71 _ _ rfl rfl g5 #[.int .i64 px, .int .i64 py] rfl rfl 71 #[.int .i64 0, .int .i64 0] K5.out (by kernel_rfl) (by simp) (by simp [Value.oneCell']) ?_
    replace HD := Lib.hid (HD.out.rowOff NE5.out #[.int .i64 px, .int .i64 py])
    replace K4 := Lib.hid (K4.out.row_other (show g4 ≠ g5 from fun e => by subst e; have h9 := K4.out.eq.symm.trans K5.out.eq; cases h9) #[.int .i64 px, .int .i64 py])
    replace K5 := Lib.hid (K5.out.row #[.int .i64 px, .int .i64 py])
    have hst := Bw.setRow hS HG5.out #[.int .i64 px, .int .i64 py]
    refine hK.out _ _ hst (fun hS => ?_)
    clear hK K
    clear hst
    refine wpAnyH_done (by kernel_rfl) ?_ _
    rotate_left
    exact AllReadyH.nil
    exact AllReadyH.nil
    exact AllReadyH.nil
    exact AllReadyH.nil
    refine AllReadyH.cons rfl (fun K hK => ?_) ?_
    rw [if_pos (by rfl)]
    refine wp_alloc_slice 22 rfl (some 4) rfl (zeroSI _) ?_
    intro g4 w5 hg5 hN hbw
    simp only [Act.put, List.setIfInBounds_toArray, List.set_cons_zero, List.set_cons_succ]
    have K4 := Lib.hid hN
    have HG4 := Lib.hid (Nat.le_trans hS.size hg5)
    replace K5 := Lib.hid (K5.out.bw hbw)
    clear hN
    refine hK.out _ _ (hS.trans hbw) (fun hS => ?_)
    clear hK K
    clear hbw hg5
    skip
    refine wpAnyH_ready (rs := [0]) (by kernel_rfl) (by simp) ?_
    refine AllReadyH.cons rfl (fun K hK => ?_) ?_
    go_simp
    go_wp2_with (go_at_call 43; (with_reducible refine Calls.mono (FD.out _ (HWD.out.bw (HBW.out.trans hS))) ?_); rintro e1 wd ⟨⟨vf, rfl, hrf, _⟩, hbw⟩)
    have HF := Lib.hid hrf
    clear hrf
    replace K4 := Lib.hid (K4.out.bw hbw)
    replace K5 := Lib.hid (K5.out.bw hbw)
    refine hK.out _ _ (hS.trans hbw) (fun hS => ?_)
    clear hK K
    clear hbw
    refine wpAnyH_ready (rs := [3]) (by kernel_rfl) (by simp) ?_
    refine AllReadyH.cons rfl (fun K hK => ?_) ?_
    go_simp
    go_wp2_with (go_at_call 52; (with_reducible refine Calls.mono (UN.out _ _ _ HF.out (HV.out.mono (HBW.out.trans hS))) ?_); rintro e1 wd ⟨⟨vu, rfl, hru, hfu, _⟩, hbw⟩)
    obtain ⟨a4, c4, rfl⟩ := hru.form
    have NE4 := Lib.hid (hfu.off K4.out.lt pl)
    replace K4 := Lib.hid (K4.out.bw hbw)
    have NE5 := Lib.hid (hfu.off K5.out.lt pl)
    replace K5 := Lib.hid (K5.out.bw hbw)
    have HD := Lib.hid hru
    clear hru hfu
    refine hK.out _ _ (hS.trans hbw) (fun hS => ?_)
    clear hK K
    clear hbw
    refine take1 (i := 4) (some 12) rfl rfl (by kernel_rfl) (by kernel_rfl) (by kernel_rfl) (fun _ _ _ _ h => h) rfl hS ?_
    apply Exists.intro
    apply And.intro
    · intro W9 hW9; have y2 := (KX.out.bw hW9).cell (j := 2) rfl; go_simp; try with_reducible rfl
    simp only [Act.put, List.setIfInBounds_toArray, List.set_cons_zero, List.set_cons_succ]
    refine take1 (i := 5) (some 17) rfl rfl (by kernel_rfl) (by kernel_rfl) (by kernel_rfl) (fun _ _ _ _ h => h) rfl hS ?_
    apply Exists.intro
    apply And.intro
    · intro W9 hW9; have y2 := (KX.out.bw hW9).cell (j := 2) rfl; go_simp; try with_reducible rfl
    simp only [Act.put, List.setIfInBounds_toArray, List.set_cons_zero, List.set_cons_succ]
    refine take1 (i := 6) (some 18) rfl rfl (by kernel_rfl) (by kernel_rfl) (by kernel_rfl) (fun _ _ _ _ h => h) rfl hS ?_
    apply Exists.intro
    apply And.intro
    · intro W9 hW9; have y2 := (KX.out.bw hW9).cell (j := 2) rfl; go_simp; try with_reducible rfl
    simp only [Act.put, List.setIfInBounds_toArray, List.set_cons_zero, List.set_cons_succ]
    refine wpAnyH_ready (rs := [9]) (by kernel_rfl) (by simp) ?_
    refine AllReadyH.cons rfl (fun K hK => ?_) ?_
    have lc := K4.out.cell (show (#[_] : Array Value)[0]? = _ from rfl)
    have lf := K4.out.frozen 0
    go_simp
    clear lc lf
    replace HD := Lib.hid (HD.out.setOff NE4.out 0 (.slice a4 pl.length c4))
    replace K5 := Lib.hid (K5.out.set_other (show g5 ≠ g4 from fun e => by subst e; have h9 := K4.out.eq.symm.trans K5.out.eq; cases h9) 0 (.slice a4 pl.length c4))
    have hst := Bw.setCell hS (p := ⟨g4, 0, none⟩) HG4.out (.slice a4 pl.length c4)
    replace K4 := Lib.hid (K4.out.set 0 (.slice a4 pl.length c4))
    refine hK.out _ _ hst (fun hS => ?_)
    clear hK K
    clear hst
    refine wpAnyH_ready (rs := [10]) (by kernel_rfl) (by simp) ?_
    refine AllReadyH.cons rfl (fun K hK => ?_) ?_
    rw [if_pos (by rfl)]
    refine wp_store_row0 71 _ _ rfl rfl g5 #[.int .i64 px, .int .i64 py] rfl rfl 71 #[.int .i64 0, .int .i64 0] K5.out (by kernel_rfl) (by simp) (by simp [Value.oneCell']) ?_
    replace HD := Lib.hid (HD.out.rowOff NE5.out #[.int .i64 px, .int .i64 py])
    replace K4 := Lib.hid (K4.out.row_other (show g4 ≠ g5 from fun e => by subst e; have h9 := K4.out.eq.symm.trans K5.out.eq; cases h9) #[.int .i64 px, .int .i64 py])
    replace K5 := Lib.hid (K5.out.row #[.int .i64 px, .int .i64 py])
    have hst := Bw.setRow hS HG5.out #[.int .i64 px, .int .i64 py]
    refine hK.out _ _ hst (fun hS => ?_)
    clear hK K
    clear hst
    refine wpAnyH_done (by kernel_rfl) ?_ _
    rotate_left
    exact AllReadyH.nil
    exact AllReadyH.nil
    exact AllReadyH.nil
    exact AllReadyH.nil
    exact AllReadyH.nil
    exact AllReadyH.nil
    all_goals
      go_wp2
      go_meet
      exact ⟨g4, g5, a4, c4, rfl, rfl, HG4.out, Lib.hid hS, K4, K5, HD⟩
  case rest =>
    obtain ⟨g4, g5, a4, c4, rfl, rfl, hg4, hb2, K4, NB, HD⟩ := hcut
    have HG4 := Lib.hid hg4
    replace HBW := Lib.hid (HBW.out.trans hb2.out)
    replace KX := Lib.hid (KX.out.bw hb2.out)
    have HGX := Lib.hid (show g + 1 < g4 by have := RX0.out.lt; omega)
    replace RX0 := Lib.hid (RX0.out.bw hb2.out)
    have c0 : wc.cell? ⟨g, 0, none⟩ = some (.int .i64 t) := KX.out.cell rfl
    have c1 : wc.cell? ⟨g, 1, none⟩ = some (.int .i64 k) := KX.out.cell rfl
    have c2 : wc.cell? ⟨g, 2, none⟩ = some (.slice a zs.length c) := KX.out.cell rfl
    have d0 : wc.cell? ⟨g5, 0, none⟩ = some (.int .i64 px) := NB.out.cell rfl
    clear NB hb2 FD UN hg4
    by_cases q1 : k = 4
    case neg =>
      have q1b : (k != 4) = true := by simpa using q1
      go_wp2_with ((with_reducible refine at_store 27 (.tmp 2) (.tmp 43) ?_); refine wpList_store_row rfl 27 (.tmp 2) (.tmp 43) rfl (g + 1) #[.int .i64 0, .int .i64 0, .int .i64 0, .int .i64 0, .int .i64 0, .int .i64 0, .int .i64 0, .int .i64 0, .int .i64 0, .int .i64 0, .int .i64 0, .int .i64 0, .int .i64 0] rfl rfl 27 _ RX0.out (by kernel_rfl) rfl (by simp [Value.oneCell', pgV]) ?_)
      have F9 := RX0.out.row #[.int .i64 0, .int .i64 0, .int .i64 0, .int .i64 0, .int .i64 0, .int .i64 0, .int .i64 0, .int .i64 0, .int .i64 0, .int .i64 0, .int .i64 0, .int .i64 0, .int .i64 0]
      have B9 := Bw.setRow HBW.out (show w.heap.size ≤ g + 1 by have := HG.out; omega) #[.int .i64 0, .int .i64 0, .int .i64 0, .int .i64 0, .int .i64 0, .int .i64 0, .int .i64 0, .int .i64 0, .int .i64 0, .int .i64 0, .int .i64 0, .int .i64 0, .int .i64 0]
      refine ⟨Marks.nil _ _, fun W' hS => ⟨.tuple #[.agg #[.int .i64 0, .int .i64 0, .int .i64 0, .int .i64 0, .int .i64 0, .int .i64 0, .int .i64 0, .int .i64 0, .int .i64 0, .int .i64 0, .int .i64 0, .int .i64 0, .int .i64 0], .int .i64 3], ?_, ?_, Bw.shut B9 hS⟩⟩
      · exact results_two_row (p := 2) (u := 3) rfl _ _ (g + 1) _ rfl (run_loadVar_row _ (g + 1) 27 27 #[.int .i64 0, .int .i64 0, .int .i64 0, .int .i64 0, .int .i64 0, .int .i64 0, .int .i64 0, .int .i64 0, .int .i64 0, .int .i64 0, .int .i64 0, .int .i64 0, .int .i64 0] (0, 0) _ (F9.shut hS) Tryd.underlying27 rfl (by kernel_rfl))
      · have h9 := HNO.out (by unfold RdOk27; omega)
        rw [h9.1, h9.2]
        rfl
    subst q1
    by_cases q2 : t < 0
    case pos =>
      go_wp2_with ((with_reducible refine at_store 27 (.tmp 2) (.tmp 43) ?_); refine wpList_store_row rfl 27 (.tmp 2) (.tmp 43) rfl (g + 1) #[.int .i64 0, .int .i64 0, .int .i64 0, .int .i64 0, .int .i64 0, .int .i64 0, .int .i64 0, .int .i64 0, .int .i64 0, .int .i64 0, .int .i64 0, .int .i64 0, .int .i64 0] rfl rfl 27 _ RX0.out (by kernel_rfl) rfl (by simp [Value.oneCell', pgV]) ?_)
      have F9 := RX0.out.row #[.int .i64 0, .int .i64 0, .int .i64 0, .int .i64 0, .int .i64 0, .int .i64 0, .int .i64 0, .int .i64 0, .int .i64 0, .int .i64 0, .int .i64 0, .int .i64 0, .int .i64 0]
      have B9 := Bw.setRow HBW.out (show w.heap.size ≤ g + 1 by have := HG.out; omega) #[.int .i64 0, .int .i64 0, .int .i64 0, .int .i64 0, .int .i64 0, .int .i64 0, .int .i64 0, .int .i64 0, .int .i64 0, .int .i64 0, .int .i64 0, .int .i64 0, .int .i64 0]
      refine ⟨Marks.nil _ _, fun W' hS => ⟨.tuple #[.agg #[.int .i64 0, .int .i64 0, .int .i64 0, .int .i64 0, .int .i64 0, .int .i64 0, .int .i64 0, .int .i64 0, .int .i64 0, .int .i64 0, .int .i64 0, .int .i64 0, .int .i64 0], .int .i64 3], ?_, ?_, Bw.shut B9 hS⟩⟩
      · exact results_two_row (p := 2) (u := 3) rfl _ _ (g + 1) _ rfl (run_loadVar_row _ (g + 1) 27 27 #[.int .i64 0, .int .i64 0, .int .i64 0, .int .i64 0, .int .i64 0, .int .i64 0, .int .i64 0, .int .i64 0, .int .i64 0, .int .i64 0, .int .i64 0, .int .i64 0, .int .i64 0] (0, 0) _ (F9.shut hS) Tryd.underlying27 rfl (by kernel_rfl))
      · have h9 := HNO.out (by unfold RdOk27; omega)
        rw [h9.1, h9.2]
        rfl
    by_cases q3 : 131072 ≤ t
    case pos =>
      go_wp2_with ((with_reducible refine at_store 27 (.tmp 2) (.tmp 43) ?_); refine wpList_store_row rfl 27 (.tmp 2) (.tmp 43) rfl (g + 1) #[.int .i64 0, .int .i64 0, .int .i64 0, .int .i64 0, .int .i64 0, .int .i64 0, .int .i64 0, .int .i64 0, .int .i64 0, .int .i64 0, .int .i64 0, .int .i64 0, .int .i64 0] rfl rfl 27 _ RX0.out (by kernel_rfl) rfl (by simp [Value.oneCell', pgV]) ?_)
      have F9 := RX0.out.row #[.int .i64 0, .int .i64 0, .int .i64 0, .int .i64 0, .int .i64 0, .int .i64 0, .int .i64 0, .int .i64 0, .int .i64 0, .int .i64 0, .int .i64 0, .int .i64 0, .int .i64 0]
      have B9 := Bw.setRow HBW.out (show w.heap.size ≤ g + 1 by have := HG.out; omega) #[.int .i64 0, .int .i64 0, .int .i64 0, .int .i64 0, .int .i64 0, .int .i64 0, .int .i64 0, .int .i64 0, .int .i64 0, .int .i64 0, .int .i64 0, .int .i64 0, .int .i64 0]
      refine ⟨Marks.nil _ _, fun W' hS => ⟨.tuple #[.agg #[.int .i64 0, .int .i64 0, .int .i64 0, .int .i64 0, .int .i64 0, .int .i64 0, .int .i64 0, .int .i64 0, .int .i64 0, .int .i64 0, .int .i64 0, .int .i64 0, .int .i64 0], .int .i64 3], ?_, ?_, Bw.shut B9 hS⟩⟩
      · exact results_two_row (p := 2) (u := 3) rfl _ _ (g + 1) _ rfl (run_loadVar_row _ (g + 1) 27 27 #[.int .i64 0, .int .i64 0, .int .i64 0, .int .i64 0, .int .i64 0, .int .i64 0, .int .i64 0, .int .i64 0, .int .i64 0, .int .i64 0, .int .i64 0, .int .i64 0, .int .i64 0] (0, 0) _ (F9.shut hS) Tryd.underlying27 rfl (by kernel_rfl))
      · have h9 := HNO.out (by unfold RdOk27; omega)
        rw [h9.1, h9.2]
        rfl
    by_cases q4 : zs.length = 206
    case neg =>
      have q4b : ((zs.length : Int) != 206) = true := by simp; omega
      have HQ4 := Lib.hid q4
      clear q4
      go_wp2_with ((with_reducible refine at_store 27 (.tmp 2) (.tmp 43) ?_); refine wpList_store_row rfl 27 (.tmp 2) (.tmp 43) rfl (g + 1) #[.int .i64 0, .int .i64 0, .int .i64 0, .int .i64 0, .int .i64 0, .int .i64 0, .int .i64 0, .int .i64 0, .int .i64 0, .int .i64 0, .int .i64 0, .int .i64 0, .int .i64 0] rfl rfl 27 _ RX0.out (by kernel_rfl) rfl (by simp [Value.oneCell', pgV]) ?_)
      have F9 := RX0.out.row #[.int .i64 0, .int .i64 0, .int .i64 0, .int .i64 0, .int .i64 0, .int .i64 0, .int .i64 0, .int .i64 0, .int .i64 0, .int .i64 0, .int .i64 0, .int .i64 0, .int .i64 0]
      have B9 := Bw.setRow HBW.out (show w.heap.size ≤ g + 1 by have := HG.out; omega) #[.int .i64 0, .int .i64 0, .int .i64 0, .int .i64 0, .int .i64 0, .int .i64 0, .int .i64 0, .int .i64 0, .int .i64 0, .int .i64 0, .int .i64 0, .int .i64 0, .int .i64 0]
      refine ⟨Marks.nil _ _, fun W' hS => ⟨.tuple #[.agg #[.int .i64 0, .int .i64 0, .int .i64 0, .int .i64 0, .int .i64 0, .int .i64 0, .int .i64 0, .int .i64 0, .int .i64 0, .int .i64 0, .int .i64 0, .int .i64 0, .int .i64 0], .int .i64 3], ?_, ?_, Bw.shut B9 hS⟩⟩
      · exact results_two_row (p := 2) (u := 3) rfl _ _ (g + 1) _ rfl (run_loadVar_row _ (g + 1) 27 27 #[.int .i64 0, .int .i64 0, .int .i64 0, .int .i64 0, .int .i64 0, .int .i64 0, .int .i64 0, .int .i64 0, .int .i64 0, .int .i64 0, .int .i64 0, .int .i64 0, .int .i64 0] (0, 0) _ (F9.shut hS) Tryd.underlying27 rfl (by kernel_rfl))
      · have h9 := HNO.out (by have := HQ4.out; unfold RdOk27; omega)
        rw [h9.1, h9.2]
        rfl
    by_cases q5 : px = 0
    case neg =>
      have q5b : (px != 0) = true := by simpa using q5
      rw [q4] at c2
      have HQ5 := Lib.hid q5
      clear q5
      go_wp2_with ((with_reducible refine at_store 27 (.tmp 2) (.tmp 43) ?_); refine wpList_store_row rfl 27 (.tmp 2) (.tmp 43) rfl (g + 1) #[.int .i64 0, .int .i64 0, .int .i64 0, .int .i64 0, .int .i64 0, .int .i64 0, .int .i64 0, .int .i64 0, .int .i64 0, .int .i64 0, .int .i64 0, .int .i64 0, .int .i64 0] rfl rfl 27 _ RX0.out (by kernel_rfl) rfl (by simp [Value.oneCell', pgV]) ?_)
      have F9 := RX0.out.row #[.int .i64 0, .int .i64 0, .int .i64 0, .int .i64 0, .int .i64 0, .int .i64 0, .int .i64 0, .int .i64 0, .int .i64 0, .int .i64 0, .int .i64 0, .int .i64 0, .int .i64 0]
      have B9 := Bw.setRow HBW.out (show w.heap.size ≤ g + 1 by have := HG.out; omega) #[.int .i64 0, .int .i64 0, .int .i64 0, .int .i64 0, .int .i64 0, .int .i64 0, .int .i64 0, .int .i64 0, .int .i64 0, .int .i64 0, .int .i64 0, .int .i64 0, .int .i64 0]
      refine ⟨Marks.nil _ _, fun W' hS => ⟨.tuple #[.agg #[.int .i64 0, .int .i64 0, .int .i64 0, .int .i64 0, .int .i64 0, .int .i64 0, .int .i64 0, .int .i64 0, .int .i64 0, .int .i64 0, .int .i64 0, .int .i64 0, .int .i64 0], .int .i64 3], ?_, ?_, Bw.shut B9 hS⟩⟩
      · exact results_two_row (p := 2) (u := 3) rfl _ _ (g + 1) _ rfl (run_loadVar_row _ (g + 1) 27 27 #[.int .i64 0, .int .i64 0, .int .i64 0, .int .i64 0, .int .i64 0, .int .i64 0, .int .i64 0, .int .i64 0, .int .i64 0, .int .i64 0, .int .i64 0, .int .i64 0, .int .i64 0] (0, 0) _ (F9.shut hS) Tryd.underlying27 rfl (by kernel_rfl))
      · have h9 := HNO.out (by have := HQ5.out; unfold RdOk27; omega)
        rw [h9.1, h9.2]
        rfl
    subst q5
    rw [q4] at c2
    have HQ4 := Lib.hid q4
    have hpl : pl.length = 13 := (HLN.out rfl).trans rfl
    rw [hpl] at K4 HD
    have HPL := Lib.hid hpl
    clear q4 hpl HLN
    have NM := Lib.hid (fun p W => alNumbers_any p W)
    go_wp2_with (go_at_call 41; refine Calls.mono (NM.out _ _) ?_; rintro e2 w2 ⟨rfl, rfl⟩)
    obtain ⟨g6, hg6⟩ : ∃ g6, wc.heap.size = g6 := ⟨_, rfl⟩
    obtain ⟨W2, hW2⟩ : ∃ W2, (wc.alloc (.cells #[.int .i64 0, .int .i64 0, .int .i64 0, .int .i64 0, .int .i64 0, .int .i64 0, .int .i64 0, .int .i64 0, .int .i64 0, .int .i64 0, .int .i64 0, .int .i64 0, .int .i64 0] 27)).alloc (.cells #[.pointer (some ⟨wc.heap.size, 0, none⟩)] 68) = W2 := ⟨_, rfl⟩
    have hb2 : Bw wc W2 := by rw [← hW2]; exact (by repeat (first | exact Bw.refl _ | assumption | refine Bw.alloc ?_ _ | refine Bw.drew ?_ | refine Bw.trans ?_ (by assumption) | refine Bw.setCell ?_ (by simp; try omega) _))
    have K6 := Lib.hid (show Blk W2 g6 27 #[.int .i64 0, .int .i64 0, .int .i64 0, .int .i64 0, .int .i64 0, .int .i64 0, .int .i64 0, .int .i64 0, .int .i64 0, .int .i64 0, .int .i64 0, .int .i64 0, .int .i64 0] from by rw [← hW2, ← hg6]; exact (Blk.new _ _ _).alloc _)
    have KB := Lib.hid (show Blk W2 (g6 + 1) 68 #[.pointer (some ⟨g6, 0, none⟩)] from by rw [← hW2, ← hg6]; have h9 := Blk.new (wc.alloc (.cells #[.int .i64 0, .int .i64 0, .int .i64 0, .int .i64 0, .int .i64 0, .int .i64 0, .int .i64 0, .int .i64 0, .int .i64 0, .int .i64 0, .int .i64 0, .int .i64 0, .int .i64 0] 27)) 68 #[.pointer (some ⟨wc.heap.size, 0, none⟩)]; simpa using h9)
    have HOD := Lib.hid (HD.out.off (show wc.heap.size ≤ g6 by omega))
    have HOZ := Lib.hid ((HV.out.mono HBW.out).off (show wc.heap.size ≤ g6 by omega))
    have HG6 := Lib.hid (show g4 < g6 by have := K4.out.lt; omega)
    replace HV := Lib.hid (HV.out.mono (HBW.out.trans hb2))
    replace HBW := Lib.hid (HBW.out.trans hb2)
    replace KX := Lib.hid (KX.out.bw hb2)
    replace RX0 := Lib.hid (RX0.out.bw hb2)
    replace K4 := Lib.hid (K4.out.bw hb2)
    replace HD := Lib.hid (HD.out.mono hb2)
    rw [hW2, hg6]
    clear hb2 hW2 hg6 c0 c1 c2 d0
    have HS0 := Lib.hid (show w.heap.size ≤ g6 by have := HG.out; have := HG6.out; have := HGX.out; omega)
    refine range_numbers g6 (g6 + 1) KB.out.lt (KB.out.cell rfl) K6.out.lt rfl rfl
      (fun pre W => Blk W g6 27 (pgV (fun j => if j ∈ pre then x j else 0)) ∧ Blk W g4 22 #[.slice a4 13 c4] ∧ RdI W (.slice a4 13 c4) pl ∧ Blk W g 40 #[.int .i64 t, .int .i64 4, .slice a zs.length c] ∧ Blk W (g + 1) 27 #[.int .i64 0, .int .i64 0, .int .i64 0, .int .i64 0, .int .i64 0, .int .i64 0, .int .i64 0, .int .i64 0, .int .i64 0, .int .i64 0, .int .i64 0, .int .i64 0, .int .i64 0] ∧ RdI W (.slice a zs.length c) zs ∧ Bw w W)
      (fun c _ W => False)
      (fun s X Y row hs hg hr => ⟨blkK hs.1 hg hr, blkK hs.2.1 hg hr, rdIK hs.2.2.1 hg hr, blkK hs.2.2.2.1 hg hr, blkK hs.2.2.2.2.1 hg hr, rdIK hs.2.2.2.2.2.1 hg hr, bwK hs.2.2.2.2.2.2 HBW.out.size hg hr⟩)
      (fun c s X Y row hs hg hr => hs)
      ⟨by have h9 := K6.out; exact h9, K4.out, HD.out, KX.out, RX0.out, HV.out, HBW.out⟩
      (fun y => [(45, .int .i64 y), (46, .pointer (some ⟨g6, y, none⟩)), (7, .int .i64 y), (8, .pointer (some ⟨g6, y, none⟩))]) ?assign ?body ?done ?stop
    case assign =>
      intro l y W K hy hK
      gi_wp2
      exact hK
    case body =>
      rintro l pre y W hy hlen ⟨h6, h4, hd, hx0, hr0, hz, hb⟩
      simp only [List.foldl, List.setIfInBounds_toArray, List.set_cons_zero, List.set_cons_succ]
      obtain ⟨b4, o4, c5, he, hlt4, hcell⟩ := hd.at (by have := HPL.out; omega)
      rw [HPL.out] at he hcell
      injection he with he1 he2 he3
      subst he1 he3
      clear he2
      have kb := h4.cell (show (#[_] : Array Value)[0]? = _ from rfl)
      have kv := hcell y hy
      rw [HX.out y] at kv
      have kd := h6.cell (pgV_at _ y hy)
      have kf := h6.frozen y
      have hyz : (y : Int) < 13 := by omega
      have hy0 : (0 : Int) ≤ y := by omega
      have HS := Lib.hid (And.intro h6 (And.intro h4 (And.intro hd (And.intro hx0 (And.intro hr0 (And.intro hz hb))))))
      clear h6 h4 hd hx0 hr0 hz hb hcell
      obtain ⟨xy, hxy⟩ : ∃ xy, xy = x y := ⟨_, rfl⟩
      rw [← hxy] at kv
      have HXY := Lib.hid hxy
      clear hxy
      gi_wp2
      obtain ⟨h6, h4, hd, hx0, hr0, hz, hb⟩ := HS.out
      refine ⟨(KeepsOthers.setCell _ _ _).from _, kpP_set h6 (by decide) y _, ?_, h4.set_other (by have := HG6.out; omega) y _, hd.setOff HOD.out y _, hx0.set_other (by have := HG6.out; have := HGX.out; omega) y _, hr0.set_other (by have := HG6.out; have := HGX.out; omega) y _, hz.setOff HOZ.out y _, Bw.setCell hb HS0.out _⟩
      have h9 := h6.set y (.int .i64 xy)
      rw [pgV_set _ y hy, pgV_congr2 (y := fun j => if j ∈ pre ++ [y] then x j else 0) (fun j hj => by
        by_cases e : j = y
        · subst e; simp [HXY.out]
        · simp [e])] at h9
      exact h9
    case done =>
      rintro D W hD ⟨h6, h4, hd, hx0, hr0, hz, hb⟩ hK
      rw [pgV_congr2 (y := x) (fun j hj => if_pos (List.mem_range.2 hj))] at h6
      have HKD := Lib.hid hK
      have K6 := Lib.hid h6
      have KX := Lib.hid hx0
      have RX0 := Lib.hid hr0
      have HV := Lib.hid hz
      have HBW := Lib.hid hb
      replace HWD := Lib.hid (HWD.out.bw hb)
      have HDL := Lib.hid (show g + 1 < D by have := KB.out.lt; have := HG6.out; have := HGX.out; omega)
      clear h6 h4 hd hx0 hr0 hz hb hK hD HD K4 HOD HOZ
      have HXI := Lib.hid (fun (i : Nat) (hi : i < 13) W => idx13 i hi W)
      have HPB := Lib.hid (show ∀ i, i < 13 → 1 ≤ (PGL.getD i (0, false, 0)).1 ∧ (PGL.getD i (0, false, 0)).1 ≤ 40 from by decide)
      have R0 := Lib.hid (show W.rangeAt 0 0 wdV.toList from HWD.out.2)
      have HA1 := Lib.hid (show ∀ k, atS PGL (k + 1) = atS PGL k + (PGL.getD k (0, false, 0)).1 from fun k => rfl)
      have HA0 := Lib.hid (show atS PGL 0 = 0 from rfl)
      have HA13 := Lib.hid atPGL
      have HAB := Lib.hid (show ∀ k, k ≤ 13 → 0 ≤ atS PGL k ∧ atS PGL k ≤ 40 * k from fun k hk => atS_bd pgl_ok k hk)
      generalize atS PGL = AT at *
      obtain ⟨WV, hWV⟩ : ∃ WV, WV = wdV := ⟨_, rfl⟩
      have HSZ : Hid ((Tryd.prog.info? 56).map (·.size) = some wdV.toList.length) := Lib.hid (by kernel_rfl)
      rw [← hWV] at HXI R0 HSZ
      clear hWV
      go_wp2_with ((with_reducible refine at_load 56 (.global 0) ?_); refine wpList_load_mid rfl 56 (.global 0) rfl 0 0 rfl WV.toList _ R0.out Tryd.underlying56 rfl HSZ.out ?_)
      go_loopg [9, 54] 13 (fun gg s9 s54 wr => ∃ k : Nat, k ≤ 13 ∧ 13 - k ≤ gg ∧ s54 = .int .i64 k ∧ s9 = .int .i64 (AT k) ∧ wr = W)
      case atStart => exact ⟨0, by omega, by omega, rfl, by rw [HA0.out], rfl⟩
      case round =>
        obtain ⟨k, hk, hgg, rfl, rfl, hwr⟩ := hrel
        subst hwr
        by_cases hlt : k < 13
        · have hkz : (k : Int) < 13 := by omega
          have hk0 : (0 : Int) ≤ k := by omega
          have hix := HXI.out k hlt
          have hpb := HPB.out k hlt
          have hab := HAB.out k hk
          have HA := Lib.hid (HA1.out k)
          generalize AT k = ak at *
          generalize (PGL.getD k (0, false, 0)).1 = tn at *
          go_wp2
          go_roundg (13 - (k + 1))
          case measure => omega
          case rel => exact ⟨k + 1, by omega, by omega, by go_num, by rw [HA.out], rfl⟩
        · obtain rfl : k = 13 := by omega
          have hkz : ¬ ((13 : Nat) : Int) < 13 := by omega
          rw [HA13.out]
          clear HXI HPB R0 HA1 HA0 HA13 HAB HSZ
          have PK := Lib.hid (fun W h => PgCheck_any x W h)
          have HSG : Hid ((Tryd.prog.info? 27).map (·.size) = some (pgV x).size) := Lib.hid (by kernel_rfl)
          obtain ⟨db, dof, dc, he, hdb, _⟩ := HV.out.at (by have := HQ4.out; omega)
          injection he with he1 he2 he3
          subst he1 he3
          clear he2 hdb
          rw [HQ4.out] at HV KX hc
          have c2 := KX.out.cell (show (#[.int .i64 t, .int .i64 4, .slice (some ⟨db, dof, none⟩) 206 c] : Array Value)[2]? = _ from rfl)
          have HPX : Hid ((pgV x).all (·.oneCell') = true) := Lib.hid (by simp [Value.oneCell', pgV])
          by_cases q6 : errPg x = 0
          case neg =>
            have q6b : (errPg x != 0) = true := by simpa using q6
            have HQ := Lib.hid q6
            clear q6
            generalize errPg x = er at PK q6b
            generalize hA : pgV x = A at *
            go_wp2_with (first | ((with_reducible refine at_load 27 (.tmp 6) ?_); refine wpList_load_row rfl 27 _ rfl g6 rfl 27 A (0, 0) _ K6.out Tryd.underlying27 rfl HSG.out ?_) | (go_at_call 22; (with_reducible refine Calls.mono (PK.out _ HWD.out) ?_); rintro e1 w3 ⟨rfl, hb1⟩; replace K6 := Lib.hid (K6.out.bw hb1); replace KX := Lib.hid (KX.out.bw hb1); replace RX0 := Lib.hid (RX0.out.bw hb1); replace HV := Lib.hid (HV.out.mono hb1); replace HBW := Lib.hid (HBW.out.trans hb1); replace HWD := Lib.hid (HWD.out.bw hb1); replace HKD := Lib.hid ((hb1.out.block D (Array.getElem?_eq_some_iff.1 HKD.out).1).trans HKD.out); clear c2; have c2 := KX.out.cell (show (#[.int .i64 t, .int .i64 4, .slice (some ⟨db, dof, none⟩) 206 c] : Array Value)[2]? = _ from rfl); clear hb1) | ((with_reducible refine at_store 27 (.tmp 2) (.tmp 71) ?_); refine wpList_store_row rfl 27 (.tmp 2) (.tmp 71) rfl (g + 1) #[.int .i64 0, .int .i64 0, .int .i64 0, .int .i64 0, .int .i64 0, .int .i64 0, .int .i64 0, .int .i64 0, .int .i64 0, .int .i64 0, .int .i64 0, .int .i64 0, .int .i64 0] rfl rfl 27 _ RX0.out (by kernel_rfl) rfl (by simp [Value.oneCell', pgV]) ?_))
            have F9 := RX0.out.row #[.int .i64 0, .int .i64 0, .int .i64 0, .int .i64 0, .int .i64 0, .int .i64 0, .int .i64 0, .int .i64 0, .int .i64 0, .int .i64 0, .int .i64 0, .int .i64 0, .int .i64 0]
            have B9 := Bw.setRow HBW.out (show w.heap.size ≤ g + 1 by have := HG.out; omega) #[.int .i64 0, .int .i64 0, .int .i64 0, .int .i64 0, .int .i64 0, .int .i64 0, .int .i64 0, .int .i64 0, .int .i64 0, .int .i64 0, .int .i64 0, .int .i64 0, .int .i64 0]
            refine ⟨Marks.one (by have := HDL.out; have := HG.out; omega) ((setRow_other _ _ _ _ (by have := HDL.out; omega)).trans HKD.out), fun W' hS => ⟨.tuple #[.agg #[.int .i64 0, .int .i64 0, .int .i64 0, .int .i64 0, .int .i64 0, .int .i64 0, .int .i64 0, .int .i64 0, .int .i64 0, .int .i64 0, .int .i64 0, .int .i64 0, .int .i64 0], .int .i64 3], ?_, ?_, Bw.shut B9 hS⟩⟩
            · exact results_two_row (p := 2) (u := 3) rfl _ _ (g + 1) _ rfl (run_loadVar_row _ (g + 1) 27 27 #[.int .i64 0, .int .i64 0, .int .i64 0, .int .i64 0, .int .i64 0, .int .i64 0, .int .i64 0, .int .i64 0, .int .i64 0, .int .i64 0, .int .i64 0, .int .i64 0, .int .i64 0] (0, 0) _ (F9.shut hS) Tryd.underlying27 rfl (by kernel_rfl))
            · have h9 := HNO.out (by unfold RdOk27; intro h; exact HQ.out h.2.2.2.2.2.1)
              rw [h9.1, h9.2]
              rfl
          have HQ := Lib.hid q6
          rw [q6] at PK
          clear q6
          have TL := Lib.hid (fun W v (h : RdI W v (zs.drop 200)) => tail_any (zs.drop 200) v W h)
          have HPV := Lib.hid (rfl : pgV x = pgV x)
          cases hany : ((zs.drop 200).any fun d => d != 0) with
          | true =>
            have HA := Lib.hid hany
            rw [hany] at TL
            clear hany
            generalize hA : pgV x = A at *
            go_wp2_with (first | ((with_reducible refine at_load 27 (.tmp 6) ?_); refine wpList_load_row rfl 27 _ rfl g6 rfl 27 A (0, 0) _ K6.out Tryd.underlying27 rfl HSG.out ?_) | (go_at_call 22; (with_reducible refine Calls.mono (PK.out _ HWD.out) ?_); rintro e1 w3 ⟨rfl, hb1⟩; replace K6 := Lib.hid (K6.out.bw hb1); replace KX := Lib.hid (KX.out.bw hb1); replace RX0 := Lib.hid (RX0.out.bw hb1); replace HV := Lib.hid (HV.out.mono hb1); replace HBW := Lib.hid (HBW.out.trans hb1); replace HWD := Lib.hid (HWD.out.bw hb1); replace HKD := Lib.hid ((hb1.out.block D (Array.getElem?_eq_some_iff.1 HKD.out).1).trans HKD.out); clear c2; have c2 := KX.out.cell (show (#[.int .i64 t, .int .i64 4, .slice (some ⟨db, dof, none⟩) 206 c] : Array Value)[2]? = _ from rfl); clear hb1) | (go_at_call 53; (with_reducible refine Calls.mono (TL.out _ _ ?_) ?_); (focus exact rdI_drop HV.out 200 (by omega)); rintro e1 w4 ⟨rfl, hb1⟩; replace K6 := Lib.hid (K6.out.bw hb1); replace KX := Lib.hid (KX.out.bw hb1); replace RX0 := Lib.hid (RX0.out.bw hb1); replace HV := Lib.hid (HV.out.mono hb1); replace HBW := Lib.hid (HBW.out.trans hb1); replace HWD := Lib.hid (HWD.out.bw hb1); replace HKD := Lib.hid ((hb1.out.block D (Array.getElem?_eq_some_iff.1 HKD.out).1).trans HKD.out); clear c2; have c2 := KX.out.cell (show (#[.int .i64 t, .int .i64 4, .slice (some ⟨db, dof, none⟩) 206 c] : Array Value)[2]? = _ from rfl); clear hb1) | ((with_reducible refine at_store 27 (.tmp 2) (.tmp 71) ?_); refine wpList_store_row rfl 27 (.tmp 2) (.tmp 71) rfl (g + 1) #[.int .i64 0, .int .i64 0, .int .i64 0, .int .i64 0, .int .i64 0, .int .i64 0, .int .i64 0, .int .i64 0, .int .i64 0, .int .i64 0, .int .i64 0, .int .i64 0, .int .i64 0] rfl rfl 27 _ RX0.out (by kernel_rfl) rfl (by simp [Value.oneCell', pgV]) ?_))
            have F9 := RX0.out.row #[.int .i64 0, .int .i64 0, .int .i64 0, .int .i64 0, .int .i64 0, .int .i64 0, .int .i64 0, .int .i64 0, .int .i64 0, .int .i64 0, .int .i64 0, .int .i64 0, .int .i64 0]
            have B9 := Bw.setRow HBW.out (show w.heap.size ≤ g + 1 by have := HG.out; omega) #[.int .i64 0, .int .i64 0, .int .i64 0, .int .i64 0, .int .i64 0, .int .i64 0, .int .i64 0, .int .i64 0, .int .i64 0, .int .i64 0, .int .i64 0, .int .i64 0, .int .i64 0]
            refine ⟨Marks.one (by have := HDL.out; have := HG.out; omega) ((setRow_other _ _ _ _ (by have := HDL.out; omega)).trans HKD.out), fun W' hS => ⟨.tuple #[.agg #[.int .i64 0, .int .i64 0, .int .i64 0, .int .i64 0, .int .i64 0, .int .i64 0, .int .i64 0, .int .i64 0, .int .i64 0, .int .i64 0, .int .i64 0, .int .i64 0, .int .i64 0], .int .i64 3], ?_, ?_, Bw.shut B9 hS⟩⟩
            · exact results_two_row (p := 2) (u := 3) rfl _ _ (g + 1) _ rfl (run_loadVar_row _ (g + 1) 27 27 #[.int .i64 0, .int .i64 0, .int .i64 0, .int .i64 0, .int .i64 0, .int .i64 0, .int .i64 0, .int .i64 0, .int .i64 0, .int .i64 0, .int .i64 0, .int .i64 0, .int .i64 0] (0, 0) _ (F9.shut hS) Tryd.underlying27 rfl (by kernel_rfl))
            · have h9 := HNO.out (by unfold RdOk27; intro h; have h1 := HA.out; rw [h.2.2.2.2.2.2] at h1; cases h1)
              rw [h9.1, h9.2]
              rfl
          | false =>
            have HA := Lib.hid hany
            rw [hany] at TL
            clear hany
            obtain ⟨A, hA⟩ : ∃ A, A = pgV x := ⟨_, rfl⟩
            rw [← hA] at K6 PK HSG HPX
            have HN13 : Hid ((#[.int .i64 0, .int .i64 0, .int .i64 0, .int .i64 0, .int .i64 0, .int .i64 0, .int .i64 0, .int .i64 0, .int .i64 0, .int .i64 0, .int .i64 0, .int .i64 0, .int .i64 0] : Array Value).size = A.size) := Lib.hid (by rw [hA]; rfl)
            have HAA := Lib.hid hA
            clear hA
            go_wp2_with (first | ((with_reducible refine at_load 27 (.tmp 6) ?_); refine wpList_load_row rfl 27 _ rfl g6 rfl 27 A (0, 0) _ K6.out Tryd.underlying27 rfl HSG.out ?_) | (go_at_call 22; (with_reducible refine Calls.mono (PK.out _ HWD.out) ?_); rintro e1 w3 ⟨rfl, hb1⟩; replace K6 := Lib.hid (K6.out.bw hb1); replace KX := Lib.hid (KX.out.bw hb1); replace RX0 := Lib.hid (RX0.out.bw hb1); replace HV := Lib.hid (HV.out.mono hb1); replace HBW := Lib.hid (HBW.out.trans hb1); replace HWD := Lib.hid (HWD.out.bw hb1); replace HKD := Lib.hid ((hb1.out.block D (Array.getElem?_eq_some_iff.1 HKD.out).1).trans HKD.out); clear c2; have c2 := KX.out.cell (show (#[.int .i64 t, .int .i64 4, .slice (some ⟨db, dof, none⟩) 206 c] : Array Value)[2]? = _ from rfl); clear hb1) | (go_at_call 53; (with_reducible refine Calls.mono (TL.out _ _ ?_) ?_); (focus exact rdI_drop HV.out 200 (by omega)); rintro e1 w4 ⟨rfl, hb1⟩; replace K6 := Lib.hid (K6.out.bw hb1); replace KX := Lib.hid (KX.out.bw hb1); replace RX0 := Lib.hid (RX0.out.bw hb1); replace HV := Lib.hid (HV.out.mono hb1); replace HBW := Lib.hid (HBW.out.trans hb1); replace HWD := Lib.hid (HWD.out.bw hb1); replace HKD := Lib.hid ((hb1.out.block D (Array.getElem?_eq_some_iff.1 HKD.out).1).trans HKD.out); clear c2; have c2 := KX.out.cell (show (#[.int .i64 t, .int .i64 4, .slice (some ⟨db, dof, none⟩) 206 c] : Array Value)[2]? = _ from rfl); clear hb1) | ((with_reducible refine at_store 27 (.tmp 2) (.tmp 72) ?_); refine wpList_store_row rfl 27 (.tmp 2) (.tmp 72) rfl (g + 1) A rfl rfl 27 _ RX0.out HSG.out HN13.out HPX.out ?_))
            have F9 := RX0.out.row A
            have B9 := Bw.setRow HBW.out (show w.heap.size ≤ g + 1 by have := HG.out; omega) A
            refine ⟨Marks.one (by have := HDL.out; have := HG.out; omega) ((setRow_other _ _ _ _ (by have := HDL.out; omega)).trans HKD.out), fun W' hS => ⟨.tuple #[.agg A, .int .i64 0], ?_, ?_, Bw.shut B9 hS⟩⟩
            · exact results_two_row (p := 2) (u := 3) rfl _ _ (g + 1) _ rfl (run_loadVar_row _ (g + 1) 27 27 A (0, 0) _ (F9.shut hS) Tryd.underlying27 rfl HSG.out)
            · have h9 := HYE.out (by unfold RdOk27; exact ⟨rfl, by omega, by omega, HQ4.out, rfl, HQ.out, HA.out⟩)
              rw [h9.1, h9.2, HAA.out]
    case stop =>
      rintro D c k W hD _ h _
      exact h.elim
end Go.Proofs.Sky
