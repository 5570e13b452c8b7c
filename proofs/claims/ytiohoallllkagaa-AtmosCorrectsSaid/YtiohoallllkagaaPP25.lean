/-
  lemmas for the theorems of this claim. No conditions beyond those written in the statements.
-/
import Derived.Test.YtiohoallllkagaaCF31
import Derived.Deep.Cut
import Derived.Test.YtiohoallllkagaaKit
set_option linter.unusedVariables false
set_option linter.unusedSimpArgs false
set_option linter.unnecessarySimpa false
namespace Go.Proofs.Sky
open Go Go.RowKit Go.Shelf
set_option maxHeartbeats 4000000
set_option maxRecDepth 4000
section
variable {P : Program} {ops : Array Oper} {Q : Exit → Act → World → Prop}
theorem wp_alloc_new {o : Oper} {a : Act} {w : World} {K : Act → World → Prop} (ty : TypeId) (ho : o.op = .alloc ty) (dst : Option Tmp) (hd : o.dst = dst) (cs : Array Value) (hz : (zeroValue ty).run P w = .ok (.agg cs) w)
    (h : ∀ g w', w.heap.size ≤ g → Blk w' g ty cs → Bw w w' → K (a.put dst (.pointer (some ⟨g, 0, none⟩))) w') : o.wp P a w K Q :=
  wp_alloc_agg ty ho dst hd cs hz (h _ _ (Nat.le_refl _) (Blk.new w ty cs) (Bw.alloc (Bw.refl w) _))
end
def Off (g : Nat) (v : Value) (zs : List Int) : Prop := zs = [] ∨ ∀ b, v.ownBlock = some b → b ≠ g
theorem RdI.off {w : World} {v : Value} {zs : List Int} (h : RdI w v zs) {g : Nat} (hg : w.heap.size ≤ g) : Off g v zs := by
  obtain ⟨_, a, cap, rfl, h4⟩ := h
  rcases h4 with h4 | ⟨b, off, rfl, h6, _⟩
  · exact .inl h4
  · exact .inr (fun b' e => by simp [Value.ownBlock] at e; omega)
theorem Fresh.off {base g : Nat} {v : Value} (h : Fresh base v) (hg : g < base) (zs : List Int) : Off g v zs := .inr (fun b e => by have := h b e; omega)
theorem RdI.rowOff {w : World} {v : Value} {zs : List Int} (h : RdI w v zs) {g : Nat} (ho : Off g v zs) (cs : Array Value) : RdI (w.setRow g cs) v zs := by
  obtain ⟨h2, a, cap, rfl, h4⟩ := h
  refine ⟨h2, a, cap, rfl, ?_⟩
  rcases h4 with h4 | ⟨b', off, rfl, h6, h7⟩
  · exact .inl h4
  · rcases ho with ho | ho
    · exact .inl ho
    · have := ho b' rfl
      refine .inr ⟨b', off, rfl, by simpa using h6, fun i hi => ?_⟩
      rw [World.cell?_of_block (setRow_other w g b' cs this)]; exact h7 i hi
theorem zeroFl (w : World) : (zeroValue 69).run Try.prog w = .ok (.agg #[.int .i64 0, .int .i64 0]) w := by kernel_rfl
theorem unR_len (zs : List Int) : ∀ (fs : List Fd) (i : Nat) (out : List Int), (unR i zs out fs).2.1 = 0 → (unR i zs out fs).1.length = out.length + fs.length := by
  intro fs
  induction fs with
  | nil => intro i out _; rfl
  | cons f r ih =>
    intro i out h
    rw [unR] at h ⊢
    by_cases he : errT zs f.a f.n f.u f.c = 0
    · rw [if_pos he] at h ⊢
      rw [ih _ _ h]; simp; omega
    · rw [if_neg he] at h
      exact absurd h he
theorem unpackR_len (fs : List Fd) (zs : List Int) (h : (unpackR fs zs).2.1 = 0) : (unpackR fs zs).1.length = fs.length := by
  unfold unpackR at h ⊢
  by_cases hl : (layout fs zs.length).1 = 0
  · rw [if_pos hl] at h ⊢
    rw [unR_len _ _ _ _ h]; simp
  · rw [if_neg hl] at h
    exact absurd h hl
def RdOk (t k : Int) (zs pl : List Int) (px : Int) (x : Nat → Int) : Prop := k = 5 ∧ 0 ≤ t ∧ t < 131072 ∧ zs.length = 206 ∧ px = 0 ∧ errA x = 0 ∧ (zs.drop 187).any (fun d => d != 0) = false
theorem atV_set (x : Nat → Int) (k : Nat) (h : k < 9) : (atV (fun i => if i < k then x i else 0)).setIfInBounds k (.int .i64 (x k)) = atV (fun i => if i < k + 1 then x i else 0) := by
  match k, h with
  | 0, _ => rfl
  | 1, _ => rfl
  | 2, _ => rfl
  | 3, _ => rfl
  | 4, _ => rfl
  | 5, _ => rfl
  | 6, _ => rfl
  | 7, _ => rfl
  | 8, _ => rfl
theorem Read_main (t k : Int) (zs pl : List Int) (px py : Int) (a : Option Addr) (c : Nat) (w : World) (x : Nat → Int) (RX : Nat → Int) (RE : Int)
    (hv : RdI w (.slice a zs.length c) zs) (hc : zs.length ≤ c ∧ c ≤ 9223372036854775807) (hu : unpackR FS31 zs = (pl, (px, py))) (hx : ∀ i, pl.getD i 0 = x i)
    (h : (RdOk t k zs pl px x ∧ RX = x ∧ RE = 0) ∨ (¬ RdOk t k zs pl px x ∧ RX = (fun _ => 0) ∧ RE = 3)) :
    Calls Try.prog 20 #[.agg #[.int .i64 t, .int .i64 k, .slice a zs.length c]] w fun e w' => e = .returned (.tuple #[.agg (atV RX), .int .i64 RE]) ∧ Bw w w' := by
  have HV := Lib.hid hv
  have FD := Lib.hid (fun W => fields_any W)
  have UN := Lib.hid (fun W vf vv hf hv => Unpack_any FS31 zs vf vv W hf hv)
  unfold PackP at UN
  have HLN := Lib.hid (fun h => unpackR_len FS31 zs h)
  rw [hu] at UN HLN
  dsimp only at UN HLN
  clear hu hv
  have HNO : Hid (¬ RdOk t k zs pl px x → RX = (fun _ => 0) ∧ RE = 3) := Lib.hid (fun hn => by rcases h with h | h; exact absurd h.1 hn; exact h.2)
  have HYE : Hid (RdOk t k zs pl px x → RX = x ∧ RE = 0) := Lib.hid (fun hn => by rcases h with h | h; exact h.2; exact absurd hn h.1)
  have HX := Lib.hid hx
  clear h hx
  have HBW := Lib.hid (Bw.alloc (Bw.alloc (Bw.refl w) (.cells #[.int .i64 t, .int .i64 k, .slice a zs.length c] 38)) (.cells #[.int .i64 0, .int .i64 0, .int .i64 0, .int .i64 0, .int .i64 0, .int .i64 0, .int .i64 0, .int .i64 0, .int .i64 0] 25))
  have KX := Lib.hid ((Blk.new w 38 #[.int .i64 t, .int .i64 k, .slice a zs.length c]).alloc (.cells #[.int .i64 0, .int .i64 0, .int .i64 0, .int .i64 0, .int .i64 0, .int .i64 0, .int .i64 0, .int .i64 0, .int .i64 0] 25))
  have RX0 : Hid (Blk ((w.alloc (.cells #[.int .i64 t, .int .i64 k, .slice a zs.length c] 38)).alloc (.cells #[.int .i64 0, .int .i64 0, .int .i64 0, .int .i64 0, .int .i64 0, .int .i64 0, .int .i64 0, .int .i64 0, .int .i64 0] 25)) (w.heap.size + 1) 25 #[.int .i64 0, .int .i64 0, .int .i64 0, .int .i64 0, .int .i64 0, .int .i64 0, .int .i64 0, .int .i64 0, .int .i64 0]) := Lib.hid (by have h9 := Blk.new (w.alloc (.cells #[.int .i64 t, .int .i64 k, .slice a zs.length c] 38)) 25 #[.int .i64 0, .int .i64 0, .int .i64 0, .int .i64 0, .int .i64 0, .int .i64 0, .int .i64 0, .int .i64 0, .int .i64 0]; simpa using h9)
  go_enter Try.func20, Try.ntmps20
  go_upto_region 1 with fail
  obtain ⟨u1, hu1⟩ : ∃ u1, ((w.alloc (.cells #[.int .i64 t, .int .i64 k, .slice a zs.length c] 38)).alloc (.cells #[.int .i64 0, .int .i64 0, .int .i64 0, .int .i64 0, .int .i64 0, .int .i64 0, .int .i64 0, .int .i64 0, .int .i64 0] 25)) = u1 := ⟨_, rfl⟩
  rw [hu1] at HBW KX RX0 ⊢
  clear hu1
  go_cut [4, 5] from 9 (fun s4 s5 wc => ∃ g5 a4 c4, s5 = .pointer (some ⟨g5, 0, none⟩) ∧ s4 = .slice a4 pl.length c4 ∧ Hid (Bw u1 wc) ∧ Hid (Blk wc g5 69 #[.int .i64 px, .int .i64 py]) ∧ Hid (RdI wc (.slice a4 pl.length c4) pl))
  case first =>
    refine wp_region_held_drew (S := Bw u1) (by kernel_rfl) (Bw.drew (Bw.refl _)) (fun hS => ?_)
    generalize World.drew _ = wd at hS ⊢
    refine take1 (i := 1) (some 11) rfl rfl (by kernel_rfl) (by kernel_rfl) (by kernel_rfl) (fun _ _ _ _ h => h) rfl hS ?_
    apply Exists.intro
    apply And.intro
    · intro W9 hW9; have y2 := (KX.out.bw hW9).cell (j := 2) rfl; go_simp; try with_reducible rfl
    simp only [Act.put, List.setIfInBounds_toArray, List.set_cons_zero, List.set_cons_succ]
    refine take1 (i := 2) (some 12) rfl rfl (by kernel_rfl) (by kernel_rfl) (by kernel_rfl) (fun _ _ _ _ h => h) rfl hS ?_
    apply Exists.intro
    apply And.intro
    · intro W9 hW9; have y2 := (KX.out.bw hW9).cell (j := 2) rfl; go_simp; try with_reducible rfl
    simp only [Act.put, List.setIfInBounds_toArray, List.set_cons_zero, List.set_cons_succ]
    refine wpAnyH_ready (rs := [0, 7]) (by kernel_rfl) (by simp) ?_
    refine AllReadyH.cons rfl (fun K hK => ?_) ?_
    go_simp
    go_wp2_with (go_at_call 39; (with_reducible refine Calls.mono (FD.out _) ?_); rintro e1 w10 ⟨⟨vf, rfl, hrf, _⟩, hb10⟩)
    have HF := Lib.hid hrf
    clear hrf
    refine hK.out _ _ (hS.trans hb10) (fun hS => ?_)
    clear hK K
    refine wpAnyH_ready (rs := [3, 7]) (by kernel_rfl) (by simp) ?_
    refine AllReadyH.cons rfl (fun K hK => ?_) ?_
    go_simp
    go_wp2_with (go_at_call 42; (with_reducible refine Calls.mono (UN.out _ _ _ HF.out (HV.out.mono (HBW.out.trans hS))) ?_); rintro e1 w13 ⟨⟨vu, rfl, hru, hfu, _⟩, hb13⟩)
    obtain ⟨a4, c4, rfl⟩ := hru.form
    have HD := Lib.hid hru
    clear hru hfu
    refine hK.out _ _ (hS.trans hb13) (fun hS => ?_)
    clear hK K
    refine take1 (i := 4) (some 9) rfl rfl (by kernel_rfl) (by kernel_rfl) (by kernel_rfl) (fun _ _ _ _ h => h) rfl hS ?_
    apply Exists.intro
    apply And.intro
    · intro W9 hW9; have y2 := (KX.out.bw hW9).cell (j := 2) rfl; go_simp; try with_reducible rfl
    simp only [Act.put, List.setIfInBounds_toArray, List.set_cons_zero, List.set_cons_succ]
    refine take1 (i := 5) (some 14) rfl rfl (by kernel_rfl) (by kernel_rfl) (by kernel_rfl) (fun _ _ _ _ h => h) rfl hS ?_
    apply Exists.intro
    apply And.intro
    · intro W9 hW9; have y2 := (KX.out.bw hW9).cell (j := 2) rfl; go_simp; try with_reducible rfl
    simp only [Act.put, List.setIfInBounds_toArray, List.set_cons_zero, List.set_cons_succ]
    refine take1 (i := 6) (some 15) rfl rfl (by kernel_rfl) (by kernel_rfl) (by kernel_rfl) (fun _ _ _ _ h => h) rfl hS ?_
    apply Exists.intro
    apply And.intro
    · intro W9 hW9; have y2 := (KX.out.bw hW9).cell (j := 2) rfl; go_simp; try with_reducible rfl
    simp only [Act.put, List.setIfInBounds_toArray, List.set_cons_zero, List.set_cons_succ]
    refine wpAnyH_ready (rs := [7]) (by kernel_rfl) (by simp) ?_
    refine AllReadyH.cons rfl (fun K hK => ?_) ?_
    rw [if_pos (by rfl)]
    refine wp_alloc_new 69 rfl (some 5) rfl _ (zeroFl _) ?_
    intro g5 w5 hg5 hN hbw
    simp only [Act.put, List.setIfInBounds_toArray, List.set_cons_zero, List.set_cons_succ]
    have NB := Lib.hid hN
    have HG := Lib.hid (Nat.le_trans hS.size hg5)
    have NE := Lib.hid (HD.out.off hg5)
    replace HD := Lib.hid (HD.out.mono hbw)
    clear hN
    refine hK.out _ _ (hS.trans hbw) (fun hS => ?_)
    clear hK K
    refine take1 (i := 8) (some 4) rfl rfl (by kernel_rfl) (by kernel_rfl) (by kernel_rfl) (fun _ _ _ _ h => h) rfl hS ?_
    apply Exists.intro
    apply And.intro
    · intro W9 hW9; have y2 := (KX.out.bw hW9).cell (j := 2) rfl; go_simp; try with_reducible rfl
    simp only [Act.put, List.setIfInBounds_toArray, List.set_cons_zero, List.set_cons_succ]
    refine wpAnyH_ready (rs := [9]) (by kernel_rfl) (by simp) ?_
    refine AllReadyH.cons rfl (fun K hK => ?_) ?_
    rw [if_pos (by rfl)]
    refine wp_store_row0 69 _ _ rfl rfl g5 #[.int .i64 px, .int .i64 py] rfl rfl 69 #[.int .i64 0, .int .i64 0] NB.out (by kernel_rfl) rfl (by simp [Value.oneCell']) ?_
    replace NB := Lib.hid (NB.out.row #[.int .i64 px, .int .i64 py])
    replace HD := Lib.hid (HD.out.rowOff NE.out #[.int .i64 px, .int .i64 py])
    refine hK.out _ _ (Bw.setRow hS HG.out #[.int .i64 px, .int .i64 py]) (fun hS => ?_)
    clear hK K
    refine wpAnyH_done (by kernel_rfl) ?_ _
    rotate_left
    exact AllReadyH.nil
    exact AllReadyH.nil
    refine AllReadyH.cons rfl (fun K hK => ?_) ?_
    rw [if_pos (by rfl)]
    refine wp_alloc_new 69 rfl (some 5) rfl _ (zeroFl _) ?_
    intro g5 w5 hg5 hN hbw
    simp only [Act.put, List.setIfInBounds_toArray, List.set_cons_zero, List.set_cons_succ]
    have NB := Lib.hid hN
    have HG := Lib.hid (Nat.le_trans hS.size hg5)
    replace HF := Lib.hid (HF.out.mono hbw)
    clear hN
    refine hK.out _ _ (hS.trans hbw) (fun hS => ?_)
    clear hK K
    refine wpAnyH_ready (rs := [3]) (by kernel_rfl) (by simp) ?_
    refine AllReadyH.cons rfl (fun K hK => ?_) ?_
    go_simp
    go_wp2_with (go_at_call 42; (with_reducible refine Calls.mono (UN.out _ _ _ HF.out (HV.out.mono (HBW.out.trans hS))) ?_); rintro e1 w13 ⟨⟨vu, rfl, hru, hfu, _⟩, hb13⟩)
    obtain ⟨a4, c4, rfl⟩ := hru.form
    have NE := Lib.hid (hfu.off NB.out.lt pl)
    replace NB := Lib.hid (NB.out.bw hb13)
    have HD := Lib.hid hru
    clear hru hfu
    refine hK.out _ _ (hS.trans hb13) (fun hS => ?_)
    clear hK K
    refine take1 (i := 4) (some 9) rfl rfl (by kernel_rfl) (by kernel_rfl) (by kernel_rfl) (fun _ _ _ _ h => h) rfl hS ?_
    apply Exists.intro
    apply And.intro
    · intro W9 hW9; have y2 := (KX.out.bw hW9).cell (j := 2) rfl; go_simp; try with_reducible rfl
    simp only [Act.put, List.setIfInBounds_toArray, List.set_cons_zero, List.set_cons_succ]
    refine take1 (i := 5) (some 14) rfl rfl (by kernel_rfl) (by kernel_rfl) (by kernel_rfl) (fun _ _ _ _ h => h) rfl hS ?_
    apply Exists.intro
    apply And.intro
    · intro W9 hW9; have y2 := (KX.out.bw hW9).cell (j := 2) rfl; go_simp; try with_reducible rfl
    simp only [Act.put, List.setIfInBounds_toArray, List.set_cons_zero, List.set_cons_succ]
    refine take1 (i := 6) (some 15) rfl rfl (by kernel_rfl) (by kernel_rfl) (by kernel_rfl) (fun _ _ _ _ h => h) rfl hS ?_
    apply Exists.intro
    apply And.intro
    · intro W9 hW9; have y2 := (KX.out.bw hW9).cell (j := 2) rfl; go_simp; try with_reducible rfl
    simp only [Act.put, List.setIfInBounds_toArray, List.set_cons_zero, List.set_cons_succ]
    refine take1 (i := 8) (some 4) rfl rfl (by kernel_rfl) (by kernel_rfl) (by kernel_rfl) (fun _ _ _ _ h => h) rfl hS ?_
    apply Exists.intro
    apply And.intro
    · intro W9 hW9; have y2 := (KX.out.bw hW9).cell (j := 2) rfl; go_simp; try with_reducible rfl
    simp only [Act.put, List.setIfInBounds_toArray, List.set_cons_zero, List.set_cons_succ]
    refine wpAnyH_ready (rs := [9]) (by kernel_rfl) (by simp) ?_
    refine AllReadyH.cons rfl (fun K hK => ?_) ?_
    rw [if_pos (by rfl)]
    refine wp_store_row0 69 _ _ rfl rfl g5 #[.int .i64 px, .int .i64 py] rfl rfl 69 #[.int .i64 0, .int .i64 0] NB.out (by kernel_rfl) rfl (by simp [Value.oneCell']) ?_
    replace NB := Lib.hid (NB.out.row #[.int .i64 px, .int .i64 py])
    replace HD := Lib.hid (HD.out.rowOff NE.out #[.int .i64 px, .int .i64 py])
    refine hK.out _ _ (Bw.setRow hS HG.out #[.int .i64 px, .int .i64 py]) (fun hS => ?_)
    clear hK K
    refine wpAnyH_done (by kernel_rfl) ?_ _
    rotate_left
    exact AllReadyH.nil
    exact AllReadyH.nil
    exact AllReadyH.nil
    refine AllReadyH.cons rfl (fun K hK => ?_) ?_
    rw [if_pos (by rfl)]
    refine wp_alloc_new 69 rfl (some 5) rfl _ (zeroFl _) ?_
    intro g5 w5 hg5 hN hbw
    simp only [Act.put, List.setIfInBounds_toArray, List.set_cons_zero, List.set_cons_succ]
    have NB := Lib.hid hN
    have HG := Lib.hid (Nat.le_trans hS.size hg5)
    clear hN
    refine hK.out _ _ (hS.trans hbw) (fun hS => ?_)
    clear hK K
    refine wpAnyH_ready (rs := [0]) (by kernel_rfl) (by simp) ?_
    refine AllReadyH.cons rfl (fun K hK => ?_) ?_
    go_simp
    go_wp2_with (go_at_call 39; (with_reducible refine Calls.mono (FD.out _) ?_); rintro e1 w10 ⟨⟨vf, rfl, hrf, _⟩, hb10⟩)
    have HF := Lib.hid hrf
    clear hrf
    replace NB := Lib.hid (NB.out.bw hb10)
    refine hK.out _ _ (hS.trans hb10) (fun hS => ?_)
    clear hK K
    refine wpAnyH_ready (rs := [3]) (by kernel_rfl) (by simp) ?_
    refine AllReadyH.cons rfl (fun K hK => ?_) ?_
    go_simp
    go_wp2_with (go_at_call 42; (with_reducible refine Calls.mono (UN.out _ _ _ HF.out (HV.out.mono (HBW.out.trans hS))) ?_); rintro e1 w13 ⟨⟨vu, rfl, hru, hfu, _⟩, hb13⟩)
    obtain ⟨a4, c4, rfl⟩ := hru.form
    have NE := Lib.hid (hfu.off NB.out.lt pl)
    replace NB := Lib.hid (NB.out.bw hb13)
    have HD := Lib.hid hru
    clear hru hfu
    refine hK.out _ _ (hS.trans hb13) (fun hS => ?_)
    clear hK K
    refine take1 (i := 4) (some 9) rfl rfl (by kernel_rfl) (by kernel_rfl) (by kernel_rfl) (fun _ _ _ _ h => h) rfl hS ?_
    apply Exists.intro
    apply And.intro
    · intro W9 hW9; have y2 := (KX.out.bw hW9).cell (j := 2) rfl; go_simp; try with_reducible rfl
    simp only [Act.put, List.setIfInBounds_toArray, List.set_cons_zero, List.set_cons_succ]
    refine take1 (i := 5) (some 14) rfl rfl (by kernel_rfl) (by kernel_rfl) (by kernel_rfl) (fun _ _ _ _ h => h) rfl hS ?_
    apply Exists.intro
    apply And.intro
    · intro W9 hW9; have y2 := (KX.out.bw hW9).cell (j := 2) rfl; go_simp; try with_reducible rfl
    simp only [Act.put, List.setIfInBounds_toArray, List.set_cons_zero, List.set_cons_succ]
    refine take1 (i := 6) (some 15) rfl rfl (by kernel_rfl) (by kernel_rfl) (by kernel_rfl) (fun _ _ _ _ h => h) rfl hS ?_
    apply Exists.intro
    apply And.intro
    · intro W9 hW9; have y2 := (KX.out.bw hW9).cell (j := 2) rfl; go_simp; try with_reducible rfl
    simp only [Act.put, List.setIfInBounds_toArray, List.set_cons_zero, List.set_cons_succ]
    refine take1 (i := 8) (some 4) rfl rfl (by kernel_rfl) (by kernel_rfl) (by kernel_rfl) (fun _ _ _ _ h => h) rfl hS ?_
    apply Exists.intro
    apply And.intro
    · intro W9 hW9; have y2 := (KX.out.bw hW9).cell (j := 2) rfl; go_simp; try with_reducible rfl
    simp only [Act.put, List.setIfInBounds_toArray, List.set_cons_zero, List.set_cons_succ]
    refine wpAnyH_ready (rs := [9]) (by kernel_rfl) (by simp) ?_
    refine AllReadyH.cons rfl (fun K hK => ?_) ?_
    rw [if_pos (by rfl)]
    refine wp_store_row0 69 _ _ rfl rfl g5 #[.int .i64 px, .int .i64 py] rfl rfl 69 #[.int .i64 0, .int .i64 0] NB.out (by kernel_rfl) rfl (by simp [Value.oneCell']) ?_
    replace NB := Lib.hid (NB.out.row #[.int .i64 px, .int .i64 py])
    replace HD := Lib.hid (HD.out.rowOff NE.out #[.int .i64 px, .int .i64 py])
    refine hK.out _ _ (Bw.setRow hS HG.out #[.int .i64 px, .int .i64 py]) (fun hS => ?_)
    clear hK K
    refine wpAnyH_done (by kernel_rfl) ?_ _
    rotate_left
    exact AllReadyH.nil
    exact AllReadyH.nil
    exact AllReadyH.nil
    exact AllReadyH.nil
    all_goals
      go_wp2
      go_meet
      exact ⟨g5, a4, c4, rfl, rfl, Lib.hid hS, NB, HD⟩
  case rest =>
    obtain ⟨g5, a4, c4, rfl, rfl, hb2, NB, HD⟩ := hcut
    replace HBW := Lib.hid (HBW.out.trans hb2.out)
    replace KX := Lib.hid (KX.out.bw hb2.out)
    replace RX0 := Lib.hid (RX0.out.bw hb2.out)
    have c0 : wc.cell? ⟨w.heap.size, 0, none⟩ = some (.int .i64 t) := KX.out.cell rfl
    have c1 : wc.cell? ⟨w.heap.size, 1, none⟩ = some (.int .i64 k) := KX.out.cell rfl
    have c2 : wc.cell? ⟨w.heap.size, 2, none⟩ = some (.slice a zs.length c) := KX.out.cell rfl
    have d0 : wc.cell? ⟨g5, 0, none⟩ = some (.int .i64 px) := NB.out.cell rfl
    clear NB hb2 FD UN
    by_cases q1 : k = 5
    case neg =>
      have q1b : (k != 5) = true := by simpa using q1
      go_wp2_with ((with_reducible refine at_store 25 (.tmp 2) (.tmp 40) ?_); refine wpList_store_row rfl 25 (.tmp 2) (.tmp 40) rfl (w.heap.size + 1) #[.int .i64 0, .int .i64 0, .int .i64 0, .int .i64 0, .int .i64 0, .int .i64 0, .int .i64 0, .int .i64 0, .int .i64 0] rfl rfl 25 _ RX0.out (by kernel_rfl) rfl (by simp [Value.oneCell']) ?_)
      have F3 := RX0.out.row #[.int .i64 0, .int .i64 0, .int .i64 0, .int .i64 0, .int .i64 0, .int .i64 0, .int .i64 0, .int .i64 0, .int .i64 0]
      have B3 := Bw.setRow HBW.out (show w.heap.size ≤ w.heap.size + 1 by omega) #[.int .i64 0, .int .i64 0, .int .i64 0, .int .i64 0, .int .i64 0, .int .i64 0, .int .i64 0, .int .i64 0, .int .i64 0]
      have m0 := F3.cell (j := 0) (v := .int .i64 0) rfl
      have m1 := F3.cell (j := 1) (v := .int .i64 0) rfl
      have m2 := F3.cell (j := 2) (v := .int .i64 0) rfl
      have m3 := F3.cell (j := 3) (v := .int .i64 0) rfl
      have m4 := F3.cell (j := 4) (v := .int .i64 0) rfl
      have m5 := F3.cell (j := 5) (v := .int .i64 0) rfl
      have m6 := F3.cell (j := 6) (v := .int .i64 0) rfl
      have m7 := F3.cell (j := 7) (v := .int .i64 0) rfl
      have m8 := F3.cell (j := 8) (v := .int .i64 0) rfl
      generalize World.setRow wc _ _ = WF at m0 m1 m2 m3 m4 m5 m6 m7 m8 B3 ⊢
      clear F3
      refine bodyPost_ret (v := .tuple #[.agg #[.int .i64 0, .int .i64 0, .int .i64 0, .int .i64 0, .int .i64 0, .int .i64 0, .int .i64 0, .int .i64 0, .int .i64 0], .int .i64 3]) ?_ rfl ⟨?_, B3⟩
      · simp [results, Try.results20, go_sem, m0, m1, m2, m3, m4, m5, m6, m7, m8]
      · have h9 := HNO.out (by unfold RdOk; omega); rw [h9.1, h9.2]; rfl
    subst q1
    by_cases q2 : t < 0
    case pos =>
      go_wp2_with ((with_reducible refine at_store 25 (.tmp 2) (.tmp 40) ?_); refine wpList_store_row rfl 25 (.tmp 2) (.tmp 40) rfl (w.heap.size + 1) #[.int .i64 0, .int .i64 0, .int .i64 0, .int .i64 0, .int .i64 0, .int .i64 0, .int .i64 0, .int .i64 0, .int .i64 0] rfl rfl 25 _ RX0.out (by kernel_rfl) rfl (by simp [Value.oneCell']) ?_)
      have F3 := RX0.out.row #[.int .i64 0, .int .i64 0, .int .i64 0, .int .i64 0, .int .i64 0, .int .i64 0, .int .i64 0, .int .i64 0, .int .i64 0]
      have B3 := Bw.setRow HBW.out (show w.heap.size ≤ w.heap.size + 1 by omega) #[.int .i64 0, .int .i64 0, .int .i64 0, .int .i64 0, .int .i64 0, .int .i64 0, .int .i64 0, .int .i64 0, .int .i64 0]
      have m0 := F3.cell (j := 0) (v := .int .i64 0) rfl
      have m1 := F3.cell (j := 1) (v := .int .i64 0) rfl
      have m2 := F3.cell (j := 2) (v := .int .i64 0) rfl
      have m3 := F3.cell (j := 3) (v := .int .i64 0) rfl
      have m4 := F3.cell (j := 4) (v := .int .i64 0) rfl
      have m5 := F3.cell (j := 5) (v := .int .i64 0) rfl
      have m6 := F3.cell (j := 6) (v := .int .i64 0) rfl
      have m7 := F3.cell (j := 7) (v := .int .i64 0) rfl
      have m8 := F3.cell (j := 8) (v := .int .i64 0) rfl
      generalize World.setRow wc _ _ = WF at m0 m1 m2 m3 m4 m5 m6 m7 m8 B3 ⊢
      clear F3
      refine bodyPost_ret (v := .tuple #[.agg #[.int .i64 0, .int .i64 0, .int .i64 0, .int .i64 0, .int .i64 0, .int .i64 0, .int .i64 0, .int .i64 0, .int .i64 0], .int .i64 3]) ?_ rfl ⟨?_, B3⟩
      · simp [results, Try.results20, go_sem, m0, m1, m2, m3, m4, m5, m6, m7, m8]
      · have h9 := HNO.out (by unfold RdOk; omega); rw [h9.1, h9.2]; rfl
    by_cases q3 : 131072 ≤ t
    case pos =>
      go_wp2_with ((with_reducible refine at_store 25 (.tmp 2) (.tmp 40) ?_); refine wpList_store_row rfl 25 (.tmp 2) (.tmp 40) rfl (w.heap.size + 1) #[.int .i64 0, .int .i64 0, .int .i64 0, .int .i64 0, .int .i64 0, .int .i64 0, .int .i64 0, .int .i64 0, .int .i64 0] rfl rfl 25 _ RX0.out (by kernel_rfl) rfl (by simp [Value.oneCell']) ?_)
      have F3 := RX0.out.row #[.int .i64 0, .int .i64 0, .int .i64 0, .int .i64 0, .int .i64 0, .int .i64 0, .int .i64 0, .int .i64 0, .int .i64 0]
      have B3 := Bw.setRow HBW.out (show w.heap.size ≤ w.heap.size + 1 by omega) #[.int .i64 0, .int .i64 0, .int .i64 0, .int .i64 0, .int .i64 0, .int .i64 0, .int .i64 0, .int .i64 0, .int .i64 0]
      have m0 := F3.cell (j := 0) (v := .int .i64 0) rfl
      have m1 := F3.cell (j := 1) (v := .int .i64 0) rfl
      have m2 := F3.cell (j := 2) (v := .int .i64 0) rfl
      have m3 := F3.cell (j := 3) (v := .int .i64 0) rfl
      have m4 := F3.cell (j := 4) (v := .int .i64 0) rfl
      have m5 := F3.cell (j := 5) (v := .int .i64 0) rfl
      have m6 := F3.cell (j := 6) (v := .int .i64 0) rfl
      have m7 := F3.cell (j := 7) (v := .int .i64 0) rfl
      have m8 := F3.cell (j := 8) (v := .int .i64 0) rfl
      generalize World.setRow wc _ _ = WF at m0 m1 m2 m3 m4 m5 m6 m7 m8 B3 ⊢
      clear F3
      refine bodyPost_ret (v := .tuple #[.agg #[.int .i64 0, .int .i64 0, .int .i64 0, .int .i64 0, .int .i64 0, .int .i64 0, .int .i64 0, .int .i64 0, .int .i64 0], .int .i64 3]) ?_ rfl ⟨?_, B3⟩
      · simp [results, Try.results20, go_sem, m0, m1, m2, m3, m4, m5, m6, m7, m8]
      · have h9 := HNO.out (by unfold RdOk; omega); rw [h9.1, h9.2]; rfl
    by_cases q4 : zs.length = 206
    case neg =>
      have q4b : ((zs.length : Int) != 206) = true := by simp; omega
      go_wp2_with ((with_reducible refine at_store 25 (.tmp 2) (.tmp 40) ?_); refine wpList_store_row rfl 25 (.tmp 2) (.tmp 40) rfl (w.heap.size + 1) #[.int .i64 0, .int .i64 0, .int .i64 0, .int .i64 0, .int .i64 0, .int .i64 0, .int .i64 0, .int .i64 0, .int .i64 0] rfl rfl 25 _ RX0.out (by kernel_rfl) rfl (by simp [Value.oneCell']) ?_)
      have F3 := RX0.out.row #[.int .i64 0, .int .i64 0, .int .i64 0, .int .i64 0, .int .i64 0, .int .i64 0, .int .i64 0, .int .i64 0, .int .i64 0]
      have B3 := Bw.setRow HBW.out (show w.heap.size ≤ w.heap.size + 1 by omega) #[.int .i64 0, .int .i64 0, .int .i64 0, .int .i64 0, .int .i64 0, .int .i64 0, .int .i64 0, .int .i64 0, .int .i64 0]
      have m0 := F3.cell (j := 0) (v := .int .i64 0) rfl
      have m1 := F3.cell (j := 1) (v := .int .i64 0) rfl
      have m2 := F3.cell (j := 2) (v := .int .i64 0) rfl
      have m3 := F3.cell (j := 3) (v := .int .i64 0) rfl
      have m4 := F3.cell (j := 4) (v := .int .i64 0) rfl
      have m5 := F3.cell (j := 5) (v := .int .i64 0) rfl
      have m6 := F3.cell (j := 6) (v := .int .i64 0) rfl
      have m7 := F3.cell (j := 7) (v := .int .i64 0) rfl
      have m8 := F3.cell (j := 8) (v := .int .i64 0) rfl
      generalize World.setRow wc _ _ = WF at m0 m1 m2 m3 m4 m5 m6 m7 m8 B3 ⊢
      clear F3
      refine bodyPost_ret (v := .tuple #[.agg #[.int .i64 0, .int .i64 0, .int .i64 0, .int .i64 0, .int .i64 0, .int .i64 0, .int .i64 0, .int .i64 0, .int .i64 0], .int .i64 3]) ?_ rfl ⟨?_, B3⟩
      · simp [results, Try.results20, go_sem, m0, m1, m2, m3, m4, m5, m6, m7, m8]
      · have h9 := HNO.out (by unfold RdOk; omega); rw [h9.1, h9.2]; rfl
    by_cases q5 : px = 0
    case neg =>
      rw [q4] at c2
      have q5b : (px != 0) = true := by simpa using q5
      go_wp2_with ((with_reducible refine at_store 25 (.tmp 2) (.tmp 40) ?_); refine wpList_store_row rfl 25 (.tmp 2) (.tmp 40) rfl (w.heap.size + 1) #[.int .i64 0, .int .i64 0, .int .i64 0, .int .i64 0, .int .i64 0, .int .i64 0, .int .i64 0, .int .i64 0, .int .i64 0] rfl rfl 25 _ RX0.out (by kernel_rfl) rfl (by simp [Value.oneCell']) ?_)
      have F3 := RX0.out.row #[.int .i64 0, .int .i64 0, .int .i64 0, .int .i64 0, .int .i64 0, .int .i64 0, .int .i64 0, .int .i64 0, .int .i64 0]
      have B3 := Bw.setRow HBW.out (show w.heap.size ≤ w.heap.size + 1 by omega) #[.int .i64 0, .int .i64 0, .int .i64 0, .int .i64 0, .int .i64 0, .int .i64 0, .int .i64 0, .int .i64 0, .int .i64 0]
      have m0 := F3.cell (j := 0) (v := .int .i64 0) rfl
      have m1 := F3.cell (j := 1) (v := .int .i64 0) rfl
      have m2 := F3.cell (j := 2) (v := .int .i64 0) rfl
      have m3 := F3.cell (j := 3) (v := .int .i64 0) rfl
      have m4 := F3.cell (j := 4) (v := .int .i64 0) rfl
      have m5 := F3.cell (j := 5) (v := .int .i64 0) rfl
      have m6 := F3.cell (j := 6) (v := .int .i64 0) rfl
      have m7 := F3.cell (j := 7) (v := .int .i64 0) rfl
      have m8 := F3.cell (j := 8) (v := .int .i64 0) rfl
      generalize World.setRow wc _ _ = WF at m0 m1 m2 m3 m4 m5 m6 m7 m8 B3 ⊢
      clear F3
      refine bodyPost_ret (v := .tuple #[.agg #[.int .i64 0, .int .i64 0, .int .i64 0, .int .i64 0, .int .i64 0, .int .i64 0, .int .i64 0, .int .i64 0, .int .i64 0], .int .i64 3]) ?_ rfl ⟨?_, B3⟩
      · simp [results, Try.results20, go_sem, m0, m1, m2, m3, m4, m5, m6, m7, m8]
      · have h9 := HNO.out (by unfold RdOk; omega); rw [h9.1, h9.2]; rfl
    subst q5
    have hl9 := HLN.out rfl
    rw [show FS31.length = 9 by decide] at hl9
    rw [hl9] at HD
    have HL9 := Lib.hid hl9
    rw [hl9]
    clear hl9
    rw [q4] at c2
    have NM := Lib.hid (fun W (h : wc.heap.size < W.heap.size) => numbers_any wc.heap.size W h)
    unfold NumP at NM
    have MX := Lib.hid (Blk.new wc 25 #[.int .i64 0, .int .i64 0, .int .i64 0, .int .i64 0, .int .i64 0, .int .i64 0, .int .i64 0, .int .i64 0, .int .i64 0])
    have HW := Lib.hid (Bw.alloc (Bw.refl wc) (.cells #[.int .i64 0, .int .i64 0, .int .i64 0, .int .i64 0, .int .i64 0, .int .i64 0, .int .i64 0, .int .i64 0, .int .i64 0] 25))
    go_wp2_with (go_at_call 37; (with_reducible refine Calls.mono (NM.out _ MX.out.lt) ?_); rintro e1 w2 ⟨⟨v9, rfl, hr, hfp⟩, hb9⟩; obtain ⟨bp, cp, rfl, hbp, hcp⟩ := hr; have HP := Lib.hid hcp; have HF := Lib.hid (show wc.heap.size < bp from by have := hfp bp rfl; have := MX.out.lt; omega); replace MX := Lib.hid (MX.out.bw hb9); replace HW := Lib.hid (HW.out.trans hb9); clear hcp hbp hfp hb9 c0 c1 c2 d0)
    go_loopg [43] 9 (fun gg s43 wr => ∃ kk : Nat, kk ≤ 9 ∧ 9 - kk ≤ gg ∧ s43 = .int .i64 kk ∧ Hid (Bw wc wr) ∧ Hid (Blk wr wc.heap.size 25 (atV (fun i => if i < kk then x i else 0))) ∧ Hid (∀ j, j < 9 → wr.cell? ⟨bp, j, none⟩ = some (.pointer (some ⟨wc.heap.size, j, none⟩))))
    case atStart => exact ⟨0, by omega, by omega, rfl, HW, MX, HP⟩
    case round =>
      clear HW MX HP
      obtain ⟨kk, hk, hgg, rfl, HW, MX, HP⟩ := hrel
      by_cases hlt : kk < 9
      · have hkz : (kk : Int) < 9 := by omega
        have p0 := HP.out kk hlt
        obtain ⟨vb, vo, cv, he, hvb, hcv⟩ := (HD.out.mono HW.out).at (by have := HL9.out; omega)
        rw [HL9.out] at he
        injection he with he1 he2 he3
        subst he1 he3
        have p1 := hcv kk (by have := HL9.out; omega)
        rw [HX.out] at p1
        have p2 : wr.cell? ⟨wc.heap.size, kk, none⟩ = some (.int .i64 (if kk < kk then x kk else 0)) := MX.out.cell (atV_at (fun i => if i < kk then x i else 0) kk hlt)
        have p3 := MX.out.frozen kk
        clear hcv
        go_wp2
        go_roundg (9 - (kk + 1))
        case measure => omega
        case rel =>
          refine ⟨kk + 1, by omega, by omega, by go_num, Lib.hid (Bw.setCell HW.out (by simp) _), Lib.hid ?_, Lib.hid ?_⟩
          · rw [← atV_set x kk hlt]; exact MX.out.set kk _
          · intro j hj; rw [cell_set_ne _ _ _ _ _ _ (by have := HF.out; simp; omega)]; exact HP.out j hj
      · obtain rfl : kk = 9 := by omega
        replace MX : Hid (Blk wr wc.heap.size 25 (atV x)) := Lib.hid MX.out
        replace KX := Lib.hid (KX.out.bw HW.out)
        replace RX0 := Lib.hid (RX0.out.bw HW.out)
        replace HBW := Lib.hid (HBW.out.trans HW.out)
        have CKA := Lib.hid (show ∀ W1, Blk W1 wc.heap.size 25 (atV x) → ∀ i, i < 9 → W1.cell? ⟨wc.heap.size, i, none⟩ = some (.int .i64 (x i)) from fun W1 hB i hi => hB.cell (atV_at x i hi))
        have CK := Lib.hid (fun W => ACheck_any x W)
        clear HP HD HW NM
        have k0 : wr.cell? ⟨wc.heap.size, 0, none⟩ = some (.int .i64 (x 0)) := CKA.out _ MX.out 0 (by omega)
        have k1 : wr.cell? ⟨wc.heap.size, 1, none⟩ = some (.int .i64 (x 1)) := CKA.out _ MX.out 1 (by omega)
        have k2 : wr.cell? ⟨wc.heap.size, 2, none⟩ = some (.int .i64 (x 2)) := CKA.out _ MX.out 2 (by omega)
        have k3 : wr.cell? ⟨wc.heap.size, 3, none⟩ = some (.int .i64 (x 3)) := CKA.out _ MX.out 3 (by omega)
        have k4 : wr.cell? ⟨wc.heap.size, 4, none⟩ = some (.int .i64 (x 4)) := CKA.out _ MX.out 4 (by omega)
        have k5 : wr.cell? ⟨wc.heap.size, 5, none⟩ = some (.int .i64 (x 5)) := CKA.out _ MX.out 5 (by omega)
        have k6 : wr.cell? ⟨wc.heap.size, 6, none⟩ = some (.int .i64 (x 6)) := CKA.out _ MX.out 6 (by omega)
        have k7 : wr.cell? ⟨wc.heap.size, 7, none⟩ = some (.int .i64 (x 7)) := CKA.out _ MX.out 7 (by omega)
        have k8 : wr.cell? ⟨wc.heap.size, 8, none⟩ = some (.int .i64 (x 8)) := CKA.out _ MX.out 8 (by omega)
        have c0 : wr.cell? ⟨w.heap.size, 0, none⟩ = some (.int .i64 t) := KX.out.cell rfl
        have c1 : wr.cell? ⟨w.heap.size, 1, none⟩ = some (.int .i64 5) := KX.out.cell rfl
        have c2 : wr.cell? ⟨w.heap.size, 2, none⟩ = some (.slice a 206 c) := by rw [← q4]; exact KX.out.cell rfl
        by_cases q6 : errA x = 0
        case neg =>
          have q6b : (errA x != 0) = true := by simpa using q6
          have HQ := Lib.hid q6
          clear q6
          generalize errA x = er at CK q6b
          go_wp2_with (first | (go_at_call 13; (with_reducible refine Calls.mono (CK.out _) ?_); rintro e1 w3 ⟨rfl, hb9⟩; replace KX := Lib.hid (KX.out.bw hb9); replace RX0 := Lib.hid (RX0.out.bw hb9); replace MX := Lib.hid (MX.out.bw hb9); replace HBW := Lib.hid (HBW.out.trans hb9); clear hb9; clear k0 k1 k2 k3 k4 k5 k6 k7 k8; clear c0 c1 c2; have k0 : w3.cell? ⟨wc.heap.size, 0, none⟩ = some (.int .i64 (x 0)) := CKA.out _ MX.out 0 (by omega); have k1 : w3.cell? ⟨wc.heap.size, 1, none⟩ = some (.int .i64 (x 1)) := CKA.out _ MX.out 1 (by omega); have k2 : w3.cell? ⟨wc.heap.size, 2, none⟩ = some (.int .i64 (x 2)) := CKA.out _ MX.out 2 (by omega); have k3 : w3.cell? ⟨wc.heap.size, 3, none⟩ = some (.int .i64 (x 3)) := CKA.out _ MX.out 3 (by omega); have k4 : w3.cell? ⟨wc.heap.size, 4, none⟩ = some (.int .i64 (x 4)) := CKA.out _ MX.out 4 (by omega); have k5 : w3.cell? ⟨wc.heap.size, 5, none⟩ = some (.int .i64 (x 5)) := CKA.out _ MX.out 5 (by omega); have k6 : w3.cell? ⟨wc.heap.size, 6, none⟩ = some (.int .i64 (x 6)) := CKA.out _ MX.out 6 (by omega); have k7 : w3.cell? ⟨wc.heap.size, 7, none⟩ = some (.int .i64 (x 7)) := CKA.out _ MX.out 7 (by omega); have k8 : w3.cell? ⟨wc.heap.size, 8, none⟩ = some (.int .i64 (x 8)) := CKA.out _ MX.out 8 (by omega); have c0 : w3.cell? ⟨w.heap.size, 0, none⟩ = some (.int .i64 t) := KX.out.cell rfl; have c1 : w3.cell? ⟨w.heap.size, 1, none⟩ = some (.int .i64 5) := KX.out.cell rfl; have c2 : w3.cell? ⟨w.heap.size, 2, none⟩ = some (.slice a 206 c) := by rw [← q4]; exact KX.out.cell rfl) | ((with_reducible refine at_store 25 (.tmp 2) (.tmp 64) ?_); refine wpList_store_row rfl 25 (.tmp 2) (.tmp 64) rfl (w.heap.size + 1) #[.int .i64 0, .int .i64 0, .int .i64 0, .int .i64 0, .int .i64 0, .int .i64 0, .int .i64 0, .int .i64 0, .int .i64 0] rfl rfl 25 _ RX0.out (by kernel_rfl) rfl (by simp [Value.oneCell']) ?_))
          have F3 := RX0.out.row #[.int .i64 0, .int .i64 0, .int .i64 0, .int .i64 0, .int .i64 0, .int .i64 0, .int .i64 0, .int .i64 0, .int .i64 0]
          have B3 := Bw.setRow HBW.out (show w.heap.size ≤ w.heap.size + 1 by omega) #[.int .i64 0, .int .i64 0, .int .i64 0, .int .i64 0, .int .i64 0, .int .i64 0, .int .i64 0, .int .i64 0, .int .i64 0]
          have m0 := F3.cell (j := 0) (v := .int .i64 0) rfl
          have m1 := F3.cell (j := 1) (v := .int .i64 0) rfl
          have m2 := F3.cell (j := 2) (v := .int .i64 0) rfl
          have m3 := F3.cell (j := 3) (v := .int .i64 0) rfl
          have m4 := F3.cell (j := 4) (v := .int .i64 0) rfl
          have m5 := F3.cell (j := 5) (v := .int .i64 0) rfl
          have m6 := F3.cell (j := 6) (v := .int .i64 0) rfl
          have m7 := F3.cell (j := 7) (v := .int .i64 0) rfl
          have m8 := F3.cell (j := 8) (v := .int .i64 0) rfl
          generalize World.setRow w3 _ _ = WF at m0 m1 m2 m3 m4 m5 m6 m7 m8 B3 ⊢
          clear F3
          refine bodyPost_ret (v := .tuple #[.agg #[.int .i64 0, .int .i64 0, .int .i64 0, .int .i64 0, .int .i64 0, .int .i64 0, .int .i64 0, .int .i64 0, .int .i64 0], .int .i64 3]) ?_ rfl ⟨?_, B3⟩
          · simp [results, Try.results20, go_sem, m0, m1, m2, m3, m4, m5, m6, m7, m8]
          · have h9 := HNO.out (by unfold RdOk; intro h; exact HQ.out h.2.2.2.2.2.1); rw [h9.1, h9.2]; rfl
        have HQ := Lib.hid q6
        rw [q6] at CK
        clear q6
        obtain ⟨db, dof, dc, he, hdb, _⟩ := HV.out.at (by omega)
        injection he with he1 he2 he3
        subst he1 he3
        clear he2 hdb
        have TL := Lib.hid (fun W v (h : RdI W v (zs.drop 187)) => tail_any (zs.drop 187) v W h)
        rw [q4] at HV
        cases hany : ((zs.drop 187).any fun d => d != 0) with
        | true =>
          have HA := Lib.hid hany
          rw [hany] at TL
          clear hany
          go_wp2_with (first | (go_at_call 13; (with_reducible refine Calls.mono (CK.out _) ?_); rintro e1 w3 ⟨rfl, hb9⟩; replace KX := Lib.hid (KX.out.bw hb9); replace RX0 := Lib.hid (RX0.out.bw hb9); replace MX := Lib.hid (MX.out.bw hb9); replace HBW := Lib.hid (HBW.out.trans hb9); clear hb9; clear k0 k1 k2 k3 k4 k5 k6 k7 k8; clear c0 c1 c2; have k0 : w3.cell? ⟨wc.heap.size, 0, none⟩ = some (.int .i64 (x 0)) := CKA.out _ MX.out 0 (by omega); have k1 : w3.cell? ⟨wc.heap.size, 1, none⟩ = some (.int .i64 (x 1)) := CKA.out _ MX.out 1 (by omega); have k2 : w3.cell? ⟨wc.heap.size, 2, none⟩ = some (.int .i64 (x 2)) := CKA.out _ MX.out 2 (by omega); have k3 : w3.cell? ⟨wc.heap.size, 3, none⟩ = some (.int .i64 (x 3)) := CKA.out _ MX.out 3 (by omega); have k4 : w3.cell? ⟨wc.heap.size, 4, none⟩ = some (.int .i64 (x 4)) := CKA.out _ MX.out 4 (by omega); have k5 : w3.cell? ⟨wc.heap.size, 5, none⟩ = some (.int .i64 (x 5)) := CKA.out _ MX.out 5 (by omega); have k6 : w3.cell? ⟨wc.heap.size, 6, none⟩ = some (.int .i64 (x 6)) := CKA.out _ MX.out 6 (by omega); have k7 : w3.cell? ⟨wc.heap.size, 7, none⟩ = some (.int .i64 (x 7)) := CKA.out _ MX.out 7 (by omega); have k8 : w3.cell? ⟨wc.heap.size, 8, none⟩ = some (.int .i64 (x 8)) := CKA.out _ MX.out 8 (by omega); have c0 : w3.cell? ⟨w.heap.size, 0, none⟩ = some (.int .i64 t) := KX.out.cell rfl; have c1 : w3.cell? ⟨w.heap.size, 1, none⟩ = some (.int .i64 5) := KX.out.cell rfl; have c2 : w3.cell? ⟨w.heap.size, 2, none⟩ = some (.slice (some ⟨db, dof, none⟩) 206 c) := by rw [← q4]; exact KX.out.cell rfl) | (go_at_call 43; (with_reducible refine Calls.mono (TL.out _ _ ?_) ?_); (focus exact rdI_drop (HV.out.mono HBW.out) 187 (by omega)); rintro e1 w4 ⟨rfl, hb9⟩; replace KX := Lib.hid (KX.out.bw hb9); replace RX0 := Lib.hid (RX0.out.bw hb9); replace MX := Lib.hid (MX.out.bw hb9); replace HBW := Lib.hid (HBW.out.trans hb9); clear hb9; clear k0 k1 k2 k3 k4 k5 k6 k7 k8; clear c0 c1 c2; have k0 : w4.cell? ⟨wc.heap.size, 0, none⟩ = some (.int .i64 (x 0)) := CKA.out _ MX.out 0 (by omega); have k1 : w4.cell? ⟨wc.heap.size, 1, none⟩ = some (.int .i64 (x 1)) := CKA.out _ MX.out 1 (by omega); have k2 : w4.cell? ⟨wc.heap.size, 2, none⟩ = some (.int .i64 (x 2)) := CKA.out _ MX.out 2 (by omega); have k3 : w4.cell? ⟨wc.heap.size, 3, none⟩ = some (.int .i64 (x 3)) := CKA.out _ MX.out 3 (by omega); have k4 : w4.cell? ⟨wc.heap.size, 4, none⟩ = some (.int .i64 (x 4)) := CKA.out _ MX.out 4 (by omega); have k5 : w4.cell? ⟨wc.heap.size, 5, none⟩ = some (.int .i64 (x 5)) := CKA.out _ MX.out 5 (by omega); have k6 : w4.cell? ⟨wc.heap.size, 6, none⟩ = some (.int .i64 (x 6)) := CKA.out _ MX.out 6 (by omega); have k7 : w4.cell? ⟨wc.heap.size, 7, none⟩ = some (.int .i64 (x 7)) := CKA.out _ MX.out 7 (by omega); have k8 : w4.cell? ⟨wc.heap.size, 8, none⟩ = some (.int .i64 (x 8)) := CKA.out _ MX.out 8 (by omega); have c0 : w4.cell? ⟨w.heap.size, 0, none⟩ = some (.int .i64 t) := KX.out.cell rfl; have c1 : w4.cell? ⟨w.heap.size, 1, none⟩ = some (.int .i64 5) := KX.out.cell rfl; have c2 : w4.cell? ⟨w.heap.size, 2, none⟩ = some (.slice (some ⟨db, dof, none⟩) 206 c) := by rw [← q4]; exact KX.out.cell rfl) | ((with_reducible refine at_store 25 (.tmp 2) (.tmp 64) ?_); refine wpList_store_row rfl 25 (.tmp 2) (.tmp 64) rfl (w.heap.size + 1) #[.int .i64 0, .int .i64 0, .int .i64 0, .int .i64 0, .int .i64 0, .int .i64 0, .int .i64 0, .int .i64 0, .int .i64 0] rfl rfl 25 _ RX0.out (by kernel_rfl) rfl (by simp [Value.oneCell']) ?_))
          have F3 := RX0.out.row #[.int .i64 0, .int .i64 0, .int .i64 0, .int .i64 0, .int .i64 0, .int .i64 0, .int .i64 0, .int .i64 0, .int .i64 0]
          have B3 := Bw.setRow HBW.out (show w.heap.size ≤ w.heap.size + 1 by omega) #[.int .i64 0, .int .i64 0, .int .i64 0, .int .i64 0, .int .i64 0, .int .i64 0, .int .i64 0, .int .i64 0, .int .i64 0]
          have m0 := F3.cell (j := 0) (v := .int .i64 0) rfl
          have m1 := F3.cell (j := 1) (v := .int .i64 0) rfl
          have m2 := F3.cell (j := 2) (v := .int .i64 0) rfl
          have m3 := F3.cell (j := 3) (v := .int .i64 0) rfl
          have m4 := F3.cell (j := 4) (v := .int .i64 0) rfl
          have m5 := F3.cell (j := 5) (v := .int .i64 0) rfl
          have m6 := F3.cell (j := 6) (v := .int .i64 0) rfl
          have m7 := F3.cell (j := 7) (v := .int .i64 0) rfl
          have m8 := F3.cell (j := 8) (v := .int .i64 0) rfl
          generalize World.setRow w4 _ _ = WF at m0 m1 m2 m3 m4 m5 m6 m7 m8 B3 ⊢
          clear F3
          refine bodyPost_ret (v := .tuple #[.agg #[.int .i64 0, .int .i64 0, .int .i64 0, .int .i64 0, .int .i64 0, .int .i64 0, .int .i64 0, .int .i64 0, .int .i64 0], .int .i64 3]) ?_ rfl ⟨?_, B3⟩
          · simp [results, Try.results20, go_sem, m0, m1, m2, m3, m4, m5, m6, m7, m8]
          · have h9 := HNO.out (by unfold RdOk; intro h; have h1 := HA.out; rw [h.2.2.2.2.2.2] at h1; cases h1); rw [h9.1, h9.2]; rfl
        | false =>
          have HA := Lib.hid hany
          rw [hany] at TL
          clear hany
          go_wp2_with (first | (go_at_call 13; (with_reducible refine Calls.mono (CK.out _) ?_); rintro e1 w3 ⟨rfl, hb9⟩; replace KX := Lib.hid (KX.out.bw hb9); replace RX0 := Lib.hid (RX0.out.bw hb9); replace MX := Lib.hid (MX.out.bw hb9); replace HBW := Lib.hid (HBW.out.trans hb9); clear hb9; clear k0 k1 k2 k3 k4 k5 k6 k7 k8; clear c0 c1 c2; have k0 : w3.cell? ⟨wc.heap.size, 0, none⟩ = some (.int .i64 (x 0)) := CKA.out _ MX.out 0 (by omega); have k1 : w3.cell? ⟨wc.heap.size, 1, none⟩ = some (.int .i64 (x 1)) := CKA.out _ MX.out 1 (by omega); have k2 : w3.cell? ⟨wc.heap.size, 2, none⟩ = some (.int .i64 (x 2)) := CKA.out _ MX.out 2 (by omega); have k3 : w3.cell? ⟨wc.heap.size, 3, none⟩ = some (.int .i64 (x 3)) := CKA.out _ MX.out 3 (by omega); have k4 : w3.cell? ⟨wc.heap.size, 4, none⟩ = some (.int .i64 (x 4)) := CKA.out _ MX.out 4 (by omega); have k5 : w3.cell? ⟨wc.heap.size, 5, none⟩ = some (.int .i64 (x 5)) := CKA.out _ MX.out 5 (by omega); have k6 : w3.cell? ⟨wc.heap.size, 6, none⟩ = some (.int .i64 (x 6)) := CKA.out _ MX.out 6 (by omega); have k7 : w3.cell? ⟨wc.heap.size, 7, none⟩ = some (.int .i64 (x 7)) := CKA.out _ MX.out 7 (by omega); have k8 : w3.cell? ⟨wc.heap.size, 8, none⟩ = some (.int .i64 (x 8)) := CKA.out _ MX.out 8 (by omega); have c0 : w3.cell? ⟨w.heap.size, 0, none⟩ = some (.int .i64 t) := KX.out.cell rfl; have c1 : w3.cell? ⟨w.heap.size, 1, none⟩ = some (.int .i64 5) := KX.out.cell rfl; have c2 : w3.cell? ⟨w.heap.size, 2, none⟩ = some (.slice (some ⟨db, dof, none⟩) 206 c) := by rw [← q4]; exact KX.out.cell rfl) | (go_at_call 43; (with_reducible refine Calls.mono (TL.out _ _ ?_) ?_); (focus exact rdI_drop (HV.out.mono HBW.out) 187 (by omega)); rintro e1 w4 ⟨rfl, hb9⟩; replace KX := Lib.hid (KX.out.bw hb9); replace RX0 := Lib.hid (RX0.out.bw hb9); replace MX := Lib.hid (MX.out.bw hb9); replace HBW := Lib.hid (HBW.out.trans hb9); clear hb9; clear k0 k1 k2 k3 k4 k5 k6 k7 k8; clear c0 c1 c2; have k0 : w4.cell? ⟨wc.heap.size, 0, none⟩ = some (.int .i64 (x 0)) := CKA.out _ MX.out 0 (by omega); have k1 : w4.cell? ⟨wc.heap.size, 1, none⟩ = some (.int .i64 (x 1)) := CKA.out _ MX.out 1 (by omega); have k2 : w4.cell? ⟨wc.heap.size, 2, none⟩ = some (.int .i64 (x 2)) := CKA.out _ MX.out 2 (by omega); have k3 : w4.cell? ⟨wc.heap.size, 3, none⟩ = some (.int .i64 (x 3)) := CKA.out _ MX.out 3 (by omega); have k4 : w4.cell? ⟨wc.heap.size, 4, none⟩ = some (.int .i64 (x 4)) := CKA.out _ MX.out 4 (by omega); have k5 : w4.cell? ⟨wc.heap.size, 5, none⟩ = some (.int .i64 (x 5)) := CKA.out _ MX.out 5 (by omega); have k6 : w4.cell? ⟨wc.heap.size, 6, none⟩ = some (.int .i64 (x 6)) := CKA.out _ MX.out 6 (by omega); have k7 : w4.cell? ⟨wc.heap.size, 7, none⟩ = some (.int .i64 (x 7)) := CKA.out _ MX.out 7 (by omega); have k8 : w4.cell? ⟨wc.heap.size, 8, none⟩ = some (.int .i64 (x 8)) := CKA.out _ MX.out 8 (by omega); have c0 : w4.cell? ⟨w.heap.size, 0, none⟩ = some (.int .i64 t) := KX.out.cell rfl; have c1 : w4.cell? ⟨w.heap.size, 1, none⟩ = some (.int .i64 5) := KX.out.cell rfl; have c2 : w4.cell? ⟨w.heap.size, 2, none⟩ = some (.slice (some ⟨db, dof, none⟩) 206 c) := by rw [← q4]; exact KX.out.cell rfl) | ((with_reducible refine at_store 25 (.tmp 2) (.tmp 65) ?_); refine wpList_store_row rfl 25 (.tmp 2) (.tmp 65) rfl (w.heap.size + 1) #[.int .i64 (x 0), .int .i64 (x 1), .int .i64 (x 2), .int .i64 (x 3), .int .i64 (x 4), .int .i64 (x 5), .int .i64 (x 6), .int .i64 (x 7), .int .i64 (x 8)] rfl rfl 25 _ RX0.out (by kernel_rfl) rfl (by simp [Value.oneCell']) ?_))
          have F3 := RX0.out.row #[.int .i64 (x 0), .int .i64 (x 1), .int .i64 (x 2), .int .i64 (x 3), .int .i64 (x 4), .int .i64 (x 5), .int .i64 (x 6), .int .i64 (x 7), .int .i64 (x 8)]
          have B3 := Bw.setRow HBW.out (show w.heap.size ≤ w.heap.size + 1 by omega) #[.int .i64 (x 0), .int .i64 (x 1), .int .i64 (x 2), .int .i64 (x 3), .int .i64 (x 4), .int .i64 (x 5), .int .i64 (x 6), .int .i64 (x 7), .int .i64 (x 8)]
          have m0 := F3.cell (j := 0) (v := .int .i64 (x 0)) rfl
          have m1 := F3.cell (j := 1) (v := .int .i64 (x 1)) rfl
          have m2 := F3.cell (j := 2) (v := .int .i64 (x 2)) rfl
          have m3 := F3.cell (j := 3) (v := .int .i64 (x 3)) rfl
          have m4 := F3.cell (j := 4) (v := .int .i64 (x 4)) rfl
          have m5 := F3.cell (j := 5) (v := .int .i64 (x 5)) rfl
          have m6 := F3.cell (j := 6) (v := .int .i64 (x 6)) rfl
          have m7 := F3.cell (j := 7) (v := .int .i64 (x 7)) rfl
          have m8 := F3.cell (j := 8) (v := .int .i64 (x 8)) rfl
          generalize World.setRow w4 _ _ = WF at m0 m1 m2 m3 m4 m5 m6 m7 m8 B3 ⊢
          clear F3
          refine bodyPost_ret (v := .tuple #[.agg #[.int .i64 (x 0), .int .i64 (x 1), .int .i64 (x 2), .int .i64 (x 3), .int .i64 (x 4), .int .i64 (x 5), .int .i64 (x 6), .int .i64 (x 7), .int .i64 (x 8)], .int .i64 0]) ?_ rfl ⟨?_, B3⟩
          · simp [results, Try.results20, go_sem, m0, m1, m2, m3, m4, m5, m6, m7, m8]
          · have h9 := HYE.out (by unfold RdOk; exact ⟨rfl, by omega, by omega, q4, rfl, HQ.out, HA.out⟩); rw [h9.1, h9.2]; rfl
end Go.Proofs.Sky

namespace Go.Proofs.Sky
open Go Go.RowKit Go.Shelf
/-! plain: what Put writes Get reads -/
theorem lt_of_mul_near {r b u : Int} (hu : 1 ≤ u) (h : 2 * (r * u - b * u) ≤ u) : r ≤ b := by
  rcases Int.lt_or_le b r with h1 | h1
  · have h2 : (b + 1) * u ≤ r * u := Int.mul_le_mul_of_nonneg_right (by omega) (by omega)
    rw [Int.add_mul] at h2
    omega
  · exact h1
theorem rawN_exact (q u : Int) (hu : 1 ≤ u) : rawN (q * u) u = q := by
  obtain ⟨h1, h2⟩ := rawN_near (q * u) u hu
  have := lt_of_mul_near hu h1
  have := lt_of_mul_near hu h2
  omega
theorem rawN_range (d u lo hi : Int) (hu : 1 ≤ u) (h1 : lo * u ≤ d) (h2 : d ≤ hi * u) : lo ≤ rawN d u ∧ rawN d u ≤ hi := by
  obtain ⟨n1, n2⟩ := rawN_near d u hu
  constructor
  · exact lt_of_mul_near hu (by omega)
  · exact lt_of_mul_near hu (by omega)
theorem low_lt_high (n : Int) (g : Bool) (h1 : 1 ≤ n) : lowR n g + 1 ≤ highR n g := by
  unfold lowR highR
  have hp := pow_pred n h1
  have := pow_pos' (n.toNat - 1)
  cases g
  · simp; omega
  · simp; omega
theorem emod_step (y M : Int) (hM : 0 < M) : y % (2 * M) = 2 * (y / 2 % M) + y % 2 := by
  have h1 := Int.emod_add_mul_ediv y 2
  have h2 := Int.emod_add_mul_ediv (y / 2) M
  have h3 := Int.emod_nonneg (y / 2) (show M ≠ 0 by omega)
  have h4 := Int.emod_lt_of_pos (y / 2) hM
  have h5 := Int.emod_nonneg y (show (2 : Int) ≠ 0 by omega)
  have h6 := Int.emod_lt_of_pos y (show (0 : Int) < 2 by omega)
  have e : y = 2 * (y / 2 % M) + y % 2 + (2 * M) * (y / 2 / M) := by
    have : (2 * M) * (y / 2 / M) = 2 * (M * (y / 2 / M)) := by rw [Int.mul_assoc]
    omega
  generalize y / 2 % M = r at *
  generalize y % 2 = s at *
  rw [e, Int.add_mul_emod_self_left]
  exact Int.emod_eq_of_lt (by omega) (by omega)
theorem getN_put (zs : List Int) (A N : Nat) (x : Int) (h : A + N ≤ zs.length) : ∀ k, k ≤ N → getN (putL zs A N x N) A k = x / 2 ^ (N - k) % 2 ^ k := by
  intro k
  induction k with
  | zero => intro _; simp [getN]
  | succ k ih =>
    intro hk
    have hs : getN (putL zs A N x N) A (k + 1) = 2 * getN (putL zs A N x N) A k + (putL zs A N x N).getD (A + k) 0 := rfl
    rw [hs, ih (by omega), putL_get _ _ _ _ _ _ h, if_pos (by omega), show N - 1 - (A + k - A) = N - (k + 1) by omega]
    unfold bitN
    have e := bitN_step x (N - (k + 1))
    rw [show N - (k + 1) + 1 = N - k by omega] at e
    rw [← e, Int.pow_succ, Int.mul_comm (2 ^ k) 2, emod_step _ _ (pow_pos' k)]
theorem getN_put_all (zs : List Int) (A N : Nat) (x : Int) (h : A + N ≤ zs.length) : getN (putL zs A N x N) A N = x % 2 ^ N := by
  rw [getN_put zs A N x h N (Nat.le_refl _)]; simp
theorem sgnV_put (N : Nat) (g : Bool) (x : Int) (hN : 1 ≤ N) (h1 : lowR N g ≤ x) (h2 : x ≤ highR N g) : sgnV N g (x % 2 ^ N) = x := by
  unfold lowR at h1
  unfold highR at h2
  simp only [Int.toNat_natCast] at h1 h2
  have hp : (2 : Int) ^ N = 2 * 2 ^ (N - 1) := by have := pow_pred N (by omega); simpa using this
  have h0 := pow_pos' (N - 1)
  unfold sgnV sx
  rw [hp] at h2 ⊢
  generalize (2 : Int) ^ (N - 1) = P at *
  cases g
  · simp at h1 h2 ⊢
    exact Int.emod_eq_of_lt h1 (by omega)
  · simp at h1 h2 ⊢
    rcases Int.lt_or_le x 0 with hx | hx
    · have e : x % (2 * P) = x + 2 * P := by
        rw [← Int.add_emod_right]; exact Int.emod_eq_of_lt (by omega) (by omega)
      rw [e, if_pos (by omega)]; omega
    · have e : x % (2 * P) = x := Int.emod_eq_of_lt hx (by omega)
      rw [e, if_neg (by omega)]
theorem putL_twice (zs : List Int) (A N : Nat) (x : Int) (h : A + N ≤ zs.length) : putL (putL zs A N x N) A N x N = putL zs A N x N := by
  apply list_eq_getD (by rw [putL_length])
  intro i hi
  rw [putL_get _ _ _ _ _ _ (by rw [putL_length]; exact h)]
  by_cases hk : A ≤ i ∧ i < A + N
  · rw [if_pos hk, putL_get _ _ _ _ _ _ h, if_pos hk]
  · rw [if_neg hk]
/-- a field, bits that are all 0 or 1, and a value: what Put and Get do -/
theorem back_plain (zs : List Int) (A N : Nat) (g : Bool) (u c v : Int) (hf : fk A N u c) (hz : A + N ≤ zs.length) (hb : ∀ i, zs.getD i 0 = 0 ∨ zs.getD i 0 = 1) (hv : -2000000000000000000 ≤ v ∧ v ≤ 2000000000000000000) :
    (rawB N g u c v = false ∧ errP zs A N g u c v = 5 ∧ putR zs A N g u c v = [] ∧ (v < c + lowR N g * u ∨ c + highR N g * u < v)) ∨
    (∃ q out, errP zs A N g u c v = 0 ∧ putR zs A N g u c v = out ∧ out.length = zs.length ∧ (∀ i, ¬ (A ≤ i ∧ i < A + N) → out.getD i 0 = zs.getD i 0) ∧ errT out A N u c = 0 ∧ getV out A N g u c = c + q * u ∧ errP out A N g u c (c + q * u) = 0 ∧ putR out A N g u c (c + q * u) = out ∧
      lowR N g ≤ q ∧ q ≤ highR N g ∧ 2 * (c + q * u - v) ≤ u ∧ 2 * (v - (c + q * u)) ≤ u ∧ 2 * (c + lowR N g * u - v) ≤ u ∧ 2 * (v - (c + highR N g * u)) ≤ u) := by
  obtain ⟨f1, f2, f3, f4, f5, f6, f7, f8, f9⟩ := hf
  have hfk : fk A N u c := ⟨f1, f2, f3, f4, f5, f6, f7, f8, f9⟩
  have hT : errT zs A N u c = 0 := by
    unfold errT
    rw [if_pos (errF_ok hfk), if_neg (by omega), if_pos ((oksP_iff _ _ _).2 (fun i _ => hb _))]
  have hin := (inV_iff v).2 hv
  have hN : 1 ≤ N := by omega
  cases hB : rawB N g u c v with
  | false =>
    left
    have hB2 := hB
    rw [rawB_in hin, decide_eq_false_iff_not] at hB2
    have he : errP zs A N g u c v = 5 := by unfold errP; rw [if_pos hT, hB, if_neg (by simp)]
    refine ⟨rfl, he, by unfold putR; rw [he, if_neg (by omega)], ?_⟩
    rcases Int.lt_or_le v (c + lowR N g * u) with h | h
    · exact .inl h
    · rcases Int.lt_or_le (c + highR N g * u) v with h' | h'
      · exact .inr h'
      · exact absurd (rawN_range (v - c) u _ _ f6 (by omega) (by omega)) hB2
  | true =>
    right
    have hB2 := hB
    rw [rawB_in hin, decide_eq_true_iff] at hB2
    obtain ⟨q1, q2⟩ := hB2
    have ⟨n1, n2⟩ := rawN_near (v - c) u f6
    have he : errP zs A N g u c v = 0 := by unfold errP; rw [if_pos hT, hB, if_pos rfl]
    have hrV : rawV u c v = rawN (v - c) u := rawV_in hin
    have hput : putR zs A N g u c v = putL zs A N (rawN (v - c) u) N := by unfold putR; rw [if_pos he, hrV]; simp
    generalize rawN (v - c) u = q at *
    have hlen : (putL zs A N q N).length = zs.length := putL_length _ _ _ _ _
    have hbits : ∀ i, i < N → (putL zs A N q N).getD (A + i) 0 = 0 ∨ (putL zs A N q N).getD (A + i) 0 = 1 := fun i hi => by
      rw [putL_get _ _ _ _ _ _ hz, if_pos (by omega)]; exact bitN_01 _ _
    have hT2 : errT (putL zs A N q N) A N u c = 0 := by
      unfold errT
      rw [if_pos (errF_ok hfk), if_neg (by rw [hlen]; omega), if_pos ((oksP_iff _ _ _).2 (by simpa using hbits))]
    have hl := lowR_bd N g (by omega) (by omega)
    have hh := highR_bd N g (by omega) (by omega)
    have hmul := mul_bd q u (by omega) (by omega) f6 f7
    have hin2 : inV (c + q * u) = true := (inV_iff _).2 (by omega)
    have hraw : rawN (c + q * u - c) u = q := by rw [show c + q * u - c = q * u by omega]; exact rawN_exact q u f6
    have hB3 : rawB N g u c (c + q * u) = true := by rw [rawB_in hin2, hraw, decide_eq_true_iff]; exact ⟨q1, q2⟩
    have he2 : errP (putL zs A N q N) A N g u c (c + q * u) = 0 := by unfold errP; rw [if_pos hT2, hB3, if_pos rfl]
    have hput2 : putR (putL zs A N q N) A N g u c (c + q * u) = putL zs A N q N := by
      unfold putR; rw [if_pos he2, rawV_in hin2, hraw]; simp only [Int.toNat_natCast]; exact putL_twice zs A N q hz
    have hm1 : lowR N g * u ≤ q * u := Int.mul_le_mul_of_nonneg_right q1 (by omega)
    have hm2 : q * u ≤ highR N g * u := Int.mul_le_mul_of_nonneg_right q2 (by omega)
    refine ⟨q, _, he, hput, hlen, fun i hi => ?_, hT2, ?_, he2, hput2, q1, q2, by omega, by omega, by omega, by omega⟩
    · rw [putL_get _ _ _ _ _ _ hz, if_neg hi]
    · unfold getV
      rw [getN_put_all _ _ _ _ hz, sgnV_put N g q hN q1 q2]
end Go.Proofs.Sky
