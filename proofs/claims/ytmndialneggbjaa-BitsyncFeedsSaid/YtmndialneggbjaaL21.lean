/-
  lemmas for the theorems of this claim. No conditions beyond those written in the statements.
-/
import Derived.Test.YtmndialneggbjaaK21
import Derived.Test.YtmndialneggbjaaD21
import Derived.Deep.Cut
set_option linter.unusedVariables false
set_option linter.unusedSimpArgs false
set_option linter.unnecessarySimpa false
namespace Go.Proofs.Sky
open Go Go.RowKit Go.Shelf
set_option maxHeartbeats 4000000
set_option maxRecDepth 4000
section
variable {P : Program} {ops : Array Oper} {Q : Exit → Act → World → Prop}
theorem wp_alloc_new {o : Oper} {a : Act} {w : World} {K : Act → World → Prop} (ty : TypeId) (ho : o.op = .alloc ty) (dst : Option Tmp) (hd : o.dst = dst) (cs : Array Value) (hz : (zeroValue ty).run P w = .ok (.agg cs) w)
    (h : ∀ g w', w.heap.size ≤ g → Blk w' g ty cs → Bw w w' → K (a.put dst (.pointer (some ⟨g, 0, none⟩))) w') : o.wp P a w K Q :=
  wp_alloc_agg ty ho dst hd cs hz (h _ _ (Nat.le_refl _) (Blk.new w ty cs) (Bw.alloc (Bw.refl w) _))
end
def Off (g : Nat) (v : Value) (zs : List Int) : Prop := zs = [] ∨ ∀ b, v.ownBlock = some b → b ≠ g
theorem RdI.off {w : World} {v : Value} {zs : List Int} (h : RdI w v zs) {g : Nat} (hg : w.heap.size ≤ g) : Off g v zs := by
  obtain ⟨_, a, cap, rfl, h4⟩ := h
  rcases h4 with h4 | ⟨b, off, rfl, h6, _⟩
  · exact .inl h4
  · exact .inr (fun b' e => by simp [Value.ownBlock] at e; omega)
theorem Fresh.off {base g : Nat} {v : Value} (h : Fresh base v) (hg : g < base) (zs : List Int) : Off g v zs := .inr (fun b e => by have := h b e; omega)
theorem RdI.rowOff {w : World} {v : Value} {zs : List Int} (h : RdI w v zs) {g : Nat} (ho : Off g v zs) (cs : Array Value) : RdI (w.setRow g cs) v zs := by
  obtain ⟨h2, a, cap, rfl, h4⟩ := h
  refine ⟨h2, a, cap, rfl, ?_⟩
  rcases h4 with h4 | ⟨b', off, rfl, h6, h7⟩
  · exact .inl h4
  · rcases ho with ho | ho
    · exact .inl ho
    · have := ho b' rfl
      refine .inr ⟨b', off, rfl, by simpa using h6, fun i hi => ?_⟩
      rw [World.cell?_of_block (setRow_other w g b' cs this)]; exact h7 i hi
theorem zeroSy (w : World) : (zeroValue 36).run Try.prog w = .ok (.agg #[.slice none 0 0, .int .i64 0, .int .i64 0, .int .i64 0]) w := by kernel_rfl
theorem RdI.litN (w : World) (cs : Array Value) (t : TypeId) (zs : List Int) (n : Nat) (hn : w.heap.size = n) (h : cs.toList = zs.map (Value.int .i64)) (hl : zs.length ≤ 9223372036854775807) : RdI (w.alloc (.cells cs t)) (.slice (some ⟨n, 0, none⟩) zs.length zs.length) zs := by
  subst hn; exact RdI.lit w cs t zs h hl
theorem awake_any (w : World) : Calls Try.prog 9 #[] w fun r w' => r = .returned (.bool true) ∧ Bw w w' := by
  have HN := Lib.hid (fun W => New_ok 2 W (by decide) (by decide))
  unfold SyP at HN
  have HFD := Lib.hid (fun W V vl (h1 : RdI W V [0, 0]) (h2 : RdS W vl (reL [1, 1, -1, -1, 1])) => by
    have h := Feed_any [0, 0] V 0 0 0 (reL [1, 1, -1, -1, 1]) vl W h1 h2
    rw [show feedR [0, 0] 0 (0, 0) (reL [1, 1, -1, -1, 1]) = (([2, 0], 5, (1, 0)), 0) by decide] at h
    unfold SyP at h
    exact h)
  have HRD := Lib.hid (fun W vl (h1 : RdS W vl (reL [1, 1, -1, -1, 1])) (h2 : Capd vl) => by
    have h := Read_any (reL [1, 1, -1, -1, 1]) vl 2 0 W h1 h2 (by decide)
    rw [show readR (reL [1, 1, -1, -1, 1]) 2 0 = ([0, 1], 0) by decide] at h
    unfold ReP at h
    exact h)
  go_enter Try.func9, Try.ntmps9
  go_upto_region 2 with (go_at_call 16; (with_reducible refine Calls.mono (HN.out _) ?_); rintro e1 u1 ⟨⟨v1, rfl, hr1, _⟩, hb1⟩; obtain ⟨a1, c1, rfl⟩ := hr1.form; have R1 := Lib.hid hr1; clear hr1)
  have BX := Lib.hid (Blk.new u1 36 #[.slice a1 2 c1, .int .i64 0, .int .i64 0, .int .i64 0])
  have HBW := Lib.hid (Bw.alloc hb1 (.cells #[.slice a1 2 c1, .int .i64 0, .int .i64 0, .int .i64 0] 36))
  replace R1 := Lib.hid (show RdI (u1.alloc (.cells #[.slice a1 2 c1, .int .i64 0, .int .i64 0, .int .i64 0] 36)) (.slice a1 2 c1) [0, 0] from R1.out.mono (Bw.alloc (Bw.refl _) _))
  obtain ⟨g1, hg1⟩ : ∃ g1, u1.heap.size = g1 := ⟨_, rfl⟩
  rw [hg1] at BX ⊢
  clear hg1 hb1
  generalize u1.alloc _ = u2 at BX HBW R1 ⊢
  go_cut [3, 4] from 11 (fun s3 s4 wc => ∃ g3 a5 c5, s3 = .pointer (some ⟨g3, 0, none⟩) ∧ s4 = .int .i64 0 ∧ Hid (Bw u2 wc) ∧ Hid (Blk wc g3 36 #[.slice a5 2 c5, .int .i64 5, .int .i64 1, .int .i64 0]) ∧ Hid (RdI wc (.slice a5 2 c5) [2, 0]))
  case first =>
    refine wp_region_held_drew (S := Bw u2) (by kernel_rfl) (Bw.drew (Bw.refl _)) (fun hS => ?_)
    generalize World.drew _ = wd at hS ⊢
    refine take1 (i := 0) (some 12) rfl rfl (by kernel_rfl) (by kernel_rfl) (by kernel_rfl) (fun _ _ _ _ h => h) rfl hS ?_
    apply Exists.intro
    apply And.intro
    · intro W9 hW9; skip; exact run_load_row 36 _ rfl g1 rfl 36 _ _ (BX.out.bw hW9) Try.underlying36 rfl (by kernel_rfl)
    simp only [Act.put, List.setIfInBounds_toArray, List.set_cons_zero, List.set_cons_succ]
    refine wpAnyH_ready (rs := [1, 7]) (by kernel_rfl) (by simp) ?_
    refine AllReadyH.cons rfl (fun K hK => ?_) ?_
    go_simp
    have hba := Bw.alloc (Bw.refl wd) (.cells #[.int .i64 1, .int .i64 1, .int .i64 (-1), .int .i64 (-1), .int .i64 1] 3)
    have HL := Lib.hid (RdI.lit wd #[.int .i64 1, .int .i64 1, .int .i64 (-1), .int .i64 (-1), .int .i64 1] 3 [1, 1, -1, -1, 1] (by rfl) (by decide))
    refine hK.out _ _ (hS.trans hba) (fun hS => ?_)
    clear hK K
    clear hba
    generalize World.alloc wd _ = w13 at hS HL ⊢
    refine wpAnyH_ready (rs := [2, 7]) (by kernel_rfl) (by simp) ?_
    refine AllReadyH.cons rfl (fun K hK => ?_) ?_
    go_simp
    go_wp2_with (go_at_call 19; (with_reducible refine Calls.mono (real_any [1, 1, -1, -1, 1] _ _ ?_ (by decide)) ?_); (focus exact HL.out); rintro e1 w14 ⟨⟨v14, rfl, hr14, _⟩, hb14⟩)
    have HR := Lib.hid hr14
    clear hr14
    refine hK.out _ _ (hS.trans hb14) (fun hS => ?_)
    clear hK K
    refine wpAnyH_ready (rs := [3, 7]) (by kernel_rfl) (by simp) ?_
    refine AllReadyH.cons rfl (fun K hK => ?_) ?_
    go_simp
    go_wp2_with (go_at_call 18; (with_reducible refine Calls.mono (HFD.out _ _ _ (R1.out.mono hS) HR.out) ?_); rintro e1 w15 ⟨⟨v15, rfl, hr15, hf15⟩, hb15⟩)
    obtain ⟨a5, c5, rfl⟩ := hr15.form
    have HD5 := Lib.hid hr15
    clear hr15 hf15
    refine hK.out _ _ (hS.trans hb15) (fun hS => ?_)
    clear hK K
    refine take1 (i := 4) (some 11) rfl rfl (by kernel_rfl) (by kernel_rfl) (by kernel_rfl) (fun _ _ _ _ h => h) rfl hS ?_
    apply Exists.intro
    apply And.intro
    · intro W9 hW9; skip; go_simp; try with_reducible rfl
    simp only [Act.put, List.setIfInBounds_toArray, List.set_cons_zero, List.set_cons_succ]
    refine take1 (i := 5) (some 16) rfl rfl (by kernel_rfl) (by kernel_rfl) (by kernel_rfl) (fun _ _ _ _ h => h) rfl hS ?_
    apply Exists.intro
    apply And.intro
    · intro W9 hW9; skip; go_simp; try with_reducible rfl
    simp only [Act.put, List.setIfInBounds_toArray, List.set_cons_zero, List.set_cons_succ]
    refine take1 (i := 6) (some 17) rfl rfl (by kernel_rfl) (by kernel_rfl) (by kernel_rfl) (fun _ _ _ _ h => h) rfl hS ?_
    apply Exists.intro
    apply And.intro
    · intro W9 hW9; skip; go_simp; try with_reducible rfl
    simp only [Act.put, List.setIfInBounds_toArray, List.set_cons_zero, List.set_cons_succ]
    refine wpAnyH_ready (rs := [7]) (by kernel_rfl) (by simp) ?_
    refine AllReadyH.cons rfl (fun K hK => ?_) ?_
    rw [if_pos (by rfl)]
    refine wp_alloc_new 36 rfl (some 3) rfl _ (zeroSy _) ?_
    intro g3 w7 hg3 hN hbw
    simp only [Act.put, List.setIfInBounds_toArray, List.set_cons_zero, List.set_cons_succ]
    have NB3 := Lib.hid hN
    have HG3 := Lib.hid (Nat.le_trans hS.size hg3)
    have NE3 := Lib.hid (HD5.out.off hg3)
    replace HD5 := Lib.hid (HD5.out.mono hbw)
    clear hN
    refine hK.out _ _ (hS.trans hbw) (fun hS => ?_)
    clear hK K
    refine wpAnyH_ready (rs := [8]) (by kernel_rfl) (by simp) ?_
    refine AllReadyH.cons rfl (fun K hK => ?_) ?_
    rw [if_pos (by rfl)]
    refine wp_store_row0 36 _ _ rfl rfl g3 #[.slice a5 [(2 : Int), 0].length c5, .int .i64 5, .int .i64 1, .int .i64 0] rfl rfl 36 #[.slice none 0 0, .int .i64 0, .int .i64 0, .int .i64 0] NB3.out (by kernel_rfl) rfl (by simp [Value.oneCell']) ?_
    replace NB3 := Lib.hid (NB3.out.row #[.slice a5 [(2 : Int), 0].length c5, .int .i64 5, .int .i64 1, .int .i64 0])
    replace HD5 := Lib.hid (HD5.out.rowOff NE3.out #[.slice a5 [(2 : Int), 0].length c5, .int .i64 5, .int .i64 1, .int .i64 0])
    refine hK.out _ _ (Bw.setRow hS HG3.out #[.slice a5 [(2 : Int), 0].length c5, .int .i64 5, .int .i64 1, .int .i64 0]) (fun hS => ?_)
    clear hK K
    refine take1 (i := 9) (some 4) rfl rfl (by kernel_rfl) (by kernel_rfl) (by kernel_rfl) (fun _ _ _ _ h => h) rfl hS ?_
    apply Exists.intro
    apply And.intro
    · intro W9 hW9; skip; go_simp; try with_reducible rfl
    simp only [Act.put, List.setIfInBounds_toArray, List.set_cons_zero, List.set_cons_succ]
    refine wpAnyH_done (by kernel_rfl) ?_ _
    rotate_left
    exact AllReadyH.nil
    exact AllReadyH.nil
    refine AllReadyH.cons rfl (fun K hK => ?_) ?_
    rw [if_pos (by rfl)]
    refine wp_alloc_new 36 rfl (some 3) rfl _ (zeroSy _) ?_
    intro g3 w7 hg3 hN hbw
    simp only [Act.put, List.setIfInBounds_toArray, List.set_cons_zero, List.set_cons_succ]
    have NB3 := Lib.hid hN
    have HG3 := Lib.hid (Nat.le_trans hS.size hg3)
    replace HR := Lib.hid (HR.out.mono hbw)
    clear hN
    refine hK.out _ _ (hS.trans hbw) (fun hS => ?_)
    clear hK K
    refine wpAnyH_ready (rs := [3]) (by kernel_rfl) (by simp) ?_
    refine AllReadyH.cons rfl (fun K hK => ?_) ?_
    go_simp
    go_wp2_with (go_at_call 18; (with_reducible refine Calls.mono (HFD.out _ _ _ (R1.out.mono hS) HR.out) ?_); rintro e1 w15 ⟨⟨v15, rfl, hr15, hf15⟩, hb15⟩)
    obtain ⟨a5, c5, rfl⟩ := hr15.form
    have NE3 := Lib.hid (hf15.off NB3.out.lt [2, 0])
    replace NB3 := Lib.hid (NB3.out.bw hb15)
    have HD5 := Lib.hid hr15
    clear hr15 hf15
    refine hK.out _ _ (hS.trans hb15) (fun hS => ?_)
    clear hK K
    refine take1 (i := 4) (some 11) rfl rfl (by kernel_rfl) (by kernel_rfl) (by kernel_rfl) (fun _ _ _ _ h => h) rfl hS ?_
    apply Exists.intro
    apply And.intro
    · intro W9 hW9; skip; go_simp; try with_reducible rfl
    simp only [Act.put, List.setIfInBounds_toArray, List.set_cons_zero, List.set_cons_succ]
    refine take1 (i := 5) (some 16) rfl rfl (by kernel_rfl) (by kernel_rfl) (by kernel_rfl) (fun _ _ _ _ h => h) rfl hS ?_
    apply Exists.intro
    apply And.intro
    · intro W9 hW9; skip; go_simp; try with_reducible rfl
    simp only [Act.put, List.setIfInBounds_toArray, List.set_cons_zero, List.set_cons_succ]
    refine take1 (i := 6) (some 17) rfl rfl (by kernel_rfl) (by kernel_rfl) (by kernel_rfl) (fun _ _ _ _ h => h) rfl hS ?_
    apply Exists.intro
    apply And.intro
    · intro W9 hW9; skip; go_simp; try with_reducible rfl
    simp only [Act.put, List.setIfInBounds_toArray, List.set_cons_zero, List.set_cons_succ]
    refine wpAnyH_ready (rs := [8]) (by kernel_rfl) (by simp) ?_
    refine AllReadyH.cons rfl (fun K hK => ?_) ?_
    rw [if_pos (by rfl)]
    refine wp_store_row0 36 _ _ rfl rfl g3 #[.slice a5 [(2 : Int), 0].length c5, .int .i64 5, .int .i64 1, .int .i64 0] rfl rfl 36 #[.slice none 0 0, .int .i64 0, .int .i64 0, .int .i64 0] NB3.out (by kernel_rfl) rfl (by simp [Value.oneCell']) ?_
    replace NB3 := Lib.hid (NB3.out.row #[.slice a5 [(2 : Int), 0].length c5, .int .i64 5, .int .i64 1, .int .i64 0])
    replace HD5 := Lib.hid (HD5.out.rowOff NE3.out #[.slice a5 [(2 : Int), 0].length c5, .int .i64 5, .int .i64 1, .int .i64 0])
    refine hK.out _ _ (Bw.setRow hS HG3.out #[.slice a5 [(2 : Int), 0].length c5, .int .i64 5, .int .i64 1, .int .i64 0]) (fun hS => ?_)
    clear hK K
    refine take1 (i := 9) (some 4) rfl rfl (by kernel_rfl) (by kernel_rfl) (by kernel_rfl) (fun _ _ _ _ h => h) rfl hS ?_
    apply Exists.intro
    apply And.intro
    · intro W9 hW9; skip; go_simp; try with_reducible rfl
    simp only [Act.put, List.setIfInBounds_toArray, List.set_cons_zero, List.set_cons_succ]
    refine wpAnyH_done (by kernel_rfl) ?_ _
    rotate_left
    exact AllReadyH.nil
    exact AllReadyH.nil
    exact AllReadyH.nil
    refine AllReadyH.cons rfl (fun K hK => ?_) ?_
    rw [if_pos (by rfl)]
    refine wp_alloc_new 36 rfl (some 3) rfl _ (zeroSy _) ?_
    intro g3 w7 hg3 hN hbw
    simp only [Act.put, List.setIfInBounds_toArray, List.set_cons_zero, List.set_cons_succ]
    have NB3 := Lib.hid hN
    have HG3 := Lib.hid (Nat.le_trans hS.size hg3)
    replace HL := Lib.hid (HL.out.mono hbw)
    clear hN
    refine hK.out _ _ (hS.trans hbw) (fun hS => ?_)
    clear hK K
    refine wpAnyH_ready (rs := [2]) (by kernel_rfl) (by simp) ?_
    refine AllReadyH.cons rfl (fun K hK => ?_) ?_
    go_simp
    go_wp2_with (go_at_call 19; (with_reducible refine Calls.mono (real_any [1, 1, -1, -1, 1] _ _ ?_ (by decide)) ?_); (focus exact HL.out); rintro e1 w14 ⟨⟨v14, rfl, hr14, _⟩, hb14⟩)
    have HR := Lib.hid hr14
    clear hr14
    replace NB3 := Lib.hid (NB3.out.bw hb14)
    refine hK.out _ _ (hS.trans hb14) (fun hS => ?_)
    clear hK K
    refine wpAnyH_ready (rs := [3]) (by kernel_rfl) (by simp) ?_
    refine AllReadyH.cons rfl (fun K hK => ?_) ?_
    go_simp
    go_wp2_with (go_at_call 18; (with_reducible refine Calls.mono (HFD.out _ _ _ (R1.out.mono hS) HR.out) ?_); rintro e1 w15 ⟨⟨v15, rfl, hr15, hf15⟩, hb15⟩)
    obtain ⟨a5, c5, rfl⟩ := hr15.form
    have NE3 := Lib.hid (hf15.off NB3.out.lt [2, 0])
    replace NB3 := Lib.hid (NB3.out.bw hb15)
    have HD5 := Lib.hid hr15
    clear hr15 hf15
    refine hK.out _ _ (hS.trans hb15) (fun hS => ?_)
    clear hK K
    refine take1 (i := 4) (some 11) rfl rfl (by kernel_rfl) (by kernel_rfl) (by kernel_rfl) (fun _ _ _ _ h => h) rfl hS ?_
    apply Exists.intro
    apply And.intro
    · intro W9 hW9; skip; go_simp; try with_reducible rfl
    simp only [Act.put, List.setIfInBounds_toArray, List.set_cons_zero, List.set_cons_succ]
    refine take1 (i := 5) (some 16) rfl rfl (by kernel_rfl) (by kernel_rfl) (by kernel_rfl) (fun _ _ _ _ h => h) rfl hS ?_
    apply Exists.intro
    apply And.intro
    · intro W9 hW9; skip; go_simp; try with_reducible rfl
    simp only [Act.put, List.setIfInBounds_toArray, List.set_cons_zero, List.set_cons_succ]
    refine take1 (i := 6) (some 17) rfl rfl (by kernel_rfl) (by kernel_rfl) (by kernel_rfl) (fun _ _ _ _ h => h) rfl hS ?_
    apply Exists.intro
    apply And.intro
    · intro W9 hW9; skip; go_simp; try with_reducible rfl
    simp only [Act.put, List.setIfInBounds_toArray, List.set_cons_zero, List.set_cons_succ]
    refine wpAnyH_ready (rs := [8]) (by kernel_rfl) (by simp) ?_
    refine AllReadyH.cons rfl (fun K hK => ?_) ?_
    rw [if_pos (by rfl)]
    refine wp_store_row0 36 _ _ rfl rfl g3 #[.slice a5 [(2 : Int), 0].length c5, .int .i64 5, .int .i64 1, .int .i64 0] rfl rfl 36 #[.slice none 0 0, .int .i64 0, .int .i64 0, .int .i64 0] NB3.out (by kernel_rfl) rfl (by simp [Value.oneCell']) ?_
    replace NB3 := Lib.hid (NB3.out.row #[.slice a5 [(2 : Int), 0].length c5, .int .i64 5, .int .i64 1, .int .i64 0])
    replace HD5 := Lib.hid (HD5.out.rowOff NE3.out #[.slice a5 [(2 : Int), 0].length c5, .int .i64 5, .int .i64 1, .int .i64 0])
    refine hK.out _ _ (Bw.setRow hS HG3.out #[.slice a5 [(2 : Int), 0].length c5, .int .i64 5, .int .i64 1, .int .i64 0]) (fun hS => ?_)
    clear hK K
    refine take1 (i := 9) (some 4) rfl rfl (by kernel_rfl) (by kernel_rfl) (by kernel_rfl) (fun _ _ _ _ h => h) rfl hS ?_
    apply Exists.intro
    apply And.intro
    · intro W9 hW9; skip; go_simp; try with_reducible rfl
    simp only [Act.put, List.setIfInBounds_toArray, List.set_cons_zero, List.set_cons_succ]
    refine wpAnyH_done (by kernel_rfl) ?_ _
    rotate_left
    exact AllReadyH.nil
    exact AllReadyH.nil
    exact AllReadyH.nil
    exact AllReadyH.nil
    refine AllReadyH.cons rfl (fun K hK => ?_) ?_
    rw [if_pos (by rfl)]
    refine wp_alloc_new 36 rfl (some 3) rfl _ (zeroSy _) ?_
    intro g3 w7 hg3 hN hbw
    simp only [Act.put, List.setIfInBounds_toArray, List.set_cons_zero, List.set_cons_succ]
    have NB3 := Lib.hid hN
    have HG3 := Lib.hid (Nat.le_trans hS.size hg3)
    clear hN
    refine hK.out _ _ (hS.trans hbw) (fun hS => ?_)
    clear hK K
    refine wpAnyH_ready (rs := [1]) (by kernel_rfl) (by simp) ?_
    refine AllReadyH.cons rfl (fun K hK => ?_) ?_
    go_simp
    have hba := Bw.alloc (Bw.refl w7) (.cells #[.int .i64 1, .int .i64 1, .int .i64 (-1), .int .i64 (-1), .int .i64 1] 3)
    have HL := Lib.hid (RdI.lit w7 #[.int .i64 1, .int .i64 1, .int .i64 (-1), .int .i64 (-1), .int .i64 1] 3 [1, 1, -1, -1, 1] (by rfl) (by decide))
    replace NB3 := Lib.hid (NB3.out.bw hba)
    refine hK.out _ _ (hS.trans hba) (fun hS => ?_)
    clear hK K
    clear hba
    generalize World.alloc w7 _ = w13 at hS HL NB3 ⊢
    refine wpAnyH_ready (rs := [2]) (by kernel_rfl) (by simp) ?_
    refine AllReadyH.cons rfl (fun K hK => ?_) ?_
    go_simp
    go_wp2_with (go_at_call 19; (with_reducible refine Calls.mono (real_any [1, 1, -1, -1, 1] _ _ ?_ (by decide)) ?_); (focus exact HL.out); rintro e1 w14 ⟨⟨v14, rfl, hr14, _⟩, hb14⟩)
    have HR := Lib.hid hr14
    clear hr14
    replace NB3 := Lib.hid (NB3.out.bw hb14)
    refine hK.out _ _ (hS.trans hb14) (fun hS => ?_)
    clear hK K
    refine wpAnyH_ready (rs := [3]) (by kernel_rfl) (by simp) ?_
    refine AllReadyH.cons rfl (fun K hK => ?_) ?_
    go_simp
    go_wp2_with (go_at_call 18; (with_reducible refine Calls.mono (HFD.out _ _ _ (R1.out.mono hS) HR.out) ?_); rintro e1 w15 ⟨⟨v15, rfl, hr15, hf15⟩, hb15⟩)
    obtain ⟨a5, c5, rfl⟩ := hr15.form
    have NE3 := Lib.hid (hf15.off NB3.out.lt [2, 0])
    replace NB3 := Lib.hid (NB3.out.bw hb15)
    have HD5 := Lib.hid hr15
    clear hr15 hf15
    refine hK.out _ _ (hS.trans hb15) (fun hS => ?_)
    clear hK K
    refine take1 (i := 4) (some 11) rfl rfl (by kernel_rfl) (by kernel_rfl) (by kernel_rfl) (fun _ _ _ _ h => h) rfl hS ?_
    apply Exists.intro
    apply And.intro
    · intro W9 hW9; skip; go_simp; try with_reducible rfl
    simp only [Act.put, List.setIfInBounds_toArray, List.set_cons_zero, List.set_cons_succ]
    refine take1 (i := 5) (some 16) rfl rfl (by kernel_rfl) (by kernel_rfl) (by kernel_rfl) (fun _ _ _ _ h => h) rfl hS ?_
    apply Exists.intro
    apply And.intro
    · intro W9 hW9; skip; go_simp; try with_reducible rfl
    simp only [Act.put, List.setIfInBounds_toArray, List.set_cons_zero, List.set_cons_succ]
    refine take1 (i := 6) (some 17) rfl rfl (by kernel_rfl) (by kernel_rfl) (by kernel_rfl) (fun _ _ _ _ h => h) rfl hS ?_
    apply Exists.intro
    apply And.intro
    · intro W9 hW9; skip; go_simp; try with_reducible rfl
    simp only [Act.put, List.setIfInBounds_toArray, List.set_cons_zero, List.set_cons_succ]
    refine wpAnyH_ready (rs := [8]) (by kernel_rfl) (by simp) ?_
    refine AllReadyH.cons rfl (fun K hK => ?_) ?_
    rw [if_pos (by rfl)]
    refine wp_store_row0 36 _ _ rfl rfl g3 #[.slice a5 [(2 : Int), 0].length c5, .int .i64 5, .int .i64 1, .int .i64 0] rfl rfl 36 #[.slice none 0 0, .int .i64 0, .int .i64 0, .int .i64 0] NB3.out (by kernel_rfl) rfl (by simp [Value.oneCell']) ?_
    replace NB3 := Lib.hid (NB3.out.row #[.slice a5 [(2 : Int), 0].length c5, .int .i64 5, .int .i64 1, .int .i64 0])
    replace HD5 := Lib.hid (HD5.out.rowOff NE3.out #[.slice a5 [(2 : Int), 0].length c5, .int .i64 5, .int .i64 1, .int .i64 0])
    refine hK.out _ _ (Bw.setRow hS HG3.out #[.slice a5 [(2 : Int), 0].length c5, .int .i64 5, .int .i64 1, .int .i64 0]) (fun hS => ?_)
    clear hK K
    refine take1 (i := 9) (some 4) rfl rfl (by kernel_rfl) (by kernel_rfl) (by kernel_rfl) (fun _ _ _ _ h => h) rfl hS ?_
    apply Exists.intro
    apply And.intro
    · intro W9 hW9; skip; go_simp; try with_reducible rfl
    simp only [Act.put, List.setIfInBounds_toArray, List.set_cons_zero, List.set_cons_succ]
    refine wpAnyH_done (by kernel_rfl) ?_ _
    rotate_left
    exact AllReadyH.nil
    exact AllReadyH.nil
    exact AllReadyH.nil
    exact AllReadyH.nil
    exact AllReadyH.nil
    all_goals
      go_wp2
      go_meet
      exact ⟨g3, _, _, rfl, rfl, Lib.hid hS, NB3, HD5⟩
  case rest =>
    obtain ⟨g3, a5, c5, rfl, rfl, hb2, B3, R3⟩ := hcut
    replace HBW := Lib.hid (HBW.out.trans hb2.out)
    have k0 : wc.cell? ⟨g3, 0, none⟩ = some (.slice a5 2 c5) := B3.out.cell rfl
    have k1 : wc.cell? ⟨g3, 1, none⟩ = some (.int .i64 5) := B3.out.cell rfl
    have k2 : wc.cell? ⟨g3, 2, none⟩ = some (.int .i64 1) := B3.out.cell rfl
    have k3 : wc.cell? ⟨g3, 3, none⟩ = some (.int .i64 0) := B3.out.cell rfl
    have hz := lt_of_cell k3
    clear B3 BX R1 hb2 HN HFD
    go_wp2_with (first | (go_at_call 19; (with_reducible refine Calls.mono (real_any [1, 1, -1, -1, 1] _ _ ?_ (by decide)) ?_); (focus exact RdI.lit _ _ _ [1, 1, -1, -1, 1] (by rfl) (by decide)); rintro e1 u4 ⟨⟨v4, rfl, hr4, _, hc4⟩, hb4⟩; have R4 := Lib.hid hr4; have C4 := Lib.hid hc4; have hbt : Bw wc u4 := (by repeat (first | exact Bw.refl _ | assumption | refine Bw.alloc ?_ _ | refine Bw.drew ?_ | refine Bw.trans ?_ (by assumption) | refine Bw.setCell ?_ (by simp; try omega) _)); replace HBW := Lib.hid (HBW.out.trans hbt); replace R3 := Lib.hid (R3.out.mono hbt); replace k0 := hbt.cell' k0; replace k1 := hbt.cell' k1; replace k2 := hbt.cell' k2; replace k3 := hbt.cell' k3; clear hz; have hz := lt_of_cell k3; clear hb4 hbt hr4 hc4) | (go_at_call 12; (with_reducible refine Calls.mono (HRD.out _ _ R4.out C4.out) ?_); rintro e1 u5 ⟨⟨v5, rfl, hr5, _⟩, hbt⟩; obtain ⟨a6, c6, rfl⟩ := hr5.form; have R5 := Lib.hid hr5; replace HBW := Lib.hid (HBW.out.trans hbt); replace R3 := Lib.hid (R3.out.mono hbt); replace k0 := hbt.cell' k0; replace k1 := hbt.cell' k1; replace k2 := hbt.cell' k2; replace k3 := hbt.cell' k3; clear hz; have hz := lt_of_cell k3; clear hbt hr5) | (go_at_call 22; (with_reducible refine Calls.mono (same_any [2, 0] 5 1 0 _ _ _ ?_ ?_) ?_); (focus exact R3.out.mono (by repeat (first | exact Bw.refl _ | assumption | refine Bw.alloc ?_ _ | refine Bw.drew ?_ | refine Bw.trans ?_ (by assumption) | refine Bw.setCell ?_ (by simp; try omega) _))); (focus exact RdI.lit _ _ _ [2, 0] (by rfl) (by decide)); rintro e1 u6 ⟨rfl, hb6⟩; have hbt : Bw u5 u6 := (by repeat (first | exact Bw.refl _ | assumption | refine Bw.alloc ?_ _ | refine Bw.drew ?_ | refine Bw.trans ?_ (by assumption) | refine Bw.setCell ?_ (by simp; try omega) _)); replace HBW := Lib.hid (HBW.out.trans hbt); replace R5 := Lib.hid (R5.out.mono hbt); clear hb6 hbt k0 k1 k2 k3 hz) | (go_at_call 15; (with_reducible refine Calls.mono (equal_same [0, 1] _ _ _ ?_ ?_) ?_); (focus exact R5.out.mono (by repeat (first | exact Bw.refl _ | assumption | refine Bw.alloc ?_ _ | refine Bw.drew ?_ | refine Bw.trans ?_ (by assumption) | refine Bw.setCell ?_ (by simp; try omega) _))); (focus exact RdI.lit _ _ _ [0, 1] (by rfl) (by decide)); rintro e1 u7 ⟨rfl, hb7⟩; have hbt : Bw u6 u7 := (by repeat (first | exact Bw.refl _ | assumption | refine Bw.alloc ?_ _ | refine Bw.drew ?_ | refine Bw.trans ?_ (by assumption) | refine Bw.setCell ?_ (by simp; try omega) _)); replace HBW := Lib.hid (HBW.out.trans hbt); clear hb7 hbt))
    go_ret
    exact ⟨rfl, HBW.out⟩
end Go.Proofs.Sky
