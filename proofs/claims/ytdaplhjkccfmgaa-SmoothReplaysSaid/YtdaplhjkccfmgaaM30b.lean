/-
  lemmas for the theorems of this claim. No conditions beyond those written in the statements.
-/
import Derived.Test.YtdaplhjkccfmgaaN30
import Derived.Test.YtdaplhjkccfmgaaL30
set_option linter.unusedVariables false
set_option linter.unusedSimpArgs false
set_option linter.unnecessarySimpa false
namespace Go.Proofs.Sky
open Go Go.RowKit Go.Shelf
set_option maxHeartbeats 2000000
theorem own_form {w : World} {base : Nat} {e : TypeId} {k : Nat} {v : Value} {n : Nat} {xs : List Value} (h : w.ownsRow base e k v n xs) (hn : 0 < n) : ∃ g cap, v = .slice (some ⟨g, 0, none⟩) n cap ∧ base ≤ g ∧ n ≤ cap := by
  rcases h.2 with ⟨rfl, h2⟩ | ⟨g, cap, cur, rfl, hg, _, hnc, _⟩
  · have := h.1; simp [h2] at this; omega
  · exact ⟨g, cap, rfl, hg, hnc⟩
theorem RdI.tl {w : World} {g n c : Nat} {xs : List Int} (h : RdI w (.slice (some ⟨g, 0, none⟩) n c) xs) (c' : Nat) : RdI w (.slice (some ⟨g, 1, none⟩) (n - 1) c') xs.tail := by
  obtain ⟨h2, a, cap, e, h4⟩ := h
  injection e with e1 e2 e3
  subst e1 e2 e3
  refine ⟨by simp; omega, some ⟨g, 1, none⟩, c', by simp, ?_⟩
  rcases h4 with h4 | ⟨b, off, e, h6, h7⟩
  · left; simp [h4]
  · injection e with e; injection e with e1 e2; subst e1 e2
    refine .inr ⟨_, 1, rfl, h6, fun i hi => ?_⟩
    have := h7 (i + 1) (by simp at hi; omega)
    rw [show 1 + i = 0 + (i + 1) by omega, this, List.getD_eq_getElem?_getD, List.getD_eq_getElem?_getD, List.getElem?_tail]
theorem RStep_zero (W L : Int) (ds : List Int) (v : Value) (p f : Int) (w : World) (hv : RdI w v ds) (h0 : errC W L ds = 0) (hm : okM (p, f) = true) (hn : ¬ 0 < (ds.length : Int)) :
    Calls Try.prog 15 #[.agg #[.int .i64 W, .int .i64 L, v], .int .i64 p, .int .i64 f] w fun e w' => StepP w.heap.size W L (ds ++ [p - f]) (f * (ds.length + 1) + sumI (ds ++ [p - f])) (ds.length + 1) false 0 e w' ∧ Bw w w' := by
  obtain ⟨⟨hW0, hW1, hL0, hL1⟩, hlen, hds⟩ := errC_zero h0
  have HV := Lib.hid hv
  obtain ⟨ad, cap, rfl⟩ := hv.form
  obtain ⟨hm1, hm2⟩ := (okM_iff _).1 hm
  simp only at hm1 hm2
  obtain ⟨p0, p1⟩ := hm1
  obtain ⟨f0, f1⟩ := hm2
  have HC := Lib.hid (fun W' hW => RCheck_any W L ds (.slice ad ds.length cap) W' hW)
  rw [h0] at HC
  simp only [okM, Bool.and_eq_true] at hm
  obtain ⟨m1, m2⟩ := hm
  have HWw : Hid (∀ x, (x = p ∨ x = f) → ∀ W, Calls Try.prog 30 #[.int .i64 x, .int .i64 10000000000000] W fun e w' => e = .returned (.bool true) ∧ Bw W w') := Lib.hid (fun x hx W => by
    have h := within_any x 10000000000000 (by omega) (by omega) W
    rw [show inN x 10000000000000 = true by rcases hx with rfl | rfl <;> assumption] at h
    exact h)
  have HS1 := Lib.hid (fun W' hW => rsum_any ds (.slice ad ds.length cap) W' hW (by omega) hds)
  have ⟨s0, s1⟩ := sumI_bd ds 20000000000000 (by omega) hds
  have ⟨q1, q2⟩ := mul_bd2 (p - f) ds.length 20000000000000 100 (by omega) (by omega) (by omega) (by omega) (by omega)
  have ⟨q3, q4⟩ := mul_bd2 L ds.length 1000000000 100 (by omega) (by omega) (by omega) (by omega) (by omega)
  clear m1 m2 h0
  have HD := Lib.hid hds; clear hds
  have hmax : W ≤ 100 := hW1
  go_enter Try.func15, Try.ntmps15
  go_wp2_with (first | (go_at_call 20; refine (HC.out _ (HV.out.mono (by repeat (first | exact Bw.refl _ | assumption | refine Bw.alloc ?_ _ | refine Bw.drew ?_ | refine Bw.trans ?_ (by assumption) | refine Bw.setCell ?_ (by simp; try omega) _)))).mono ?_; rintro e w' ⟨rfl, hb⟩; obtain ⟨hcc, hff⟩ := Bw.cells hb; have hsz := Bw.size hb; try (have hz0 : w.heap.size < w'.heap.size := by (try simp at hsz); omega); try (have hz1 : w.heap.size + 1 < w'.heap.size := by (try simp at hsz); omega); try (have hz2 : w.heap.size + 1 + 1 < w'.heap.size := by (try simp at hsz); omega); try (have hz3 : w.heap.size + 1 + 1 + 1 < w'.heap.size := by (try simp at hsz); omega); try (have hz4 : w.heap.size + 1 + 1 + 1 + 1 < w'.heap.size := by (try simp at hsz); omega); try (have hzr : wr.heap.size < w'.heap.size := by (try simp at hsz); omega); try (have hzr1 : wr.heap.size + 1 < w'.heap.size := by (try simp at hsz); omega)) | (go_at_call 30; refine (HWw.out _ (by first | exact .inl rfl | exact .inr rfl) _).mono ?_; rintro e w1 ⟨rfl, hb1⟩; obtain ⟨hcc1, hff1⟩ := Bw.cells hb1; have hsz1 := Bw.size hb1))
  have b5 := blks3 w (.int .i64 W) (.int .i64 L) (.slice ad ds.length cap)
  have b6 : Bw (((w.alloc (.cells #[.int .i64 W, .int .i64 L, .slice ad ds.length cap] 34)).alloc (.cells #[.int .i64 0, .int .i64 0, .slice none 0 0] 34)).alloc (.cells #[.int .i64 0, .int .i64 0] 36)) w1 := (by repeat (first | exact Bw.refl _ | assumption | refine Bw.alloc ?_ _ | refine Bw.drew ?_ | refine Bw.trans ?_ (by assumption) | refine Bw.setCell ?_ (by simp; try omega) _))
  have hbw : Bw w w1 := Bw.trans (Bw.alloc (Bw.alloc (Bw.alloc (Bw.refl w) _) _) _) b6
  have B5 : Hid (Blk w1 w.heap.size 34 #[.int .i64 W, .int .i64 L, .slice ad ds.length cap]) := Lib.hid ((((Blk.new w 34 #[.int .i64 W, .int .i64 L, .slice ad ds.length cap]).alloc (.cells #[.int .i64 0, .int .i64 0, .slice none 0 0] 34)).alloc (.cells #[.int .i64 0, .int .i64 0] 36)).bw b6)
  have B3 := Lib.hid (b5.1.bw b6)
  have B4 := Lib.hid (b5.2.bw b6)
  have HZ := Lib.hid (show w.heap.size + 1 + 1 < w1.heap.size by have := b6.size; simp at this; omega)
  have k0 : w1.cell? ⟨w.heap.size, 0, none⟩ = some (.int .i64 W) := B5.out.cell rfl
  have k1 : w1.cell? ⟨w.heap.size, 1, none⟩ = some (.int .i64 L) := B5.out.cell rfl
  have k2 : w1.cell? ⟨w.heap.size, 2, none⟩ = some (.slice ad ds.length cap) := B5.out.cell rfl
  have HBW := Lib.hid hbw
  clear hb hb1 hcc hff hsz hcc1 hff1 hsz1 hbw b5 b6 hz0 hz1 hz2 hv
  have e2 := fun q : Ext w1 => Ext.cell' k2 q
  (refine wp_region_quiet_ext (by kernel_rfl) (by kernel_rfl) ?_; (repeat (go_big_quiet_step ((fail)))); refine wpQuiet_nil ?_; rintro wq ⟨⟨_, hbq⟩, rfl⟩; obtain ⟨hccq, hffq⟩ := Bw.cells hbq; have hszq := Bw.size hbq)
  replace k0 := hbq.cell' k0
  replace k1 := hbq.cell' k1
  replace k2 := hbq.cell' k2
  replace B5 := Lib.hid (B5.out.bw hbq)
  replace B3 := Lib.hid (B3.out.bw hbq)
  replace B4 := Lib.hid (B4.out.bw hbq)
  replace HBW := Lib.hid (HBW.out.trans hbq)
  replace HZ := Lib.hid (Nat.lt_of_lt_of_le HZ.out hbq.size)
  clear e2 hbq hccq hffq hszq
  go_wp2_with (first | (go_at_call 31; refine (HS1.out _ (HV.out.mono HBW.out)).mono ?_; rintro e w2 ⟨rfl, hb2⟩; replace k0 := hb2.cell' k0; replace k1 := hb2.cell' k1; replace k2 := hb2.cell' k2; replace B5 := Lib.hid (B5.out.bw hb2); replace B3 := Lib.hid (B3.out.bw hb2); replace B4 := Lib.hid (B4.out.bw hb2); replace HBW := Lib.hid (HBW.out.trans hb2); replace HZ := Lib.hid (Nat.lt_of_lt_of_le HZ.out hb2.size); have HBW0 := Lib.hid HBW.out.size; have HZ2 := Lib.hid (show w.heap.size + 1 + 1 < w2.heap.size from HZ.out); clear hb2; have hzy : w.heap.size < w2.heap.size := by have := HZ.out; omega) | (at_builtin; refine wpList_append_int rfl (.tmp 64) (.tmp 66) _ rfl w2.heap.size 3 Try.underlying26 infoInt _ [] ds rfl (World.ownsRow_lit (base := w2.heap.size) w2 #[] 0 (Nat.le_refl _) (by unfold maxLen; omega) (by simp)) ad ds.length cap rfl ((HV.out.mono HBW.out).mono (Bw.alloc (Bw.refl _) _)) (by simp; omega) (by simp) ?_; intro v3 w3 hown3 hgrow3; have hb3 : Bw w2 w3 := Bw.grown (Bw.alloc (Bw.refl w2) _) (World.ownsRow_lit (e := 3) (size := 1) w2 #[] 0 (Nat.le_refl _) (by unfold maxLen; omega) (by simp)) hgrow3; have HB3 := Lib.hid hb3; clear hb3; simp only [List.nil_append] at hown3; have HO3 := Lib.hid hown3; clear hown3 hgrow3) | (at_builtin; refine wpList_append_int1 rfl (.tmp 69) (.tmp 71) _ rfl w2.heap.size 3 Try.underlying26 infoInt _ ds (p - f) rfl (own_bw HO3.out (Bw.alloc (Bw.refl _) _)) _ rfl (by simp [go_sem]) (by omega) (by have := HB3.out.size; simp; omega) ?_; intro v4 w4 hown4 hgrow4; have hb4 : Bw w2 w4 := Bw.grown (Bw.alloc HB3.out _) (own_bw HO3.out (Bw.alloc (Bw.refl _) _)) hgrow4; replace k0 := hb4.cell' k0; replace k1 := hb4.cell' k1; replace B5 := Lib.hid (B5.out.bw hb4); replace B3 := Lib.hid (B3.out.bw hb4); replace B4 := Lib.hid (B4.out.bw hb4); replace HBW := Lib.hid (HBW.out.trans hb4); replace HZ := Lib.hid (Nat.lt_of_lt_of_le HZ.out hb4.size); clear hgrow4 hb4; have hrd4 := own_rd hown4 (by simp; omega); obtain ⟨g4, c4, rfl, hf4, hc4⟩ := own_form hown4 (by simp); have HR4 := Lib.hid hrd4.1; clear hrd4 hown4; simp only [List.length_append, List.length_singleton] at HR4 hc4) | ((with_reducible refine at_store 34 (.tmp 6) (.tmp 85) ?_); refine wpList_store_row rfl 34 (.tmp 6) (.tmp 85) rfl (w.heap.size + 1) #[.int .i64 W, .int .i64 L, .slice (some ⟨g4, 0, none⟩) (ds.length + 1) c4] rfl rfl 34 #[.int .i64 0, .int .i64 0, .slice none 0 0] B3.out (by kernel_rfl) rfl (by simp [Value.oneCell']) ?_; replace B5 := Lib.hid (B5.out.row_other (g' := w.heap.size + 1) (by omega) #[.int .i64 W, .int .i64 L, .slice (some ⟨g4, 0, none⟩) (ds.length + 1) c4]); replace B4 := Lib.hid (B4.out.row_other (g' := w.heap.size + 1) (by omega) #[.int .i64 W, .int .i64 L, .slice (some ⟨g4, 0, none⟩) (ds.length + 1) c4]); replace B3 := Lib.hid (B3.out.row #[.int .i64 W, .int .i64 L, .slice (some ⟨g4, 0, none⟩) (ds.length + 1) c4]); replace HR4 := Lib.hid (HR4.out.row (b := w.heap.size + 1) (base := w2.heap.size) (Fresh.at hf4) (by have := HZ2.out; omega) #[.int .i64 W, .int .i64 L, .slice (some ⟨g4, 0, none⟩) (ds.length + 1) c4]); replace HBW := Lib.hid (Bw.setRow (g := w.heap.size + 1) HBW.out (by omega) #[.int .i64 W, .int .i64 L, .slice (some ⟨g4, 0, none⟩) (ds.length + 1) c4]); replace HZ := Lib.hid (show w.heap.size + 1 + 1 < (w4.setRow (w.heap.size + 1) #[.int .i64 W, .int .i64 L, .slice (some ⟨g4, 0, none⟩) (ds.length + 1) c4]).heap.size by have := HZ.out; simpa using this); clear k0 k1; generalize w4.setRow (w.heap.size + 1) #[.int .i64 W, .int .i64 L, .slice (some ⟨g4, 0, none⟩) (ds.length + 1) c4] = w5 at B5 B4 B3 HR4 HBW HZ ⊢))
  have hXd : ∀ x ∈ ds ++ [p - f], -20000000000000 ≤ x ∧ x ≤ 20000000000000 := fun x hx => by
    rcases List.mem_append.1 hx with h | h
    · exact HD.out x h
    · simp at h; omega
  have hXl : (ds ++ [p - f]).length ≤ 200 := by simp; omega
  have ⟨x1, x2⟩ := sumI_bd (ds ++ [p - f]) 20000000000000 (by omega) hXd
  have ⟨y1, y2⟩ := mul_bd2 f (ds.length + 1) 10000000000000 101 (by omega) (by omega) (by omega) (by omega) (by omega)
  have hS2 := fun W' hW => rsum_any (ds ++ [p - f]) (.slice (some ⟨g4, 0, none⟩) (ds.length + 1) c4) W' hW hXl hXd
  simp only [List.length_append, List.length_singleton, List.length_tail, List.length_nil, Nat.zero_add, Nat.add_sub_cancel, Int.natCast_add] at x1 x2
  obtain ⟨sx, hsx⟩ : ∃ sx, sumI (ds ++ [p - f]) = sx := ⟨_, rfl⟩
  rw [hsx] at hS2 x1 x2
  have HS2 := Lib.hid hS2; clear hS2
  have HSX := Lib.hid hsx; clear hsx
  clear hXd hXl
  refine wp_region_held_drew (S := fun Wx => Bw w Wx ∧ Blk Wx (w.heap.size + 1) 34 #[.int .i64 W, .int .i64 L, .slice (some ⟨g4, 0, none⟩) (ds.length + 1) c4]) (by kernel_rfl) ⟨HBW.out.trans (Bw.drew (Bw.refl _)), B3.out.bw (Bw.drew (Bw.refl _))⟩ (fun hS => ?_)
  replace B3 := Lib.hid (B3.out.bw (Bw.drew (Bw.refl _)))
  replace B4 := Lib.hid (B4.out.bw (Bw.drew (Bw.refl _)))
  replace HR4 := Lib.hid (HR4.out.mono (Bw.drew (Bw.refl _)))
  generalize w5.drew = wd at hS B3 B4 HR4 ⊢
  refine take1 (i := 0) (some 86) rfl rfl (by kernel_rfl) (by kernel_rfl) (by kernel_rfl) (fun _ _ _ _ h => h) rfl hS ?_
  apply Exists.intro
  apply And.intro
  · intro W9 hW9; obtain ⟨s1, s2⟩ := hW9; have q0 : Go.World.cell? W9 ⟨w.heap.size + 1, 0, none⟩ = some (.int .i64 W) := s2.cell rfl; have q1 : Go.World.cell? W9 ⟨w.heap.size + 1, 1, none⟩ = some (.int .i64 L) := s2.cell rfl; have q2 : Go.World.cell? W9 ⟨w.heap.size + 1, 2, none⟩ = some (.slice (some ⟨g4, 0, none⟩) (ds.length + 1) c4) := s2.cell rfl; clear s1 s2; go_simp; try with_reducible rfl
  simp only [Act.put, List.setIfInBounds_toArray, List.set_cons_zero, List.set_cons_succ]
  refine take1 (i := 1) (some 87) rfl rfl (by kernel_rfl) (by kernel_rfl) (by kernel_rfl) (fun _ _ _ _ h => h) rfl hS ?_
  apply Exists.intro
  apply And.intro
  · intro W9 hW9; obtain ⟨s1, s2⟩ := hW9; have q0 : Go.World.cell? W9 ⟨w.heap.size + 1, 0, none⟩ = some (.int .i64 W) := s2.cell rfl; have q1 : Go.World.cell? W9 ⟨w.heap.size + 1, 1, none⟩ = some (.int .i64 L) := s2.cell rfl; have q2 : Go.World.cell? W9 ⟨w.heap.size + 1, 2, none⟩ = some (.slice (some ⟨g4, 0, none⟩) (ds.length + 1) c4) := s2.cell rfl; clear s1 s2; go_simp; try with_reducible rfl
  simp only [Act.put, List.setIfInBounds_toArray, List.set_cons_zero, List.set_cons_succ]
  refine take1 (i := 2) (some 88) rfl rfl (by kernel_rfl) (by kernel_rfl) (by kernel_rfl) (fun _ _ _ _ h => h) rfl hS ?_
  apply Exists.intro
  apply And.intro
  · intro W9 hW9; obtain ⟨s1, s2⟩ := hW9; have q0 : Go.World.cell? W9 ⟨w.heap.size + 1, 0, none⟩ = some (.int .i64 W) := s2.cell rfl; have q1 : Go.World.cell? W9 ⟨w.heap.size + 1, 1, none⟩ = some (.int .i64 L) := s2.cell rfl; have q2 : Go.World.cell? W9 ⟨w.heap.size + 1, 2, none⟩ = some (.slice (some ⟨g4, 0, none⟩) (ds.length + 1) c4) := s2.cell rfl; clear s1 s2; go_simp; try with_reducible rfl
  simp only [Act.put, List.setIfInBounds_toArray, List.set_cons_zero, List.set_cons_succ]
  refine take1 (i := 3) (some 89) rfl rfl (by kernel_rfl) (by kernel_rfl) (by kernel_rfl) (fun _ _ _ _ h => h) rfl hS ?_
  apply Exists.intro
  apply And.intro
  · intro W9 hW9; obtain ⟨s1, s2⟩ := hW9; have q0 : Go.World.cell? W9 ⟨w.heap.size + 1, 0, none⟩ = some (.int .i64 W) := s2.cell rfl; have q1 : Go.World.cell? W9 ⟨w.heap.size + 1, 1, none⟩ = some (.int .i64 L) := s2.cell rfl; have q2 : Go.World.cell? W9 ⟨w.heap.size + 1, 2, none⟩ = some (.slice (some ⟨g4, 0, none⟩) (ds.length + 1) c4) := s2.cell rfl; clear s1 s2; go_simp; try with_reducible rfl
  simp only [Act.put, List.setIfInBounds_toArray, List.set_cons_zero, List.set_cons_succ]
  refine take1 (i := 4) (some 90) rfl rfl (by kernel_rfl) (by kernel_rfl) (by kernel_rfl) (fun _ _ _ _ h => h) rfl hS ?_
  refine Exists.intro (.int .i64 (f * (ds.length + 1))) ?_
  apply And.intro
  · intro W9 hW9; obtain ⟨s1, s2⟩ := hW9; have q0 : Go.World.cell? W9 ⟨w.heap.size + 1, 0, none⟩ = some (.int .i64 W) := s2.cell rfl; have q1 : Go.World.cell? W9 ⟨w.heap.size + 1, 1, none⟩ = some (.int .i64 L) := s2.cell rfl; have q2 : Go.World.cell? W9 ⟨w.heap.size + 1, 2, none⟩ = some (.slice (some ⟨g4, 0, none⟩) (ds.length + 1) c4) := s2.cell rfl; clear s1 s2; go_simp; (try go_bits); (try with_reducible rfl); (try trivial)
  simp only [Act.put, List.setIfInBounds_toArray, List.set_cons_zero, List.set_cons_succ]
  refine take1 (i := 5) (some 91) rfl rfl (by kernel_rfl) (by kernel_rfl) (by kernel_rfl) (fun _ _ _ _ h => h) rfl hS ?_
  apply Exists.intro
  apply And.intro
  · intro W9 hW9; obtain ⟨s1, s2⟩ := hW9; have q0 : Go.World.cell? W9 ⟨w.heap.size + 1, 0, none⟩ = some (.int .i64 W) := s2.cell rfl; have q1 : Go.World.cell? W9 ⟨w.heap.size + 1, 1, none⟩ = some (.int .i64 L) := s2.cell rfl; have q2 : Go.World.cell? W9 ⟨w.heap.size + 1, 2, none⟩ = some (.slice (some ⟨g4, 0, none⟩) (ds.length + 1) c4) := s2.cell rfl; clear s1 s2; go_simp; try with_reducible rfl
  simp only [Act.put, List.setIfInBounds_toArray, List.set_cons_zero, List.set_cons_succ]
  refine take1 (i := 8) (some 94) rfl rfl (by kernel_rfl) (by kernel_rfl) (by kernel_rfl) (fun _ _ _ _ h => h) rfl hS ?_
  apply Exists.intro
  apply And.intro
  · intro W9 hW9; obtain ⟨s1, s2⟩ := hW9; have q0 : Go.World.cell? W9 ⟨w.heap.size + 1, 0, none⟩ = some (.int .i64 W) := s2.cell rfl; have q1 : Go.World.cell? W9 ⟨w.heap.size + 1, 1, none⟩ = some (.int .i64 L) := s2.cell rfl; have q2 : Go.World.cell? W9 ⟨w.heap.size + 1, 2, none⟩ = some (.slice (some ⟨g4, 0, none⟩) (ds.length + 1) c4) := s2.cell rfl; clear s1 s2; go_simp; try with_reducible rfl
  simp only [Act.put, List.setIfInBounds_toArray, List.set_cons_zero, List.set_cons_succ]
  refine take1 (i := 9) (some 95) rfl rfl (by kernel_rfl) (by kernel_rfl) (by kernel_rfl) (fun _ _ _ _ h => h) rfl hS ?_
  refine Exists.intro (.int .i64 (ds.length + 1)) ?_
  apply And.intro
  · intro W9 hW9; obtain ⟨s1, s2⟩ := hW9; have q0 : Go.World.cell? W9 ⟨w.heap.size + 1, 0, none⟩ = some (.int .i64 W) := s2.cell rfl; have q1 : Go.World.cell? W9 ⟨w.heap.size + 1, 1, none⟩ = some (.int .i64 L) := s2.cell rfl; have q2 : Go.World.cell? W9 ⟨w.heap.size + 1, 2, none⟩ = some (.slice (some ⟨g4, 0, none⟩) (ds.length + 1) c4) := s2.cell rfl; clear s1 s2; go_simp; (try go_bits); (try with_reducible rfl); (try trivial)
  simp only [Act.put, List.setIfInBounds_toArray, List.set_cons_zero, List.set_cons_succ]
  refine take1 (i := 11) (some 97) rfl rfl (by kernel_rfl) (by kernel_rfl) (by kernel_rfl) (fun _ _ _ _ h => h) rfl hS ?_
  apply Exists.intro
  apply And.intro
  · intro W9 hW9; obtain ⟨s1, s2⟩ := hW9; have q0 : Go.World.cell? W9 ⟨w.heap.size + 1, 0, none⟩ = some (.int .i64 W) := s2.cell rfl; have q1 : Go.World.cell? W9 ⟨w.heap.size + 1, 1, none⟩ = some (.int .i64 L) := s2.cell rfl; have q2 : Go.World.cell? W9 ⟨w.heap.size + 1, 2, none⟩ = some (.slice (some ⟨g4, 0, none⟩) (ds.length + 1) c4) := s2.cell rfl; clear s1 s2; go_simp; try with_reducible rfl
  simp only [Act.put, List.setIfInBounds_toArray, List.set_cons_zero, List.set_cons_succ]
  refine wpAnyH_ready (rs := [6]) (by kernel_rfl) (by simp) ?_
  refine AllReadyH.cons rfl (fun K hK => ?_) ?_
  go_simp
  go_wp2_with (go_at_call 31; refine (HS2.out _ HR4.out).mono ?_; rintro e wr ⟨rfl, hbr⟩)
  replace B3 := Lib.hid (B3.out.bw hbr)
  replace B4 := Lib.hid (B4.out.bw hbr)
  replace HR4 := Lib.hid (HR4.out.mono hbr)
  refine hK.out _ _ ⟨hS.1.trans hbr, B3.out⟩ (fun hS => ?_)
  clear hK K
  refine take1 (i := 7) (some 93) rfl rfl (by kernel_rfl) (by kernel_rfl) (by kernel_rfl) (fun _ _ _ _ h => h) rfl hS ?_
  refine Exists.intro (.int .i64 (f * (ds.length + 1) + sx)) ?_
  apply And.intro
  · intro W9 hW9; obtain ⟨s1, s2⟩ := hW9; have q0 : Go.World.cell? W9 ⟨w.heap.size + 1, 0, none⟩ = some (.int .i64 W) := s2.cell rfl; have q1 : Go.World.cell? W9 ⟨w.heap.size + 1, 1, none⟩ = some (.int .i64 L) := s2.cell rfl; have q2 : Go.World.cell? W9 ⟨w.heap.size + 1, 2, none⟩ = some (.slice (some ⟨g4, 0, none⟩) (ds.length + 1) c4) := s2.cell rfl; clear s1 s2; go_simp; (try go_bits); (try with_reducible rfl); (try trivial)
  simp only [Act.put, List.setIfInBounds_toArray, List.set_cons_zero, List.set_cons_succ]
  refine take1 (i := 10) (some 96) rfl rfl (by kernel_rfl) (by kernel_rfl) (by kernel_rfl) (fun _ _ _ _ h => h) rfl hS ?_
  apply Exists.intro
  apply And.intro
  · intro W9 hW9; obtain ⟨s1, s2⟩ := hW9; have q0 : Go.World.cell? W9 ⟨w.heap.size + 1, 0, none⟩ = some (.int .i64 W) := s2.cell rfl; have q1 : Go.World.cell? W9 ⟨w.heap.size + 1, 1, none⟩ = some (.int .i64 L) := s2.cell rfl; have q2 : Go.World.cell? W9 ⟨w.heap.size + 1, 2, none⟩ = some (.slice (some ⟨g4, 0, none⟩) (ds.length + 1) c4) := s2.cell rfl; clear s1 s2; go_simp; try with_reducible rfl
  simp only [Act.put, List.setIfInBounds_toArray, List.set_cons_zero, List.set_cons_succ]
  refine wpAnyH_ready (rs := [12]) (by kernel_rfl) (by simp) ?_
  refine AllReadyH.cons rfl (fun K hK => ?_) ?_
  rw [if_pos (by rfl)]
  refine wp_store_row0 34 _ _ rfl rfl (w.heap.size + 1) #[.int .i64 W, .int .i64 L, .slice (some ⟨g4, 0, none⟩) (ds.length + 1) c4] rfl rfl 34 #[.int .i64 W, .int .i64 L, .slice (some ⟨g4, 0, none⟩) (ds.length + 1) c4] B3.out (by kernel_rfl) rfl (by simp [Value.oneCell']) ?_
  replace HR4 := Lib.hid (HR4.out.row (b := w.heap.size + 1) (base := w2.heap.size) (Fresh.at hf4) (by have := HZ2.out; omega) #[.int .i64 W, .int .i64 L, .slice (some ⟨g4, 0, none⟩) (ds.length + 1) c4])
  replace B3 := Lib.hid (B3.out.row #[.int .i64 W, .int .i64 L, .slice (some ⟨g4, 0, none⟩) (ds.length + 1) c4])
  replace B4 := Lib.hid (B4.out.row_other (g' := w.heap.size + 1) (by omega) #[.int .i64 W, .int .i64 L, .slice (some ⟨g4, 0, none⟩) (ds.length + 1) c4])
  refine hK.out _ _ ⟨Bw.setRow hS.1 (by omega) _, B3.out⟩ (fun hS => ?_)
  clear hK K
  refine wpAnyH_ready (rs := [13]) (by kernel_rfl) (by simp) ?_
  refine AllReadyH.cons rfl (fun K hK => ?_) ?_
  rw [if_pos (by rfl)]
  refine wp_store_row0 36 _ _ rfl rfl (w.heap.size + 1 + 1) #[.int .i64 (f * (ds.length + 1) + sx), .int .i64 (ds.length + 1)] rfl rfl 36 #[.int .i64 0, .int .i64 0] B4.out (by kernel_rfl) rfl (by simp [Value.oneCell']) ?_
  replace HR4 := Lib.hid (HR4.out.row (b := w.heap.size + 1 + 1) (base := w2.heap.size) (Fresh.at hf4) (by have := HZ2.out; omega) #[.int .i64 (f * (ds.length + 1) + sx), .int .i64 (ds.length + 1)])
  replace B4 := Lib.hid (B4.out.row #[.int .i64 (f * (ds.length + 1) + sx), .int .i64 (ds.length + 1)])
  replace B3 := Lib.hid (B3.out.row_other (g' := w.heap.size + 1 + 1) (by omega) #[.int .i64 (f * (ds.length + 1) + sx), .int .i64 (ds.length + 1)])
  refine hK.out _ _ ⟨Bw.setRow hS.1 (by omega) _, B3.out⟩ (fun hS => ?_)
  clear hK K
  refine take1 (i := 14) (some 8) rfl rfl (by kernel_rfl) (by kernel_rfl) (by kernel_rfl) (fun _ _ _ _ h => h) rfl hS ?_
  apply Exists.intro
  apply And.intro
  · intro W9 hW9; obtain ⟨s1, s2⟩ := hW9; have q0 : Go.World.cell? W9 ⟨w.heap.size + 1, 0, none⟩ = some (.int .i64 W) := s2.cell rfl; have q1 : Go.World.cell? W9 ⟨w.heap.size + 1, 1, none⟩ = some (.int .i64 L) := s2.cell rfl; have q2 : Go.World.cell? W9 ⟨w.heap.size + 1, 2, none⟩ = some (.slice (some ⟨g4, 0, none⟩) (ds.length + 1) c4) := s2.cell rfl; clear s1 s2; go_simp; try with_reducible rfl
  simp only [Act.put, List.setIfInBounds_toArray, List.set_cons_zero, List.set_cons_succ]
  refine take1 (i := 15) (some 9) rfl rfl (by kernel_rfl) (by kernel_rfl) (by kernel_rfl) (fun _ _ _ _ h => h) rfl hS ?_
  apply Exists.intro
  apply And.intro
  · intro W9 hW9; obtain ⟨s1, s2⟩ := hW9; have q0 : Go.World.cell? W9 ⟨w.heap.size + 1, 0, none⟩ = some (.int .i64 W) := s2.cell rfl; have q1 : Go.World.cell? W9 ⟨w.heap.size + 1, 1, none⟩ = some (.int .i64 L) := s2.cell rfl; have q2 : Go.World.cell? W9 ⟨w.heap.size + 1, 2, none⟩ = some (.slice (some ⟨g4, 0, none⟩) (ds.length + 1) c4) := s2.cell rfl; clear s1 s2; go_simp; try with_reducible rfl
  simp only [Act.put, List.setIfInBounds_toArray, List.set_cons_zero, List.set_cons_succ]
  refine wpAnyH_done (by kernel_rfl) ?_ _
  rotate_left
  exact AllReadyH.nil
  exact AllReadyH.nil
  exact AllReadyH.nil
  go_wp2
  have d0 := B3.out.cell (j := 0) rfl
  have d1 := B3.out.cell (j := 1) rfl
  have d2 := B3.out.cell (j := 2) rfl
  have d3 := B4.out.cell (j := 0) rfl
  have d4 := B4.out.cell (j := 1) rfl
  refine bodyPost_ret (v := .tuple #[.agg #[.int .i64 W, .int .i64 L, .slice (some ⟨g4, 0, none⟩) (ds.length + 1) c4], .agg #[.int .i64 (f * (ds.length + 1) + sx), .int .i64 (ds.length + 1)], .bool false, .int .i64 0]) ?_ rfl ⟨⟨_, by rw [HSX.out], HR4.out, Fresh.at (by have := HBW0.out; omega)⟩, hS.1⟩
  simp [results, Try.results15, go_sem, d0, d1, d2, d3, d4]
  all_goals first | (constructor <;> assumption) | assumption
end Go.Proofs.Sky
