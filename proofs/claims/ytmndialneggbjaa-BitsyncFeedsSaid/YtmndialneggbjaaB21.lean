/-
  lemmas for the theorems of this claim. No conditions beyond those written in the statements.
-/
import Derived.Test.YtmndialneggbjaaA21
import Derived.Deep.Cut
set_option linter.unusedVariables false
set_option linter.unusedSimpArgs false
set_option linter.unnecessarySimpa false
namespace Go.Proofs.Sky
open Go Go.RowKit Go.Shelf
set_option maxHeartbeats 4000000
def AddP (base g b cap : Nat) (ch : List Int) (seen : Int) (la a : Int × Int) (w : World) (e : Ending) (w' : World) : Prop :=
  e = .returned (.int .i64 (addE seen a)) ∧ Below base w w' ∧ (addE seen a = 0 → Blk w' g 60 #[.slice (some ⟨b, 0, none⟩) ch.length cap, .int .i64 (seen + 1), .int .i64 a.1, .int .i64 a.2] ∧ w'.ownsRow base 3 1 (.slice (some ⟨b, 0, none⟩) ch.length cap) ch.length ((chN ch seen la a).map (Value.int .i64)))
theorem own_cellT {w : World} {base : Nat} {e T : TypeId} {k : Nat} {v : Value} {n : Nat} {xs : List Value} (h : w.ownsRow base e k v n xs) {g : Nat} {old : Array Value} (hB : Blk w g T old) (hne : T ≠ e) (o : Nat) (u : Value) : (w.setCell ⟨g, o, none⟩ u).ownsRow base e k v n xs := by
  obtain ⟨h1, h2⟩ := h
  refine ⟨h1, ?_⟩
  rcases h2 with h2 | ⟨g1, cap, cur, hv, hg0, hh, r⟩
  · exact .inl h2
  · refine .inr ⟨g1, cap, cur, hv, hg0, (heap_setCell_other w ⟨g, o, none⟩ g1 u (fun e1 => ?_)).trans hh, r⟩
    unfold Blk at hB
    simp at e1
    subst e1; rw [hh] at hB; cases hB; exact hne rfl
theorem add_any (base g b cap : Nat) (ch : List Int) (S : Nat) (li lq a1 a2 : Int) (w : World) (hB : Blk w g 60 #[.slice (some ⟨b, 0, none⟩) ch.length cap, .int .i64 S, .int .i64 li, .int .i64 lq])
    (hO : w.ownsRow base 3 1 (.slice (some ⟨b, 0, none⟩) ch.length cap) ch.length (ch.map (Value.int .i64))) (hg : base ≤ g) (hn1 : 1 ≤ ch.length) (hn2 : ch.length ≤ 20) (hs : S ≤ 1000000) (hl : insP (li, lq) = true) (hc : ∀ i, ch.getD i 0 ≤ 1000000 ∧ 0 ≤ ch.getD i 0) :
    Calls Try.prog 39 #[.pointer (some ⟨g, 0, none⟩), .agg #[.int .i64 a1, .int .i64 a2]] w fun e w' => AddP base g b cap ch S (li, lq) (a1, a2) w e w' := by
  unfold AddP
  obtain ⟨n, hn⟩ : ∃ n, n = ch.length := ⟨_, rfl⟩
  rw [← hn] at hB hO hn1 hn2 ⊢
  have HN := Lib.hid hn
  clear hn
  have BX := Lib.hid (hB.bw (Bw.alloc (Bw.refl w) (.cells #[.int .i64 a1, .int .i64 a2] 34)))
  have BS := Lib.hid (Blk.new w 34 #[.int .i64 a1, .int .i64 a2])
  have HBW := Lib.hid (Bw.alloc (Bw.refl w) (.cells #[.int .i64 a1, .int .i64 a2] 34))
  have HO := Lib.hid hO
  have hgl := hB.lt
  have HBL := Lib.hid (show base ≤ w.heap.size by omega)
  have HL := Lib.hid hl
  have HC := Lib.hid hc
  have k1 : w.cell? ⟨g, 1, none⟩ = some (.int .i64 S) := hB.cell rfl
  clear hO hB hl hc
  by_cases h1 : S = 1000000
  · subst h1
    have HE := Lib.hid (show addE ((1000000 : Nat) : Int) (a1, a2) = 12 by unfold addE; rw [if_pos (by rfl)])
    rw [HE.out]
    go_enter Try.func39, Try.ntmps39
    go_wp2
    go_ret
    exact ⟨rfl, Below.mono HBW.out HBL.out, fun h => by simp at h⟩
  have h1i : ¬ (S : Int) = 1000000 := by omega
  cases hi : insP (a1, a2) with
  | false =>
    have HE := Lib.hid (show addE (S : Int) (a1, a2) = 2 by unfold addE; rw [if_neg h1i, hi]; simp)
    rw [HE.out]
    have HI := Lib.hid (fun W => inside_any a1 a2 W)
    rw [hi] at HI
    clear hi
    go_enter Try.func39, Try.ntmps39
    go_wp2_with ((go_at_call 32; (with_reducible refine Calls.mono (HI.out _) ?_); rintro e1 w1 ⟨rfl, hb1⟩; replace HBW := Lib.hid (HBW.out.trans hb1); replace BX := Lib.hid (BX.out.bw hb1); replace BS := Lib.hid (BS.out.bw hb1); clear hb1; have k0 : w1.cell? ⟨g, 0, none⟩ = some (.slice (some ⟨b, 0, none⟩) n cap) := BX.out.cell rfl; have k1 : w1.cell? ⟨g, 1, none⟩ = some (.int .i64 S) := BX.out.cell rfl; have k2 : w1.cell? ⟨g, 2, none⟩ = some (.int .i64 li) := BX.out.cell rfl; have k3 : w1.cell? ⟨g, 3, none⟩ = some (.int .i64 lq) := BX.out.cell rfl; have s0 : w1.cell? ⟨w.heap.size, 0, none⟩ = some (.int .i64 a1) := BS.out.cell rfl; have s1 : w1.cell? ⟨w.heap.size, 1, none⟩ = some (.int .i64 a2) := BS.out.cell rfl))
    go_ret
    exact ⟨rfl, Below.mono HBW.out HBL.out, fun h => by simp at h⟩
  | true =>
    have HE := Lib.hid (show addE (S : Int) (a1, a2) = 0 by unfold addE; rw [if_neg h1i, hi]; simp)
    rw [HE.out]
    have HI := Lib.hid (fun W => inside_any a1 a2 W)
    rw [hi] at HI
    have SC := Lib.hid (fun W => scalar_any li lq a1 a2 W HL.out hi)
    clear hi
    obtain ⟨sc, hsc⟩ : ∃ sc, sc = scl (li, lq) (a1, a2) := ⟨_, rfl⟩
    rw [← hsc] at SC
    have HSC := Lib.hid hsc
    clear hsc
    go_enter Try.func39, Try.ntmps39
    go_upto_region 5 with ((go_at_call 32; (with_reducible refine Calls.mono (HI.out _) ?_); rintro e1 w1 ⟨rfl, hb1⟩; replace HBW := Lib.hid (HBW.out.trans hb1); replace BX := Lib.hid (BX.out.bw hb1); replace BS := Lib.hid (BS.out.bw hb1); clear hb1; have k0 : w1.cell? ⟨g, 0, none⟩ = some (.slice (some ⟨b, 0, none⟩) n cap) := BX.out.cell rfl; have k1 : w1.cell? ⟨g, 1, none⟩ = some (.int .i64 S) := BX.out.cell rfl; have k2 : w1.cell? ⟨g, 2, none⟩ = some (.int .i64 li) := BX.out.cell rfl; have k3 : w1.cell? ⟨g, 3, none⟩ = some (.int .i64 lq) := BX.out.cell rfl; have s0 : w1.cell? ⟨w.heap.size, 0, none⟩ = some (.int .i64 a1) := BS.out.cell rfl; have s1 : w1.cell? ⟨w.heap.size, 1, none⟩ = some (.int .i64 a2) := BS.out.cell rfl))
    go_cut [31] from 16 (fun s31 wc => s31 = .bool (decide (0 < (S : Int)) && decide (sc < 0)) ∧ Hid (Bw w1 wc))
    case first =>
      have e0 := fun p' : Ext w1 => Ext.cell' k0 p'
      have e1 := fun p' : Ext w1 => Ext.cell' k1 p'
      have e2 := fun p' : Ext w1 => Ext.cell' k2 p'
      have e3 := fun p' : Ext w1 => Ext.cell' k3 p'
      have e4 := fun p' : Ext w1 => Ext.cell' s0 p'
      have e5 := fun p' : Ext w1 => Ext.cell' s1 p'
      by_cases hS : S = 0
      · subst hS
        (refine wp_region_quiet_ext (by kernel_rfl) (by kernel_rfl) ?_; (repeat (go_big_quiet_step ((fail)))); refine wpQuiet_nil ?_; rintro wq ⟨⟨_, hbq⟩, rfl⟩; obtain ⟨hccq, hffq⟩ := Bw.cells hbq; have hszq := Bw.size hbq)
        clear e0 e1 e2 e3 e4 e5
        go_wp2
        go_meet
        exact ⟨by simp, Lib.hid hbq⟩
      · have hS1 : (0 : Int) < S := by omega
        have hS2 : 0 < S := by omega
        (refine wp_region_quiet_ext (by kernel_rfl) (by kernel_rfl) ?_; (repeat (go_big_quiet_step (((go_at_call 35; refine Calls.ext_of (SC.out _)))))); refine wpQuiet_nil ?_; rintro wq ⟨⟨_, hbq⟩, rfl⟩; obtain ⟨hccq, hffq⟩ := Bw.cells hbq; have hszq := Bw.size hbq)
        clear e0 e1 e2 e3 e4 e5
        go_wp2
        go_meet
        exact ⟨by simp; intro _; omega, Lib.hid hbq⟩
    case rest =>
      obtain ⟨rfl, hc⟩ := hcut
      replace BX := Lib.hid (BX.out.bw hc.out)
      replace BS := Lib.hid (BS.out.bw hc.out)
      replace HBW := Lib.hid (HBW.out.trans hc.out)
      clear hc k0 k1 k2 k3 s0 s1
      obtain ⟨w2, hw2⟩ : ∃ w2, w2 = wc := ⟨_, rfl⟩
      rw [← hw2] at BX BS HBW ⊢
      clear hw2
      replace HO := Lib.hid (own_bw HO.out HBW.out)
      have hbg : b ≠ g := by
        intro e
        have h9 := own_apart HO.out (show w2.ownsRow 0 60 4 (.slice (some ⟨g, 0, none⟩) 1 1) 1 [.slice (some ⟨b, 0, none⟩) n cap, .int .i64 S, .int .i64 li, .int .i64 lq] from ⟨rfl, .inr ⟨g, 1, _, rfl, Nat.zero_le _, BX.out, by decide, by decide, rfl, rfl⟩⟩) (by decide)
        exact h9 b rfl (by rw [e]; rfl)
      have k0 : w2.cell? ⟨g, 0, none⟩ = some (.slice (some ⟨b, 0, none⟩) n cap) := BX.out.cell rfl
      have k1 : w2.cell? ⟨g, 1, none⟩ = some (.int .i64 S) := BX.out.cell rfl
      have k2 : w2.cell? ⟨g, 2, none⟩ = some (.int .i64 li) := BX.out.cell rfl
      have k3 : w2.cell? ⟨g, 3, none⟩ = some (.int .i64 lq) := BX.out.cell rfl
      have s0 : w2.cell? ⟨w.heap.size, 0, none⟩ = some (.int .i64 a1) := BS.out.cell rfl
      have s1 : w2.cell? ⟨w.heap.size, 1, none⟩ = some (.int .i64 a2) := BS.out.cell rfl
      have z1 := BX.out.frozen 1
      have z2 := BX.out.frozen 2
      have z3 := BX.out.frozen 3
      by_cases hch : 0 < (S : Int) ∧ sc < 0
      · have hb9 : (decide (0 < (S : Int)) && decide (sc < 0)) = true := by rw [Bool.and_eq_true]; exact ⟨decide_eq_true hch.1, decide_eq_true hch.2⟩
        rw [hb9]
        clear hb9
        have hjn : S % n < n := Nat.mod_lt _ (by omega)
        obtain ⟨y, hy⟩ : ∃ y, ch.getD (S % n) 0 = y := ⟨_, rfl⟩
        have ⟨y1b, y2b⟩ := HC.out (S % n)
        rw [hy] at y1b y2b
        have HY := Lib.hid (show (ch.map (Value.int .i64))[S % n]? = some (.int .i64 y) by rw [List.getElem?_map, List.getElem?_eq_getElem (by have := HN.out; omega), Option.map_some, ← hy, List.getD_eq_getElem?_getD, List.getElem?_eq_getElem (by have := HN.out; omega)]; rfl)
        have HCN := Lib.hid (show chN ch S (li, lq) (a1, a2) = ch.set (S % n) (y + 1) by unfold chN; rw [← HSC.out, if_pos hch, ← HN.out]; simp only [Int.toNat_natCast]; rw [hy])
        clear hy k0 k1 k2 k3 s0 s1 z1 z2 z3
        go_upto_region 6 with fail
        refine wp_region_held_drew (S := fun W => Blk W g 60 #[.slice (some ⟨b, 0, none⟩) n cap, .int .i64 S, .int .i64 li, .int .i64 lq]) (by kernel_rfl) (BX.out.bw (Bw.drew (Bw.refl _))) (fun hS => ?_)
        have hbd := Bw.drew (Bw.refl w2)
        replace HO := Lib.hid (own_bw HO.out hbd)
        replace BS := Lib.hid (BS.out.bw hbd)
        replace HBW := Lib.hid (HBW.out.trans hbd)
        clear hbd
        generalize World.drew _ = wd at hS HO BS HBW ⊢
        refine take1 (i := 0) (some 32) rfl rfl (by kernel_rfl) (by kernel_rfl) (by kernel_rfl) (fun _ _ _ _ h => h) rfl hS ?_
        apply Exists.intro
        apply And.intro
        · intro W9 hW9; have y0 := hW9.cell (j := 0) rfl; have y1 := hW9.cell (j := 1) rfl; go_simp; try with_reducible rfl
        simp only [Act.put, List.setIfInBounds_toArray, List.set_cons_zero, List.set_cons_succ]
        refine take1 (i := 1) (some 33) rfl rfl (by kernel_rfl) (by kernel_rfl) (by kernel_rfl) (fun _ _ _ _ h => h) rfl hS ?_
        apply Exists.intro
        apply And.intro
        · intro W9 hW9; have y0 := hW9.cell (j := 0) rfl; have y1 := hW9.cell (j := 1) rfl; go_simp; try with_reducible rfl
        simp only [Act.put, List.setIfInBounds_toArray, List.set_cons_zero, List.set_cons_succ]
        refine take1 (i := 2) (some 34) rfl rfl (by kernel_rfl) (by kernel_rfl) (by kernel_rfl) (fun _ _ _ _ h => h) rfl hS ?_
        apply Exists.intro
        apply And.intro
        · intro W9 hW9; have y0 := hW9.cell (j := 0) rfl; have y1 := hW9.cell (j := 1) rfl; go_simp; try with_reducible rfl
        simp only [Act.put, List.setIfInBounds_toArray, List.set_cons_zero, List.set_cons_succ]
        refine take1 (i := 3) (some 35) rfl rfl (by kernel_rfl) (by kernel_rfl) (by kernel_rfl) (fun _ _ _ _ h => h) rfl hS ?_
        apply Exists.intro
        apply And.intro
        · intro W9 hW9; have y0 := hW9.cell (j := 0) rfl; have y1 := hW9.cell (j := 1) rfl; go_simp; try with_reducible rfl
        simp only [Act.put, List.setIfInBounds_toArray, List.set_cons_zero, List.set_cons_succ]
        refine take1 (i := 4) (some 36) rfl rfl (by kernel_rfl) (by kernel_rfl) (by kernel_rfl) (fun _ _ _ _ h => h) rfl hS ?_
        refine Exists.intro (.slice (some ⟨b, 0, none⟩) n cap) ?_
        apply And.intro
        · intro W9 hW9; have y0 := hW9.cell (j := 0) rfl; have y1 := hW9.cell (j := 1) rfl; go_simp; (try go_bits); (try with_reducible rfl); (try trivial)
        simp only [Act.put, List.setIfInBounds_toArray, List.set_cons_zero, List.set_cons_succ]
        refine take1 (i := 5) (some 37) rfl rfl (by kernel_rfl) (by kernel_rfl) (by kernel_rfl) (fun _ _ _ _ h => h) rfl hS ?_
        apply Exists.intro
        apply And.intro
        · intro W9 hW9; have y0 := hW9.cell (j := 0) rfl; have y1 := hW9.cell (j := 1) rfl; go_simp; try with_reducible rfl
        simp only [Act.put, List.setIfInBounds_toArray, List.set_cons_zero, List.set_cons_succ]
        refine take1 (i := 6) (some 38) rfl rfl (by kernel_rfl) (by kernel_rfl) (by kernel_rfl) (fun _ _ _ _ h => h) rfl hS ?_
        apply Exists.intro
        apply And.intro
        · intro W9 hW9; have y0 := hW9.cell (j := 0) rfl; have y1 := hW9.cell (j := 1) rfl; go_simp; try with_reducible rfl
        simp only [Act.put, List.setIfInBounds_toArray, List.set_cons_zero, List.set_cons_succ]
        refine take1 (i := 7) (some 39) rfl rfl (by kernel_rfl) (by kernel_rfl) (by kernel_rfl) (fun _ _ _ _ h => h) rfl hS ?_
        apply Exists.intro
        apply And.intro
        · intro W9 hW9; have y0 := hW9.cell (j := 0) rfl; have y1 := hW9.cell (j := 1) rfl; go_simp; try with_reducible rfl
        simp only [Act.put, List.setIfInBounds_toArray, List.set_cons_zero, List.set_cons_succ]
        refine take1 (i := 8) (some 40) rfl rfl (by kernel_rfl) (by kernel_rfl) (by kernel_rfl) (fun _ _ _ _ h => h) rfl hS ?_
        apply Exists.intro
        apply And.intro
        · intro W9 hW9; have y0 := hW9.cell (j := 0) rfl; have y1 := hW9.cell (j := 1) rfl; go_simp; try with_reducible rfl
        simp only [Act.put, List.setIfInBounds_toArray, List.set_cons_zero, List.set_cons_succ]
        refine take1 (i := 9) (some 41) rfl rfl (by kernel_rfl) (by kernel_rfl) (by kernel_rfl) (fun _ _ _ _ h => h) rfl hS ?_
        refine Exists.intro (.int .i64 S) ?_
        apply And.intro
        · intro W9 hW9; have y0 := hW9.cell (j := 0) rfl; have y1 := hW9.cell (j := 1) rfl; go_simp; (try go_bits); (try with_reducible rfl); (try trivial)
        simp only [Act.put, List.setIfInBounds_toArray, List.set_cons_zero, List.set_cons_succ]
        refine take1 (i := 10) (some 42) rfl rfl (by kernel_rfl) (by kernel_rfl) (by kernel_rfl) (fun _ _ _ _ h => h) rfl hS ?_
        apply Exists.intro
        apply And.intro
        · intro W9 hW9; have y0 := hW9.cell (j := 0) rfl; have y1 := hW9.cell (j := 1) rfl; go_simp; try with_reducible rfl
        simp only [Act.put, List.setIfInBounds_toArray, List.set_cons_zero, List.set_cons_succ]
        refine take1 (i := 11) (some 43) rfl rfl (by kernel_rfl) (by kernel_rfl) (by kernel_rfl) (fun _ _ _ _ h => h) rfl hS ?_
        apply Exists.intro
        apply And.intro
        · intro W9 hW9; have y0 := hW9.cell (j := 0) rfl; have y1 := hW9.cell (j := 1) rfl; go_simp; try with_reducible rfl
        simp only [Act.put, List.setIfInBounds_toArray, List.set_cons_zero, List.set_cons_succ]
        refine take1 (i := 12) (some 44) rfl rfl (by kernel_rfl) (by kernel_rfl) (by kernel_rfl) (fun _ _ _ _ h => h) rfl hS ?_
        apply Exists.intro
        apply And.intro
        · intro W9 hW9; have y0 := hW9.cell (j := 0) rfl; have y1 := hW9.cell (j := 1) rfl; go_simp; try with_reducible rfl
        simp only [Act.put, List.setIfInBounds_toArray, List.set_cons_zero, List.set_cons_succ]
        refine take1 (i := 13) (some 45) rfl rfl (by kernel_rfl) (by kernel_rfl) (by kernel_rfl) (fun _ _ _ _ h => h) rfl hS ?_
        apply Exists.intro
        apply And.intro
        · intro W9 hW9; have y0 := hW9.cell (j := 0) rfl; have y1 := hW9.cell (j := 1) rfl; go_simp; try with_reducible rfl
        simp only [Act.put, List.setIfInBounds_toArray, List.set_cons_zero, List.set_cons_succ]
        refine take1 (i := 14) (some 46) rfl rfl (by kernel_rfl) (by kernel_rfl) (by kernel_rfl) (fun _ _ _ _ h => h) rfl hS ?_
        refine Exists.intro (.slice (some ⟨b, 0, none⟩) n cap) ?_
        apply And.intro
        · intro W9 hW9; have y0 := hW9.cell (j := 0) rfl; have y1 := hW9.cell (j := 1) rfl; go_simp; (try go_bits); (try with_reducible rfl); (try trivial)
        simp only [Act.put, List.setIfInBounds_toArray, List.set_cons_zero, List.set_cons_succ]
        refine take1 (i := 15) (some 47) rfl rfl (by kernel_rfl) (by kernel_rfl) (by kernel_rfl) (fun _ _ _ _ h => h) rfl hS ?_
        refine Exists.intro (.int .i64 n) ?_
        apply And.intro
        · intro W9 hW9; have y0 := hW9.cell (j := 0) rfl; have y1 := hW9.cell (j := 1) rfl; go_simp; (try go_bits); (try with_reducible rfl); (try trivial)
        simp only [Act.put, List.setIfInBounds_toArray, List.set_cons_zero, List.set_cons_succ]
        refine take1 (i := 16) (some 48) rfl rfl (by kernel_rfl) (by kernel_rfl) (by kernel_rfl) (fun _ _ _ _ h => h) rfl hS ?_
        refine Exists.intro (.int .i64 ((S % n : Nat) : Int)) ?_
        apply And.intro
        · intro W9 hW9; have y0 := hW9.cell (j := 0) rfl; have y1 := hW9.cell (j := 1) rfl; go_simp; rw [if_neg (by omega), Int.tmod_eq_emod_of_nonneg (by omega)]
        simp only [Act.put, List.setIfInBounds_toArray, List.set_cons_zero, List.set_cons_succ]
        refine take1 (i := 17) (some 49) rfl rfl (by kernel_rfl) (by kernel_rfl) (by kernel_rfl) (fun _ _ _ _ h => h) rfl hS ?_
        refine Exists.intro (.pointer (some ⟨b, S % n, none⟩)) ?_
        apply And.intro
        · intro W9 hW9; have y0 := hW9.cell (j := 0) rfl; have y1 := hW9.cell (j := 1) rfl; go_simp; rw [if_pos ⟨Int.emod_nonneg _ (by omega), Int.emod_lt_of_pos _ (by omega)⟩]; first | rw [← Int.natCast_emod, Int.toNat_natCast] | rw [← Int.natCast_mod, Int.toNat_natCast]
        simp only [Act.put, List.setIfInBounds_toArray, List.set_cons_zero, List.set_cons_succ]
        refine wpAnyH_ready (rs := [18]) (by kernel_rfl) (by simp) ?_
        refine AllReadyH.cons rfl (fun K hK => ?_) ?_
        have kc := (HO.out.cellAt (S % n) (by omega)).trans HY.out
        go_simp
        clear kc
        refine hK.out _ _ hS (fun hS => ?_)
        clear hK K
        refine take1 (i := 19) (some 51) rfl rfl (by kernel_rfl) (by kernel_rfl) (by kernel_rfl) (fun _ _ _ _ h => h) rfl hS ?_
        refine Exists.intro (.int .i64 (y + 1)) ?_
        apply And.intro
        · intro W9 hW9; have y0 := hW9.cell (j := 0) rfl; have y1 := hW9.cell (j := 1) rfl; go_simp; (try go_bits); (try with_reducible rfl); (try trivial)
        simp only [Act.put, List.setIfInBounds_toArray, List.set_cons_zero, List.set_cons_succ]
        refine take1 (i := 20) (some 52) rfl rfl (by kernel_rfl) (by kernel_rfl) (by kernel_rfl) (fun _ _ _ _ h => h) rfl hS ?_
        refine Exists.intro (.pointer (some ⟨b, S % n, none⟩)) ?_
        apply And.intro
        · intro W9 hW9; have y0 := hW9.cell (j := 0) rfl; have y1 := hW9.cell (j := 1) rfl; go_simp; rw [if_pos ⟨Int.emod_nonneg _ (by omega), Int.emod_lt_of_pos _ (by omega)⟩]; first | rw [← Int.natCast_emod, Int.toNat_natCast] | rw [← Int.natCast_mod, Int.toNat_natCast]
        simp only [Act.put, List.setIfInBounds_toArray, List.set_cons_zero, List.set_cons_succ]
        refine wpAnyH_ready (rs := [21]) (by kernel_rfl) (by simp) ?_
        refine AllReadyH.cons rfl (fun K hK => ?_) ?_
        have kc := (HO.out.cellAt (S % n) (by omega)).trans HY.out
        have kf := HO.out.frozenAt (S % n)
        go_simp
        have HO3 := Lib.hid (HO.out.stored (S % n) (.int .i64 (y + 1))).1
        have HB3 := Lib.hid (hS.set_other (Ne.symm hbg) (S % n) (.int .i64 (y + 1)))
        refine hK.out _ _ HB3.out (fun hS => ?_)
        clear hK K
        refine wpAnyH_done (by kernel_rfl) ?_ _
        rotate_left
        exact AllReadyH.nil
        exact AllReadyH.nil
        have HB4 := Lib.hid (Below.setCell (Below.mono HBW.out HBL.out) (p := ⟨b, S % n, none⟩) (HO.out.lt b rfl).1 (.int .i64 (y + 1)))
        have hwb : b ≠ w.heap.size := by
          intro e
          have h9 := own_apart HO.out (show wd.ownsRow 0 34 2 (.slice (some ⟨w.heap.size, 0, none⟩) 1 1) 1 [.int .i64 a1, .int .i64 a2] from ⟨rfl, .inr ⟨w.heap.size, 1, _, rfl, Nat.zero_le _, BS.out, by decide, by decide, rfl, rfl⟩⟩) (by decide)
          exact h9 b rfl (by rw [e]; rfl)
        have BS3 := BS.out.set_other (Ne.symm hwb) (S % n) (.int .i64 (y + 1))
        generalize World.setCell _ _ _ = w3 at HO3 HB3 HB4 BS3 ⊢
        have k0 : w3.cell? ⟨g, 0, none⟩ = some (.slice (some ⟨b, 0, none⟩) n cap) := HB3.out.cell rfl
        have k1 : w3.cell? ⟨g, 1, none⟩ = some (.int .i64 S) := HB3.out.cell rfl
        have k2 : w3.cell? ⟨g, 2, none⟩ = some (.int .i64 li) := HB3.out.cell rfl
        have k3 : w3.cell? ⟨g, 3, none⟩ = some (.int .i64 lq) := HB3.out.cell rfl
        have s0 : w3.cell? ⟨w.heap.size, 0, none⟩ = some (.int .i64 a1) := BS3.cell rfl
        have s1 : w3.cell? ⟨w.heap.size, 1, none⟩ = some (.int .i64 a2) := BS3.cell rfl
        have z1 := HB3.out.frozen 1
        have z2 := HB3.out.frozen 2
        have z3 := HB3.out.frozen 3
        clear BS3
        go_wp2
        go_ret
        refine ⟨rfl, Below.setCell (Below.setCell (Below.setCell HB4.out (p := ⟨g, 1, none⟩) hg _) (p := ⟨g, 2, none⟩) hg _) (p := ⟨g, 3, none⟩) hg _, fun _ => ⟨?_, ?_⟩⟩
        · have h9 := ((HB3.out.set 1 (.int .i64 ((S : Int) + 1))).set 2 (.int .i64 a1)).set 3 (.int .i64 a2)
          simpa using h9
        · have h9 := own_cellT (own_cellT (own_cellT HO3.out HB3.out (by decide) 1 (.int .i64 ((S : Int) + 1))) (HB3.out.set 1 (.int .i64 ((S : Int) + 1))) (by decide) 2 (.int .i64 a1)) ((HB3.out.set 1 (.int .i64 ((S : Int) + 1))).set 2 (.int .i64 a1)) (by decide) 3 (.int .i64 a2)
          rw [HCN.out, List.map_set]
          exact h9
      · have hb9 : (decide (0 < (S : Int)) && decide (sc < 0)) = false := by
          rw [Bool.and_eq_false_iff]
          rcases Classical.not_and_iff_not_or_not.1 hch with h | h
          · exact .inl (decide_eq_false h)
          · exact .inr (decide_eq_false h)
        rw [hb9]
        clear hb9
        have HCN := Lib.hid (show chN ch S (li, lq) (a1, a2) = ch by unfold chN; rw [← HSC.out, if_neg hch])
        go_wp2
        go_ret
        refine ⟨rfl, Below.setCell (Below.setCell (Below.setCell (Below.mono HBW.out HBL.out) (p := ⟨g, 1, none⟩) hg _) (p := ⟨g, 2, none⟩) hg _) (p := ⟨g, 3, none⟩) hg _, fun _ => ⟨?_, ?_⟩⟩
        · have h9 := ((BX.out.set 1 (.int .i64 ((S : Int) + 1))).set 2 (.int .i64 a1)).set 3 (.int .i64 a2)
          simpa using h9
        · have h9 := own_cellT (own_cellT (own_cellT HO.out BX.out (by decide) 1 (.int .i64 ((S : Int) + 1))) (BX.out.set 1 (.int .i64 ((S : Int) + 1))) (by decide) 2 (.int .i64 a1)) ((BX.out.set 1 (.int .i64 ((S : Int) + 1))).set 2 (.int .i64 a1)) (by decide) 3 (.int .i64 a2)
          rw [HCN.out]
          exact h9
end Go.Proofs.Sky
