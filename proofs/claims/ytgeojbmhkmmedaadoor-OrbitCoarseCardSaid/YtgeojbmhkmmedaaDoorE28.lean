/-
  lemmas for the theorems of this claim. No conditions beyond those written in the statements.
-/
import Derived.Test.YtgeojbmhkmmedaaDoorQ28
import Derived.Deep.CutRange
import Derived.BigRegion
import Derived.Test.YtgeojbmhkmmedaaDoorFA25
set_option linter.unusedVariables false
set_option linter.unusedSimpArgs false
set_option linter.unnecessarySimpa false
namespace Go.Proofs.Sky
open Go Go.RowKit Go.Shelf
set_option maxHeartbeats 2000000
set_option maxRecDepth 8000
/-! chapter 28: over -/
section
variable {P : Program} {Q : Exit → Act → World → Prop}
theorem wp_alloc_new28 {o : Oper} {a : Act} {w : World} {K : Act → World → Prop} (ty : TypeId) (ho : o.op = .alloc ty) (dst : Option Tmp) (hd : o.dst = dst) (cs : Array Value) (hz : (zeroValue ty).run P w = .ok (.agg cs) w)
    (h : ∀ g w', w.heap.size ≤ g → Blk w' g ty cs → Bw w w' → K (a.put dst (.pointer (some ⟨g, 0, none⟩))) w') : o.wp P a w K Q :=
  wp_alloc_agg ty ho dst hd cs hz (h _ _ (Nat.le_refl _) (Blk.new w ty cs) (Bw.alloc (Bw.refl w) _))
end
theorem zeroA4 (w : World) : (zeroValue 64).run Tryd.prog w = .ok (.agg #[.int .u64 0, .int .u64 0, .int .u64 0, .int .u64 0]) w := by kernel_rfl
def overR (s : Bool) (N V : Nat) : Int := if s then -(((N + N + V) / (V + V) : Nat) : Int) else (((N + N + V) / (V + V) : Nat) : Int)
theorem over28_any (s t : Bool) (N V : Nat) (w : World) (hV : 0 < V) (h4 : 4 * V ≤ M256) (hT : N + N + V < M256) (hq : (N + N + V) / (V + V) < 9223372036854775808) :
    Calls Tryd.prog 36 #[.agg (nV s N), .agg (nV t V)] w fun e w' => e = .returned (.int .i64 (overR s N V)) ∧ Bw w w' := by
  have HH := Lib.hid (And.intro hV (And.intro h4 (And.intro hT hq)))
  clear hV h4 hT hq
  have AD1 := Lib.hid (fun W => add_any N N W)
  have AD2 := Lib.hid (fun W => add_any (N + N) V W)
  have AD3 := Lib.hid (fun W => add_any V V W)
  unfold pV at AD1 AD2 AD3
  obtain ⟨g, hg⟩ : ∃ g, w.heap.size = g := ⟨_, rfl⟩
  have HW := Lib.hid (Bw.alloc (Bw.alloc (Bw.refl w) (.cells (wV s (d64 N)) 66)) (.cells (wV t (d64 V)) 66))
  have KA := Lib.hid ((Blk.new w 66 (wV s (d64 N))).alloc (.cells (wV t (d64 V)) 66))
  have KB := Lib.hid (Blk.new (w.alloc (.cells (wV s (d64 N)) 66)) 66 (wV t (d64 V)))
  simp only [World.size_alloc] at KB
  have hx0 : (wV s (d64 N))[0]? = some (.bool s) := rfl
  have hoA : (wV s (d64 N)).all (·.oneCell') = true := by simp [wV, Value.oneCell']
  have hoB : (wV t (d64 V)).all (·.oneCell') = true := by simp [wV, Value.oneCell']
  have HHA : Hid (∀ W b T, Blk W b T (wV s (d64 N)) → W.rangeAt b 1 (oV (d64 N)).toList) := Lib.hid (fun W b T h => wV_range h)
  have HHB : Hid (∀ W b T, Blk W b T (wV t (d64 V)) → W.rangeAt b 1 (oV (d64 V)).toList) := Lib.hid (fun W b T h => wV_range h)
  unfold nV
  obtain ⟨DA, hDA⟩ : ∃ DA, DA = wV s (d64 N) := ⟨_, rfl⟩
  obtain ⟨DB, hDB⟩ : ∃ DB, DB = wV t (d64 V) := ⟨_, rfl⟩
  rw [← hDA] at HW KA KB hx0 hoA HHA ⊢
  rw [← hDB] at HW KA KB hoB HHB ⊢
  clear hDA hDB
  have HG := Lib.hid hg
  rw [hg] at KA KB
  go_enter Tryd.func36, Tryd.ntmps36
  go_upto_region 1 with fail
  obtain ⟨W0, hW0⟩ : ∃ W0, (w.alloc (.cells DA 66)).alloc (.cells DB 66) = W0 := ⟨_, rfl⟩
  rw [hW0] at KA KB HW ⊢
  clear hW0 hg hoA hoB
  go_cut [5] from 64 (fun s5 wx => ∃ g5, s5 = .pointer (some ⟨g5, 0, none⟩) ∧ W0.heap.size ≤ g5 ∧ Hid (Bw W0 wx) ∧ Hid (Blk wx g5 64 (oV (d64 (N + N + V)))))
  case first =>
    refine wp_region_held_drew (S := Bw W0) (by kernel_rfl) (Bw.drew (Bw.refl _)) (fun hS => ?_)
    generalize World.drew _ = wd at hS ⊢
    refine take1 (i := 0) (some 12) rfl rfl (by kernel_rfl) (by kernel_rfl) (by kernel_rfl) (fun _ _ _ _ h => h) rfl hS ?_
    apply Exists.intro
    apply And.intro
    · intro W9 hW9; skip; go_simp; try with_reducible rfl
    simp only [Act.put, List.setIfInBounds_toArray, List.set_cons_zero, List.set_cons_succ]
    refine take1 (i := 1) (some 13) rfl rfl (by kernel_rfl) (by kernel_rfl) (by kernel_rfl) (fun _ _ _ _ h => h) rfl hS ?_
    refine Exists.intro (.agg (oV (d64 N))) ?_
    apply And.intro
    · intro W9 hW9; skip; exact run_load_parts _ rfl g rfl (HHA.out _ _ _ (KA.out.bw hW9))
    simp only [Act.put, List.setIfInBounds_toArray, List.set_cons_zero, List.set_cons_succ]
    refine take1 (i := 2) (some 14) rfl rfl (by kernel_rfl) (by kernel_rfl) (by kernel_rfl) (fun _ _ _ _ h => h) rfl hS ?_
    apply Exists.intro
    apply And.intro
    · intro W9 hW9; skip; go_simp; try with_reducible rfl
    simp only [Act.put, List.setIfInBounds_toArray, List.set_cons_zero, List.set_cons_succ]
    refine take1 (i := 3) (some 15) rfl rfl (by kernel_rfl) (by kernel_rfl) (by kernel_rfl) (fun _ _ _ _ h => h) rfl hS ?_
    refine Exists.intro (.agg (oV (d64 N))) ?_
    apply And.intro
    · intro W9 hW9; skip; exact run_load_parts _ rfl g rfl (HHA.out _ _ _ (KA.out.bw hW9))
    simp only [Act.put, List.setIfInBounds_toArray, List.set_cons_zero, List.set_cons_succ]
    refine take1 (i := 5) (some 17) rfl rfl (by kernel_rfl) (by kernel_rfl) (by kernel_rfl) (fun _ _ _ _ h => h) rfl hS ?_
    apply Exists.intro
    apply And.intro
    · intro W9 hW9; skip; go_simp; try with_reducible rfl
    simp only [Act.put, List.setIfInBounds_toArray, List.set_cons_zero, List.set_cons_succ]
    refine take1 (i := 6) (some 18) rfl rfl (by kernel_rfl) (by kernel_rfl) (by kernel_rfl) (fun _ _ _ _ h => h) rfl hS ?_
    refine Exists.intro (.agg (oV (d64 V))) ?_
    apply And.intro
    · intro W9 hW9; skip; exact run_load_parts _ rfl (g + 1) rfl (HHB.out _ _ _ (KB.out.bw hW9))
    simp only [Act.put, List.setIfInBounds_toArray, List.set_cons_zero, List.set_cons_succ]
    refine wpAnyH_ready (rs := [4, 8]) (by kernel_rfl) (by simp) ?_
    refine AllReadyH.cons rfl (fun K hK => ?_) ?_
    go_simp
    go_wp2_with (go_at_call 57; (with_reducible refine Calls.mono (AD1.out _) ?_); rintro e1 w13 ⟨rfl, hb13⟩)
    refine hK.out _ _ (hS.trans hb13) (fun hS => ?_)
    clear hK K
    clear hb13
    refine wpAnyH_ready (rs := [7, 8]) (by kernel_rfl) (by simp) ?_
    refine AllReadyH.cons rfl (fun K hK => ?_) ?_
    go_simp
    go_wp2_with (go_at_call 57; (with_reducible refine Calls.mono (AD2.out _) ?_); rintro e1 w13 ⟨rfl, hb13⟩)
    refine hK.out _ _ (hS.trans hb13) (fun hS => ?_)
    clear hK K
    clear hb13
    refine wpAnyH_ready (rs := [8]) (by kernel_rfl) (by simp) ?_
    refine AllReadyH.cons rfl (fun K hK => ?_) ?_
    rw [if_pos (by rfl)]
    refine wp_alloc_new28 64 rfl (some 5) rfl _ (zeroA4 _) ?_
    intro g5 w5 hg5 hN hbw
    simp only [Act.put, List.setIfInBounds_toArray, List.set_cons_zero, List.set_cons_succ]
    have KT := Lib.hid hN
    have HT5 := Lib.hid (Nat.le_trans hS.size hg5)
    clear hN
    refine hK.out _ _ (hS.trans hbw) (fun hS => ?_)
    clear hK K
    clear hbw hg5
    refine wpAnyH_ready (rs := [9]) (by kernel_rfl) (by simp) ?_
    refine AllReadyH.cons rfl (fun K hK => ?_) ?_
    rw [if_pos (by rfl)]
    refine wp_store_row0 64 _ _ rfl rfl g5 (oV (d64 (N + N + V))) rfl rfl 64 #[.int .u64 0, .int .u64 0, .int .u64 0, .int .u64 0] KT.out (by kernel_rfl) rfl (by simp [Value.oneCell', oV]) ?_
    replace KT := Lib.hid (KT.out.row (oV (d64 (N + N + V))))
    refine hK.out _ _ (Bw.setRow hS HT5.out (oV (d64 (N + N + V)))) (fun hS => ?_)
    clear hK K
    refine wpAnyH_done (by kernel_rfl) ?_ _
    rotate_left
    exact AllReadyH.nil
    exact AllReadyH.nil
    refine AllReadyH.cons rfl (fun K hK => ?_) ?_
    rw [if_pos (by rfl)]
    refine wp_alloc_new28 64 rfl (some 5) rfl _ (zeroA4 _) ?_
    intro g5 w5 hg5 hN hbw
    simp only [Act.put, List.setIfInBounds_toArray, List.set_cons_zero, List.set_cons_succ]
    have KT := Lib.hid hN
    have HT5 := Lib.hid (Nat.le_trans hS.size hg5)
    clear hN
    refine hK.out _ _ (hS.trans hbw) (fun hS => ?_)
    clear hK K
    clear hbw hg5
    refine wpAnyH_ready (rs := [7]) (by kernel_rfl) (by simp) ?_
    refine AllReadyH.cons rfl (fun K hK => ?_) ?_
    go_simp
    go_wp2_with (go_at_call 57; (with_reducible refine Calls.mono (AD2.out _) ?_); rintro e1 w13 ⟨rfl, hb13⟩)
    replace KT := Lib.hid (KT.out.bw hb13)
    refine hK.out _ _ (hS.trans hb13) (fun hS => ?_)
    clear hK K
    clear hb13
    refine wpAnyH_ready (rs := [9]) (by kernel_rfl) (by simp) ?_
    refine AllReadyH.cons rfl (fun K hK => ?_) ?_
    rw [if_pos (by rfl)]
    refine wp_store_row0 64 _ _ rfl rfl g5 (oV (d64 (N + N + V))) rfl rfl 64 #[.int .u64 0, .int .u64 0, .int .u64 0, .int .u64 0] KT.out (by kernel_rfl) rfl (by simp [Value.oneCell', oV]) ?_
    replace KT := Lib.hid (KT.out.row (oV (d64 (N + N + V))))
    refine hK.out _ _ (Bw.setRow hS HT5.out (oV (d64 (N + N + V)))) (fun hS => ?_)
    clear hK K
    refine wpAnyH_done (by kernel_rfl) ?_ _
    rotate_left
    exact AllReadyH.nil
    exact AllReadyH.nil
    exact AllReadyH.nil
    refine AllReadyH.cons rfl (fun K hK => ?_) ?_
    rw [if_pos (by rfl)]
    refine wp_alloc_new28 64 rfl (some 5) rfl _ (zeroA4 _) ?_
    intro g5 w5 hg5 hN hbw
    simp only [Act.put, List.setIfInBounds_toArray, List.set_cons_zero, List.set_cons_succ]
    have KT := Lib.hid hN
    have HT5 := Lib.hid (Nat.le_trans hS.size hg5)
    clear hN
    refine hK.out _ _ (hS.trans hbw) (fun hS => ?_)
    clear hK K
    clear hbw hg5
    refine wpAnyH_ready (rs := [4]) (by kernel_rfl) (by simp) ?_
    refine AllReadyH.cons rfl (fun K hK => ?_) ?_
    go_simp
    go_wp2_with (go_at_call 57; (with_reducible refine Calls.mono (AD1.out _) ?_); rintro e1 w13 ⟨rfl, hb13⟩)
    replace KT := Lib.hid (KT.out.bw hb13)
    refine hK.out _ _ (hS.trans hb13) (fun hS => ?_)
    clear hK K
    clear hb13
    refine wpAnyH_ready (rs := [7]) (by kernel_rfl) (by simp) ?_
    refine AllReadyH.cons rfl (fun K hK => ?_) ?_
    go_simp
    go_wp2_with (go_at_call 57; (with_reducible refine Calls.mono (AD2.out _) ?_); rintro e1 w13 ⟨rfl, hb13⟩)
    replace KT := Lib.hid (KT.out.bw hb13)
    refine hK.out _ _ (hS.trans hb13) (fun hS => ?_)
    clear hK K
    clear hb13
    refine wpAnyH_ready (rs := [9]) (by kernel_rfl) (by simp) ?_
    refine AllReadyH.cons rfl (fun K hK => ?_) ?_
    rw [if_pos (by rfl)]
    refine wp_store_row0 64 _ _ rfl rfl g5 (oV (d64 (N + N + V))) rfl rfl 64 #[.int .u64 0, .int .u64 0, .int .u64 0, .int .u64 0] KT.out (by kernel_rfl) rfl (by simp [Value.oneCell', oV]) ?_
    replace KT := Lib.hid (KT.out.row (oV (d64 (N + N + V))))
    refine hK.out _ _ (Bw.setRow hS HT5.out (oV (d64 (N + N + V)))) (fun hS => ?_)
    clear hK K
    refine wpAnyH_done (by kernel_rfl) ?_ _
    rotate_left
    exact AllReadyH.nil
    exact AllReadyH.nil
    exact AllReadyH.nil
    exact AllReadyH.nil
    all_goals
      go_wp2
      go_meet
      exact ⟨g5, rfl, HT5.out, Lib.hid hS, KT⟩
  case rest =>
    obtain ⟨g5, rfl, h5, hb1, KT⟩ := hcut
    have hb1 := hb1.out
    have HT5 := Lib.hid (show g + 1 < g5 by have := KB.out.lt; omega)
    replace KA := Lib.hid (KA.out.bw hb1); replace KB := Lib.hid (KB.out.bw hb1); replace HW := Lib.hid (HW.out.trans hb1)
    clear hb1 AD1 AD2 h5
    obtain ⟨w1, hw1⟩ : ∃ w1, w1 = wc := ⟨_, rfl⟩
    subst hw1
    obtain ⟨T, hT⟩ : ∃ T, T = N + N + V := ⟨_, rfl⟩
    rw [← hT] at KT
    obtain ⟨d, hd⟩ : ∃ d, d = V + V := ⟨_, rfl⟩
    rw [← hd] at AD3
    have HTd := Lib.hid (And.intro hT hd)
    clear hT hd
    go_upto_region 3 with (first | ((with_reducible refine at_load 64 (.tmp 20) ?_); refine wpList_load_parts rfl (.tmp 20) rfl (g + 1) rfl (HHB.out _ _ _ KB.out) ?_) | ((with_reducible refine at_load 64 (.tmp 22) ?_); refine wpList_load_parts rfl (.tmp 22) rfl (g + 1) rfl (HHB.out _ _ _ KB.out) ?_) | (go_at_call 57; (with_reducible refine Calls.mono (AD3.out _) ?_); rintro e1 w2 ⟨rfl, hb1⟩; replace KA := Lib.hid (KA.out.bw hb1); replace KB := Lib.hid (KB.out.bw hb1); replace KT := Lib.hid (KT.out.bw hb1); replace HW := Lib.hid (HW.out.trans hb1); clear hb1) | ((with_reducible refine at_store 64 (.tmp 6) (.tmp 24) ?_); refine wpList_store_row rfl 64 (.tmp 6) (.tmp 24) rfl w2.heap.size (oV (d64 d)) rfl rfl 64 _ (Blk.new w2 64 #[.int .u64 0, .int .u64 0, .int .u64 0, .int .u64 0]) (by kernel_rfl) rfl (by simp [Value.oneCell', oV, wV, nV]) ?_))
    obtain ⟨g6, hg6⟩ : ∃ g6, w2.heap.size = g6 := ⟨_, rfl⟩
    have hb1 := Bw.alloc (Bw.setRow (Bw.alloc (Bw.refl w2) (.cells #[.int .u64 0, .int .u64 0, .int .u64 0, .int .u64 0] 64)) (Nat.le_of_eq hg6) (oV (d64 d))) (.cells #[.int .u64 0, .int .u64 0, .int .u64 0, .int .u64 0] 64)
    have KD := Lib.hid (((Blk.new w2 64 #[.int .u64 0, .int .u64 0, .int .u64 0, .int .u64 0]).row (oV (d64 d))).alloc (.cells #[.int .u64 0, .int .u64 0, .int .u64 0, .int .u64 0] 64))
    have KR := Lib.hid (show Blk (((w2.alloc (.cells #[.int .u64 0, .int .u64 0, .int .u64 0, .int .u64 0] 64)).setRow w2.heap.size (oV (d64 d))).alloc (.cells #[.int .u64 0, .int .u64 0, .int .u64 0, .int .u64 0] 64)) (w2.heap.size + 1) 64 (oV (fun _ => 0)) from by have h9 := Blk.new ((w2.alloc (.cells #[.int .u64 0, .int .u64 0, .int .u64 0, .int .u64 0] 64)).setRow w2.heap.size (oV (d64 d))) 64 #[.int .u64 0, .int .u64 0, .int .u64 0, .int .u64 0]; simp only [setRow_size, World.size_alloc] at h9; exact h9)
    have HG6 := Lib.hid (show g5 < g6 by have := KT.out.lt; omega)
    go_upto_region 4 with fail
    rw [hg6] at KD KR
    replace KA := Lib.hid (KA.out.bw hb1); replace KT := Lib.hid (KT.out.bw hb1); replace HW := Lib.hid (HW.out.trans hb1)
    clear hb1
    generalize World.alloc (World.setRow (World.alloc w2 _) _ _) _ = w3 at *
    clear hg6
    go_wp2
    go_loopg [8, 9] 256 (fun gg s8 s9 wr => ∃ k : Nat, k ≤ 256 ∧ k ≤ gg ∧ s9 = .int .i64 ((k : Int) - 1) ∧ s8 = .int .u64 ((T / 2 ^ k / d % 18446744073709551616 : Nat) : Int) ∧ Hid (Bw w wr) ∧ Hid (Blk wr g 66 DA) ∧ Hid (Blk wr g5 64 (oV (d64 T))) ∧ Hid (Blk wr g6 64 (oV (d64 d))) ∧ Hid (Blk wr (g6 + 1) 64 (oV (d64 (T / 2 ^ k % d)))))
    case atStart =>
      have e0 : T / 2 ^ 256 = 0 := Nat.div_eq_of_lt (by have h9 := HH.out.2.2.1; rw [← HTd.out.1] at h9; unfold M256 at h9; exact h9)
      have e1 : oV (d64 (0 % d)) = oV (fun _ => 0) := oV_congr (fun j hj => by rw [Nat.zero_mod]; simp [d64])
      exact ⟨256, by omega, by omega, rfl, by rw [e0, Nat.zero_div]; rfl, HW, KA, KT, KD, by rw [e0, e1]; exact KR⟩
    case round =>
      clear KA KT KD KR HW KB
      obtain ⟨k, hk, hgg, rfl, rfl, HW, KA, KT, KD, KR⟩ := hrel
      obtain ⟨wb, rfl⟩ : ∃ wb, wb = wr := ⟨_, rfl⟩
      by_cases c3 : k = 0
      case pos =>
        subst c3
        have hii : (((0 : Nat) : Int)) - 1 = -1 := by omega
        rw [hii]
        clear hii
        have x0 := KA.out.cell hx0
        have hq := HH.out.2.2.2
        rw [← HTd.out.1, ← HTd.out.2] at hq
        have eq : T / 2 ^ 0 / d % 18446744073709551616 = T / d := by rw [Nat.pow_zero, Nat.div_one]; exact Nat.mod_eq_of_lt (by omega)
        rw [eq]
        have HQE := Lib.hid (show overR s N V = if s then -((T / d : Nat) : Int) else ((T / d : Nat) : Int) by unfold overR; rw [HTd.out.1, HTd.out.2])
        clear eq
        generalize T / d = Q at *
        cases s with
        | true =>
          go_wp2
          go_ret
          exact ⟨by rw [HQE.out]; rfl, HW.out⟩
        | false =>
          go_wp2
          go_ret
          exact ⟨by rw [HQE.out]; rfl, HW.out⟩
      case neg =>
        obtain ⟨i, rfl⟩ : ∃ i, k = i + 1 := ⟨k - 1, by omega⟩
        have hii : (((i + 1 : Nat) : Int)) - 1 = (i : Int) := by omega
        rw [hii]
        clear hii c3
        have c3z : (0 : Int) ≤ i := by omega
        have c4z : (i : Int) < 256 := by omega
        obtain ⟨R, hR⟩ : ∃ R, R = T / 2 ^ (i + 1) % d := ⟨_, rfl⟩
        obtain ⟨Q, hQ⟩ : ∃ Q, Q = T / 2 ^ (i + 1) / d % 18446744073709551616 := ⟨_, rfl⟩
        rw [← hR] at KR
        rw [← hQ]
        have HRQ := Lib.hid (And.intro hR hQ)
        clear hR hQ
        have AD := Lib.hid (fun W => add_any R R W)
        unfold pV at AD
        go_upto_region 9 with (first | ((with_reducible refine at_load 64 (.tmp 7) ?_); refine wpList_load_row rfl 64 _ rfl (g6 + 1) rfl 64 (oV (d64 R)) (0, 0) _ KR.out Tryd.underlying64 rfl (by kernel_rfl) ?_) | (go_at_call 57; (with_reducible refine Calls.mono (AD.out _) ?_); rintro e1 w4 ⟨rfl, hb1⟩; replace KA := Lib.hid (KA.out.bw hb1); replace KT := Lib.hid (KT.out.bw hb1); replace KD := Lib.hid (KD.out.bw hb1); replace KR := Lib.hid (KR.out.bw hb1); replace HW := Lib.hid (HW.out.trans hb1); clear hb1) | ((with_reducible refine at_store 64 (.tmp 7) (.tmp 31) ?_); refine wpList_store_row rfl 64 (.tmp 7) (.tmp 31) rfl (g6 + 1) (oV (d64 (R + R))) rfl rfl 64 _ KR.out (by kernel_rfl) rfl (by simp [Value.oneCell', oV, wV, nV]) ?_))
        have hkx := Kx.row KR.out.lt (oV (d64 (R + R)))
        replace KR := Lib.hid (KR.out.row (oV (d64 (R + R))))
        replace HW := Lib.hid (hkx.bw HW.out (by have := HG.out; have := HT5.out; have := HG6.out; omega))
        replace KA := Lib.hid (hkx.blk KA.out (by have := HT5.out; have := HG6.out; omega))
        replace KT := Lib.hid (hkx.blk KT.out (by have := HG6.out; omega))
        replace KD := Lib.hid (hkx.blk KD.out (by omega))
        clear hkx AD
        generalize World.setRow w4 _ _ = w5 at *
        have hi4 : i / 64 < 4 := by omega
        have r0 := KR.out.cell (oV_at (d64 (R + R)) 0 (by omega))
        have f0 := KR.out.frozen 0
        have t0 := KT.out.cell (oV_at (d64 T) (i / 64) hi4)
        have KRlt := Lib.hid KR.out.lt
        have hbb : T / 2 ^ i % 2 < 2 := Nat.mod_lt _ (by decide)
        have HA0 := Lib.hid (show bits .or .u64 ((d64 (R + R) 0 : Nat) : Int) (bits .and .u64 ((d64 T (i / 64) : Int) / 2 ^ (i % 64)) 1) = ((d64 (R + R + T / 2 ^ i % 2) 0 : Nat) : Int) by rw [or_bit_u64 _ _ _ (d64_lt _ _) (even0 R) (d64_lt _ _), bit_at, d64_bit0 _ _ hbb])
        generalize d64 (R + R) 0 = a0 at *
        generalize d64 T (i / 64) = t1 at *
        clear hbb
        have hw1 : IntKind.i64.wrap ((i : Int) / 64) = ((i / 64 : Nat) : Int) := by rw [IntKind.wrap_i64]; omega
        have hw2 : IntKind.i64.wrap ((i : Int) % 64) = ((i % 64 : Nat) : Int) := by rw [IntKind.wrap_i64]; omega
        have hw3 : (0 : Int) ≤ ((i / 64 : Nat) : Int) ∧ ((i / 64 : Nat) : Int) < 4 := by omega
        (try simp only [Act.put])
        go_region
        clear hw1 hw2 hw3 t0 f0 r0
        generalize bits .or .u64 (a0 : Int) (bits .and .u64 ((t1 : Int) / 2 ^ (i % 64)) 1) = BV at *
        replace KR := Lib.hid ((KR.out.set 0 (.int .u64 BV)).bw (Bw.drew (Bw.refl _)))
        have hkx := Kx.set (j := 0) KRlt.out (.int .u64 BV)
        have hks := hkx.trans (Kx.of_bw (Bw.drew (Bw.refl _)) (by have := KR.out.lt; simp at this ⊢; omega))
        replace HW := Lib.hid (hks.bw HW.out (by have := HG.out; have := HT5.out; have := HG6.out; omega))
        replace KA := Lib.hid (hks.blk KA.out (by have := HT5.out; have := HG6.out; omega))
        replace KT := Lib.hid (hks.blk KT.out (by have := HG6.out; omega))
        replace KD := Lib.hid (hks.blk KD.out (by omega))
        clear hkx hks
        generalize World.drew (World.setCell w5 _ _) = w6 at *
        rw [HA0.out, oV_set _ 0 (by omega)] at KR
        obtain ⟨b, hb⟩ : ∃ b, b = T / 2 ^ i % 2 := ⟨_, rfl⟩
        have hb2 : b < 2 := by rw [hb]; exact Nat.mod_lt _ (by decide)
        rw [← hb] at KR
        rw [show oV (fun j => if j = 0 then d64 (R + R + b) 0 else d64 (R + R) j) = oV (d64 (R + R + b)) from oV_congr (fun j hj => by by_cases e : j = 0; (rw [if_pos e, e]); (rw [if_neg e]; exact (d64_bit R b j hb2 (by omega)).symm))] at KR
        have HB := Lib.hid (And.intro hb hb2)
        clear hb hb2 HA0
        have HRd := Lib.hid (show R < d by rw [HRQ.out.1]; exact Nat.mod_lt _ (by have := HTd.out.2; have := HH.out.1; omega))
        have HDM := Lib.hid (show d < M256 ∧ R + R + b < M256 by have := HTd.out.2; have := HH.out; have := HRd.out; have := HB.out.2; omega)
        have HST := Lib.hid (div_step (d := d) (X := T / 2 ^ (i + 1)) (b := b) (show 0 < d by have := HTd.out.2; have := HH.out.1; omega) HB.out.2 HRQ.out.1 HRQ.out.2)
        have HXE := Lib.hid (show 2 * (T / 2 ^ (i + 1)) + b = T / 2 ^ i by rw [HB.out.1]; exact (half_div T i).symm)
        rw [HXE.out] at HST
        have HQ := Lib.hid (show Q < 18446744073709551616 by rw [HRQ.out.2]; exact Nat.mod_lt _ (by decide))
        obtain ⟨Y, hY⟩ : ∃ Y, Y = R + R + b := ⟨_, rfl⟩
        rw [← hY] at KR HST HDM
        clear hY
        obtain ⟨Q2, hQ2⟩ : ∃ Q2, Q2 = Q * 2 % 18446744073709551616 := ⟨_, rfl⟩
        rw [← hQ2] at HST
        have hwq : IntKind.u64.wrap ((Q : Int) * 2) = (Q2 : Int) := by rw [IntKind.wrap_u64, hQ2]; omega
        have hor : bits .or .u64 (Q2 : Int) 1 = ((Q2 + 1 : Nat) : Int) := by
          rw [show (1 : Int) = ((1 : Nat) : Int) from rfl, bits_or_u64_nat _ _ (by rw [hQ2]; exact Nat.mod_lt _ (by decide)) (by decide), or_bit Q2 1 (by rw [hQ2]; omega) (by decide)]
        clear hQ2
        by_cases cz : Y < d
        case pos =>
          have LS := Lib.hid (fun W => less_lt HDM.out.2 HDM.out.1 cz W)
          have HE := Lib.hid (HST.out.1 cz)
          clear cz HST HRQ HXE HB HDM hor
          go_upto_region 12 with (first | ((with_reducible refine at_load 64 (.tmp 7) ?_); refine wpList_load_row rfl 64 _ rfl (g6 + 1) rfl 64 (oV (d64 Y)) (0, 0) _ KR.out Tryd.underlying64 rfl (by kernel_rfl) ?_) | ((with_reducible refine at_load 64 (.tmp 6) ?_); refine wpList_load_row rfl 64 _ rfl g6 rfl 64 (oV (d64 d)) (0, 0) _ KD.out Tryd.underlying64 rfl (by kernel_rfl) ?_) | (go_at_call 58; (with_reducible refine Calls.mono (LS.out _) ?_); rintro e1 w7 ⟨⟨D0, rfl⟩, hb1⟩; replace KA := Lib.hid (KA.out.bw hb1); replace KT := Lib.hid (KT.out.bw hb1); replace KD := Lib.hid (KD.out.bw hb1); replace KR := Lib.hid (KR.out.bw hb1); replace HW := Lib.hid (HW.out.trans hb1); clear hb1) | ((with_reducible refine at_store 64 (.tmp 10) (.tmp 50) ?_); refine wpList_store_row rfl 64 (.tmp 10) (.tmp 50) rfl w7.heap.size (oV D0) rfl rfl 64 _ (Blk.new w7 64 #[.int .u64 0, .int .u64 0, .int .u64 0, .int .u64 0]) (by kernel_rfl) rfl (by simp [Value.oneCell', oV, wV, nV]) ?_))
          have hb1 := Bw.setRow (Bw.alloc (Bw.refl w7) (.cells #[.int .u64 0, .int .u64 0, .int .u64 0, .int .u64 0] 64)) (Nat.le_refl _) (oV D0)
          replace KA := Lib.hid (KA.out.bw hb1); replace KT := Lib.hid (KT.out.bw hb1); replace KD := Lib.hid (KD.out.bw hb1); replace KR := Lib.hid (KR.out.bw hb1); replace HW := Lib.hid (HW.out.trans hb1)
          clear hb1
          generalize World.setRow (World.alloc w7 _) _ _ = w8 at *
          go_wp2
          go_roundg i
          case measure => omega
          case rel => exact ⟨i, by omega, by omega, by go_num, by rw [HE.out.2], HW, KA, KT, KD, by rw [HE.out.1]; exact KR⟩
        case neg =>
          have LS := Lib.hid (fun W => less_ge HDM.out.2 HDM.out.1 cz W)
          have HE := Lib.hid (HST.out.2 cz)
          clear cz HST HRQ HXE HB HDM
          go_upto_region 12 with (first | ((with_reducible refine at_load 64 (.tmp 7) ?_); refine wpList_load_row rfl 64 _ rfl (g6 + 1) rfl 64 (oV (d64 Y)) (0, 0) _ KR.out Tryd.underlying64 rfl (by kernel_rfl) ?_) | ((with_reducible refine at_load 64 (.tmp 6) ?_); refine wpList_load_row rfl 64 _ rfl g6 rfl 64 (oV (d64 d)) (0, 0) _ KD.out Tryd.underlying64 rfl (by kernel_rfl) ?_) | (go_at_call 58; (with_reducible refine Calls.mono (LS.out _) ?_); rintro e1 w7 ⟨rfl, hb1⟩; replace KA := Lib.hid (KA.out.bw hb1); replace KT := Lib.hid (KT.out.bw hb1); replace KD := Lib.hid (KD.out.bw hb1); replace KR := Lib.hid (KR.out.bw hb1); replace HW := Lib.hid (HW.out.trans hb1); clear hb1) | ((with_reducible refine at_store 64 (.tmp 10) (.tmp 50) ?_); refine wpList_store_row rfl 64 (.tmp 10) (.tmp 50) rfl w7.heap.size (oV (d64 (Y - d))) rfl rfl 64 _ (Blk.new w7 64 #[.int .u64 0, .int .u64 0, .int .u64 0, .int .u64 0]) (by kernel_rfl) rfl (by simp [Value.oneCell', oV, wV, nV]) ?_))
          have hb1 := Bw.setRow (Bw.alloc (Bw.refl w7) (.cells #[.int .u64 0, .int .u64 0, .int .u64 0, .int .u64 0] 64)) (Nat.le_refl _) (oV (d64 (Y - d)))
          have KE := Lib.hid ((Blk.new w7 64 #[.int .u64 0, .int .u64 0, .int .u64 0, .int .u64 0]).row (oV (d64 (Y - d))))
          have HNE := Lib.hid (show g6 + 1 < w7.heap.size from KR.out.lt)
          replace KA := Lib.hid (KA.out.bw hb1); replace KT := Lib.hid (KT.out.bw hb1); replace KD := Lib.hid (KD.out.bw hb1); replace KR := Lib.hid (KR.out.bw hb1); replace HW := Lib.hid (HW.out.trans hb1)
          clear hb1
          generalize World.setRow (World.alloc w7 _) _ _ = w8 at *
          generalize w7.heap.size = g8 at *
          go_wp2_with (first | ((with_reducible refine at_load 64 (.tmp 10) ?_); refine wpList_load_row rfl 64 _ rfl g8 rfl 64 (oV (d64 (Y - d))) (0, 0) _ KE.out Tryd.underlying64 rfl (by kernel_rfl) ?_) | ((with_reducible refine at_store 64 (.tmp 7) (.tmp 54) ?_); refine wpList_store_row rfl 64 (.tmp 7) (.tmp 54) rfl (g6 + 1) (oV (d64 (Y - d))) rfl rfl 64 _ KR.out (by kernel_rfl) rfl (by simp [Value.oneCell', oV, wV, nV]) ?_))
          have hkx := Kx.row KR.out.lt (oV (d64 (Y - d)))
          replace KR := Lib.hid (KR.out.row (oV (d64 (Y - d))))
          replace HW := Lib.hid (hkx.bw HW.out (by have := HG.out; have := HT5.out; have := HG6.out; omega))
          replace KA := Lib.hid (hkx.blk KA.out (by have := HT5.out; have := HG6.out; omega))
          replace KT := Lib.hid (hkx.blk KT.out (by have := HG6.out; omega))
          replace KD := Lib.hid (hkx.blk KD.out (by omega))
          generalize World.setRow w8 _ _ = w9 at *
          go_roundg i
          case measure => omega
          case rel => exact ⟨i, by omega, by omega, by go_num, by rw [HE.out.2, Int.natCast_add]; rfl, HW, KA, KT, KD, by rw [HE.out.1]; exact KR⟩
end Go.Proofs.Sky

namespace Go.Proofs.Sky
open Go Go.RowKit Go.Shelf
set_option maxHeartbeats 2000000
set_option maxRecDepth 8000
/-! chapter 28: rows of wide numbers; horner -/
abbrev Wn := Bool × Nat
def zW (x : Wn) : Int := if x.1 then -(x.2 : Int) else (x.2 : Int)
def timesW (x : Wn) (n : Int) : Wn := (x.1 != decide (n < 0), x.2 * n.natAbs)
def plusW (x y : Wn) : Wn := if x.1 = y.1 then (x.1, x.2 + y.2) else if x.2 < y.2 then (y.1, y.2 - x.2) else (x.1, x.2 - y.2)
def ofW (n : Int) : Wn := (decide (n < 0), n.natAbs)
theorem zW_of (n : Int) : zW (ofW n) = n := by
  unfold zW ofW
  by_cases h : n < 0
  · rw [decide_eq_true h]; simp; omega
  · rw [decide_eq_false h]; simp; omega
theorem zW_times (x : Wn) (n : Int) : zW (timesW x n) = zW x * n := by
  obtain ⟨s, N⟩ := x
  unfold zW timesW
  dsimp only
  by_cases h : n < 0
  · rw [decide_eq_true h]
    have e : n = -((n.natAbs : Nat) : Int) := by omega
    generalize n.natAbs = m at *
    subst e
    cases s <;> simp [Int.neg_mul, Int.mul_neg]
  · rw [decide_eq_false h]
    have e : n = ((n.natAbs : Nat) : Int) := by omega
    generalize n.natAbs = m at *
    subst e
    cases s <;> simp [Int.neg_mul, Int.mul_neg]
theorem zW_plus (x y : Wn) : zW (plusW x y) = zW x + zW y := by
  obtain ⟨s, N⟩ := x
  obtain ⟨t, M⟩ := y
  unfold zW plusW
  dsimp only
  by_cases h : s = t
  · subst h
    rw [if_pos rfl]
    cases s <;> simp <;> omega
  · rw [if_neg h]
    by_cases h2 : N < M
    · rw [if_pos h2]
      cases s <;> cases t <;> simp at h ⊢ <;> omega
    · rw [if_neg h2]
      cases s <;> cases t <;> simp at h ⊢ <;> omega
theorem plusW_le (x y : Wn) : (plusW x y).2 ≤ x.2 + y.2 := by
  unfold plusW
  split
  · exact Nat.le_refl _
  · split <;> simp <;> omega
theorem zW_abs (x : Wn) : (zW x).natAbs = x.2 := by
  unfold zW
  split <;> omega
theorem nV_one (s : Bool) (N : Nat) : (nV s N).all (·.oneCell') = true := by simp [nV, wV, Value.oneCell']
theorem plus28_any (x y : Wn) (hx : x.2 < M256) (hy : y.2 < M256) (w : World) : Calls Tryd.prog 56 #[.agg (nV x.1 x.2), .agg (nV y.1 y.2)] w fun e w' => e = .returned (.agg (nV (plusW x y).1 (plusW x y).2)) ∧ Bw w w' := by
  obtain ⟨s, N⟩ := x
  obtain ⟨t, M⟩ := y
  unfold plusW
  dsimp only at hx hy ⊢
  by_cases h : s = t
  · subst h
    rw [if_pos rfl]
    exact plus_same s N M w
  · have ht : t = !s := by cases s <;> cases t <;> simp at h ⊢
    subst ht
    rw [if_neg h]
    by_cases h2 : N < M
    · rw [if_pos h2]; exact plus_lt s hx hy h2 w
    · rw [if_neg h2]; exact plus_ge s hx hy h2 w
theorem times28 (x : Wn) (n : Int) (h : -9000000000000000000 ≤ n ∧ n ≤ 9000000000000000000) (w : World) : Calls Tryd.prog 38 #[.agg (nV x.1 x.2), .int .i64 n] w fun e w' => e = .returned (.agg (nV (timesW x n).1 (timesW x n).2)) ∧ Bw w w' := times28_any x.1 x.2 n w h
/-- a row of wide numbers in memory -/
def wcs (x : Wn) : List Value := (nV x.1 x.2).toList
theorem wcs_len (x : Wn) : (wcs x).length = 5 := rfl
def flatW (xs : List Wn) : List Value := xs.flatMap wcs
theorem flatW_append (fs gs : List Wn) : flatW (fs ++ gs) = flatW fs ++ flatW gs := by simp [flatW]
theorem flatW_one (f : Wn) : flatW [f] = wcs f := by simp [flatW]
theorem flatW_len (fs : List Wn) : (flatW fs).length = fs.length * 5 := by
  induction fs with
  | nil => rfl
  | cons f r ih => rw [show flatW (f :: r) = wcs f ++ flatW r from rfl, List.length_append, ih, List.length_cons, wcs_len]; omega
theorem flatW_at (fs : List Wn) : ∀ (i : Nat) (f : Wn), fs[i]? = some f → ∀ j, j < 5 → (flatW fs)[i * 5 + j]? = (wcs f)[j]? := by
  induction fs with
  | nil => intro i f h; simp at h
  | cons g r ih =>
    intro i f h j hj
    rw [show flatW (g :: r) = wcs g ++ flatW r from rfl]
    cases i with
    | zero =>
      simp only [List.getElem?_cons_zero, Option.some.injEq] at h
      subst h
      rw [List.getElem?_append_left (by rw [wcs_len]; omega)]
      congr 1; omega
    | succ i =>
      rw [List.getElem?_cons_succ] at h
      rw [List.getElem?_append_right (by rw [wcs_len]; omega)]
      rw [← ih i f h j hj]
      congr 1; rw [wcs_len]; omega
def RdW (w : World) (v : Value) (xs : List Wn) : Prop := ∃ a cap, v = .slice a xs.length cap ∧ (xs = [] ∨ ∃ b, a = some ⟨b, 0, none⟩ ∧ b < w.heap.size ∧ ∀ i x, xs[i]? = some x → w.rangeAt b (i * 5) (nV x.1 x.2).toList)
theorem own_rdW {w : World} {base : Nat} {e : TypeId} {v : Value} {fs : List Wn} (h : w.ownsRow base e 5 v fs.length (flatW fs)) : RdW w v fs := by
  have h' := h
  rcases h'.2 with ⟨rfl, h2⟩ | ⟨g, cap, cur, rfl, hg, hh, _⟩
  · obtain rfl : fs = [] := List.length_eq_zero_iff.1 h2
    exact ⟨none, 0, rfl, .inl rfl⟩
  · refine ⟨some ⟨g, 0, none⟩, cap, rfl, .inr ⟨g, rfl, (Array.getElem?_eq_some_iff.1 hh).1, fun i f hi => ?_⟩⟩
    have hil : i < fs.length := (List.getElem?_eq_some_iff.1 hi).1
    intro j v hv
    have hj : j < 5 := by
      have h9 := (List.getElem?_eq_some_iff.1 hv).1
      exact h9
    have hc := h.cellAt (i * 5 + j) (by omega)
    rw [flatW_at fs i f hi j hj] at hc
    exact hc.trans hv
theorem RdW.bw {w w' : World} {v : Value} {xs : List Wn} (h : RdW w v xs) (hb : Bw w w') : RdW w' v xs := by
  obtain ⟨a, cap, hv, h4⟩ := h
  refine ⟨a, cap, hv, ?_⟩
  rcases h4 with h4 | ⟨b, h5, h6, h7⟩
  · exact .inl h4
  · exact .inr ⟨b, h5, Nat.lt_of_lt_of_le h6 hb.size, fun i x hx j v hj => by rw [hb.cells.1 _ _ h6]; exact h7 i x hx j v hj⟩
theorem run_load_wn {o : Oper} {ρ : Operand → Value} (x : Operand) (ho : o.op = .load 66 x) {w : World} (b k : Nat) (hx : ρ x = .pointer (some ⟨b, k * 5, none⟩)) {y : Wn} (hB : w.rangeAt b (k * 5) (nV y.1 y.2).toList) : (execOp ρ o).run Tryd.prog w = .ok (.value (.agg (nV y.1 y.2))) w := by
  have h9 : (Instr.loadAt 66 (.pointer (some ⟨b, k * 5, none⟩))).run Tryd.prog w = .ok (.agg (nV y.1 y.2)) w := run_loadAt_mid w b (k * 5) 66 (nV y.1 y.2).toList _ hB Tryd.underlying66 rfl (by kernel_rfl)
  unfold execOp
  simp only [ho, hx, Sem.run_bind, Sem.run_pure, Result.andThen_ok, h9]
theorem wpList_load_wn {ops : Array Oper} {rest : List Oper} {op : Oper} {a : Act} {w : World} {Q : Exit → Act → World → Prop} (hgd : op.guard = none) (x : Operand) (ho : op.op = .load 66 x)
    (b k : Nat) (hx : a.eval x = .pointer (some ⟨b, k * 5, none⟩)) {y : Wn} (hB : w.rangeAt b (k * 5) (nV y.1 y.2).toList)
    (h : wpList Tryd.prog ops Q rest (a.put op.dst (.agg (nV y.1 y.2))) w) : wpList Tryd.prog ops Q (op :: rest) a w :=
  wpList_load_mid hgd 66 x ho b (k * 5) hx (nV y.1 y.2).toList _ hB Tryd.underlying66 rfl (by kernel_rfl) h
/-- horner's value -/
def hW (d : Int) : List Wn → Wn
  | [] => (false, 0)
  | [x] => x
  | x :: y :: r => plusW (timesW (hW d (y :: r)) d) x
theorem hW_cons (d : Int) (x : Wn) (r : List Wn) (h : 0 < r.length) : hW d (x :: r) = plusW (timesW (hW d r) d) x := by
  cases r with
  | nil => simp at h
  | cons y r => rfl
theorem horner_any (xs : List Wn) (d : Int) (v : Value) (w : World) (hv : RdW w v xs) (h0 : 0 < xs.length) (h1 : xs.length ≤ 1000) (hd : -9000000000000000000 ≤ d ∧ d ≤ 9000000000000000000)
    (hb : ∀ i, i + 1 < xs.length → (timesW (hW d (xs.drop (i + 1))) d).2 < M256 ∧ (xs.getD i (false, 0)).2 < M256) :
    Calls Tryd.prog 55 #[v, .int .i64 d, .func (.func 38) #[] #[], .func (.func 56) #[] #[]] w fun e w' => e = .returned (.agg (nV (hW d xs).1 (hW d xs).2)) ∧ Bw w w' := by
  obtain ⟨n, hn⟩ : ∃ n, n = xs.length := ⟨_, rfl⟩
  have hv' := hv
  obtain ⟨ad, cap, rfl, h4⟩ := hv'
  rcases h4 with h4 | ⟨gx, rfl, hlt, hrow⟩
  · rw [h4] at h0; simp at h0
  rw [← hn] at hv h0 h1 hb ⊢
  have HROW := Lib.hid (show ∀ i x, xs[i]? = some x → w.rangeAt gx (i * 5) (nV x.1 x.2).toList from hrow)
  have HLT := Lib.hid hlt
  have HB := Lib.hid hb
  have HN := Lib.hid hn
  clear hv hb hrow hlt hn
  have KR := Lib.hid (Blk.new w 66 #[.bool false, .int .u64 0, .int .u64 0, .int .u64 0, .int .u64 0])
  have HW := Lib.hid (Bw.alloc (Bw.refl w) (.cells #[.bool false, .int .u64 0, .int .u64 0, .int .u64 0, .int .u64 0] 66))
  obtain ⟨g, hg⟩ : ∃ g, w.heap.size = g := ⟨_, rfl⟩
  rw [hg] at KR
  have HG := Lib.hid hg
  go_enter Tryd.func55, Tryd.ntmps55
  go_upto_region 1 with fail
  obtain ⟨W0, hW0⟩ : ∃ W0, w.alloc (.cells #[.bool false, .int .u64 0, .int .u64 0, .int .u64 0, .int .u64 0] 66) = W0 := ⟨_, rfl⟩
  rw [hW0] at KR HW ⊢
  clear hW0 hg
  obtain ⟨m, rfl⟩ : ∃ m, n = m + 1 := ⟨n - 1, by omega⟩
  obtain ⟨X, hX⟩ : ∃ X, xs[m]? = some X := ⟨_, List.getElem?_eq_getElem (show m < xs.length by have := HN.out; omega)⟩
  have hlast : hW d (xs.drop m) = X := by
    have e : xs.drop m = [X] := by
      rw [List.drop_eq_getElem_cons (show m < xs.length by have := HN.out; omega), List.drop_eq_nil_of_le (by have := HN.out; omega)]
      rw [List.getElem?_eq_getElem (show m < xs.length by have := HN.out; omega)] at hX
      injection hX with hX
      rw [hX]
    rw [e]; rfl
  have HRL := Lib.hid (show W0.rangeAt gx (m * 5) (nV X.1 X.2).toList from fun j v hj => by rw [HW.out.cells.1 _ _ HLT.out]; exact HROW.out m X hX j v hj)
  have HLAST := Lib.hid hlast
  clear hX hlast
  have hm9 : ((m + 1 : Nat) : Int) - 1 = (m : Int) := by omega
  have hm8 : (0 : Int) ≤ m ∧ (m : Int) < ((m + 1 : Nat) : Int) := by omega
  go_upto_region 2 with (first | ((with_reducible refine at_load 66 (.tmp 15) ?_); refine wpList_load_wn rfl (.tmp 15) rfl gx m rfl HRL.out ?_) | ((with_reducible refine at_store 66 (.tmp 9) (.tmp 16) ?_); refine wpList_store_row rfl 66 (.tmp 9) (.tmp 16) rfl W0.heap.size (nV X.1 X.2) rfl rfl 66 _ (Blk.new W0 66 #[.bool false, .int .u64 0, .int .u64 0, .int .u64 0, .int .u64 0]) (by kernel_rfl) rfl (nV_one _ _) ?_))
  obtain ⟨g9, hg9⟩ : ∃ g9, W0.heap.size = g9 := ⟨_, rfl⟩
  have hb1 := Bw.setRow (Bw.alloc (Bw.refl W0) (.cells #[.bool false, .int .u64 0, .int .u64 0, .int .u64 0, .int .u64 0] 66)) (Nat.le_of_eq hg9) (nV X.1 X.2)
  have KO := Lib.hid ((Blk.new W0 66 #[.bool false, .int .u64 0, .int .u64 0, .int .u64 0, .int .u64 0]).row (nV X.1 X.2))
  have HG9 := Lib.hid (show g < g9 by have := KR.out.lt; omega)
  rw [hg9] at KO ⊢
  replace KR := Lib.hid (KR.out.bw hb1)
  replace HW := Lib.hid (HW.out.trans hb1)
  clear hb1 HRL hm9 hm8
  generalize World.setRow (World.alloc W0 _) _ _ = w1 at *
  clear hg9
  (try simp only [Act.put])
  have hm7 : ((m + 1 : Nat) : Int) - 2 = (m : Int) - 1 := by omega
  go_wp2
  go_loopg [10] m (fun gg s10 wr => ∃ k : Nat, k ≤ m ∧ k ≤ gg ∧ s10 = .int .i64 ((k : Int) - 1) ∧ Hid (Bw w wr) ∧ Hid (Blk wr g 66 #[.bool false, .int .u64 0, .int .u64 0, .int .u64 0, .int .u64 0]) ∧ Hid (Blk wr g9 66 (nV (hW d (xs.drop k)).1 (hW d (xs.drop k)).2)))
  case atStart => exact ⟨m, by omega, by omega, (by congr 1 <;> omega), HW, KR, by rw [HLAST.out]; exact KO⟩
  case round =>
    clear KO KR HW HLAST hm7
    obtain ⟨k, hk, hgg, rfl, HW, KR, KO⟩ := hrel
    obtain ⟨wb, rfl⟩ : ∃ wb, wb = wr := ⟨_, rfl⟩
    by_cases c3 : k = 0
    case pos =>
      subst c3
      have hii : (((0 : Nat) : Int)) - 1 = -1 := by omega
      rw [hii]
      clear hii
      rw [List.drop_zero] at KO
      generalize hO : hW d xs = O at *
      go_wp2_with (first | ((with_reducible refine at_load 66 (.tmp 9) ?_); refine wpList_load_row rfl 66 _ rfl g9 rfl 66 (nV O.1 O.2) (0, 0) _ KO.out Tryd.underlying66 rfl (by kernel_rfl) ?_) | ((with_reducible refine at_store 66 (.tmp 8) (.tmp 34) ?_); refine wpList_store_row rfl 66 (.tmp 8) (.tmp 34) rfl g (nV O.1 O.2) rfl rfl 66 _ KR.out (by kernel_rfl) rfl (nV_one _ _) ?_))
      have F9 := KR.out.row (nV O.1 O.2)
      have B9 := Bw.setRow HW.out (show w.heap.size ≤ g by have := HG.out; omega) (nV O.1 O.2)
      refine bodyPost_ret (v := .agg (nV O.1 O.2)) ?_ rfl ⟨by rw [hO], B9⟩
      exact results_cell_row (p := 8) rfl _ _ g _ _ (0, 0) _ rfl F9 Tryd.underlying66 rfl (by kernel_rfl)
    case neg =>
      obtain ⟨i, rfl⟩ : ∃ i, k = i + 1 := ⟨k - 1, by omega⟩
      have hii : (((i + 1 : Nat) : Int)) - 1 = (i : Int) := by omega
      rw [hii]
      clear hii c3
      have c3z : (0 : Int) ≤ i := by omega
      have c4z : (i : Int) < (m : Int) + 1 := by omega
      have hil : i < xs.length := by have := HN.out; omega
      obtain ⟨X2, hX2⟩ : ∃ X2, X2 = xs[i] := ⟨_, rfl⟩
      have hX3 : xs[i]? = some X2 := by rw [hX2]; exact List.getElem?_eq_getElem hil
      have hb9 := HB.out i (by omega)
      have hdr : hW d (xs.drop i) = plusW (timesW (hW d (xs.drop (i + 1))) d) X2 := by
        rw [List.drop_eq_getElem_cons hil, ← hX2]
        exact hW_cons d X2 _ (by rw [List.length_drop]; have := HN.out; omega)
      rw [show xs.getD i (false, 0) = X2 by rw [List.getD_eq_getElem?_getD, hX3]; rfl] at hb9
      have HRX := Lib.hid (show ∀ W, Kx g9 wb W → W.rangeAt gx (i * 5) (nV X2.1 X2.2).toList from fun W hK j v hj => by
        have hlt := HLT.out
        have h1 := HROW.out i X2 hX3 j v hj
        rw [← h1]
        have h2 : wb.cell? ⟨gx, i * 5 + j, none⟩ = w.cell? ⟨gx, i * 5 + j, none⟩ := HW.out.cells.1 _ _ hlt
        rw [← h2]
        exact World.cell?_of_block (hK.oth gx (Nat.lt_of_lt_of_le hlt HW.out.size) (by have := HG.out; have := HG9.out; omega)))
      have HDR := Lib.hid hdr
      clear hX2 hX3 hdr hil
      generalize hW d (xs.drop (i + 1)) = O at *
      have TI := Lib.hid (fun W => times28 O d hd W)
      have PL := Lib.hid (fun W => plus28_any (timesW O d) X2 hb9.1 hb9.2 W)
      clear hb9
      obtain ⟨P2, hP2⟩ : ∃ P2, P2 = plusW (timesW O d) X2 := ⟨_, rfl⟩
      rw [← hP2] at PL HDR
      clear hP2
      go_upto_region 5 with fail
      refine wp_region_held_drew (S := Kx g9 wb) (by kernel_rfl) (Kx.of_bw (Bw.drew (Bw.refl _)) (Nat.le_of_lt KO.out.lt)) (fun hS => ?_)
      replace KO := Lib.hid (KO.out.bw (Bw.drew (Bw.refl _)))
      generalize World.drew _ = wd at hS KO ⊢
      refine take1 (i := 0) (some 24) rfl rfl (by kernel_rfl) (by kernel_rfl) (by kernel_rfl) (fun _ _ _ _ h => h) rfl hS ?_
      apply Exists.intro
      apply And.intro
      · intro W9 hW9; skip; go_simp; try with_reducible rfl
      simp only [Act.put, List.setIfInBounds_toArray, List.set_cons_zero, List.set_cons_succ]
      refine take1 (i := 1) (some 25) rfl rfl (by kernel_rfl) (by kernel_rfl) (by kernel_rfl) (fun _ _ _ _ h => h) rfl hS ?_
      apply Exists.intro
      apply And.intro
      · intro W9 hW9; skip; go_simp; try with_reducible rfl
      simp only [Act.put, List.setIfInBounds_toArray, List.set_cons_zero, List.set_cons_succ]
      refine take1 (i := 3) (some 27) rfl rfl (by kernel_rfl) (by kernel_rfl) (by kernel_rfl) (fun _ _ _ _ h => h) rfl hS ?_
      apply Exists.intro
      apply And.intro
      · intro W9 hW9; skip; go_simp; try with_reducible rfl
      simp only [Act.put, List.setIfInBounds_toArray, List.set_cons_zero, List.set_cons_succ]
      refine take1 (i := 5) (some 29) rfl rfl (by kernel_rfl) (by kernel_rfl) (by kernel_rfl) (fun _ _ _ _ h => h) rfl hS ?_
      apply Exists.intro
      apply And.intro
      · intro W9 hW9; skip; go_simp; try with_reducible rfl
      simp only [Act.put, List.setIfInBounds_toArray, List.set_cons_zero, List.set_cons_succ]
      refine take1 (i := 6) (some 30) rfl rfl (by kernel_rfl) (by kernel_rfl) (by kernel_rfl) (fun _ _ _ _ h => h) rfl hS ?_
      apply Exists.intro
      apply And.intro
      · intro W9 hW9; skip; go_simp; try with_reducible rfl
      simp only [Act.put, List.setIfInBounds_toArray, List.set_cons_zero, List.set_cons_succ]
      refine take1 (i := 7) (some 31) rfl rfl (by kernel_rfl) (by kernel_rfl) (by kernel_rfl) (fun _ _ _ _ h => h) rfl hS ?_
      apply Exists.intro
      apply And.intro
      · intro W9 hW9; skip; go_simp; try with_reducible rfl
      simp only [Act.put, List.setIfInBounds_toArray, List.set_cons_zero, List.set_cons_succ]
      refine take1 (i := 8) (some 32) rfl rfl (by kernel_rfl) (by kernel_rfl) (by kernel_rfl) (fun _ _ _ _ h => h) rfl hS ?_
      refine Exists.intro (.agg (nV X2.1 X2.2)) ?_
      apply And.intro
      · intro W9 hW9; skip; exact run_load_wn _ rfl gx i rfl (HRX.out _ hW9)
      simp only [Act.put, List.setIfInBounds_toArray, List.set_cons_zero, List.set_cons_succ]
      refine wpAnyH_ready (rs := [2]) (by kernel_rfl) (by simp) ?_
      refine AllReadyH.cons rfl (fun K hK => ?_) ?_
      rw [if_pos (by rfl)]
      refine wp_load_row 66 _ rfl g9 rfl 66 (nV O.1 O.2) (0, 0) _ KO.out Tryd.underlying66 rfl (by kernel_rfl) ?_
      simp only [Act.put, List.setIfInBounds_toArray, List.set_cons_zero, List.set_cons_succ]
      refine hK.out _ _ hS (fun hS => ?_)
      clear hK K
      refine wpAnyH_ready (rs := [4]) (by kernel_rfl) (by simp) ?_
      refine AllReadyH.cons rfl (fun K hK => ?_) ?_
      go_simp
      go_wp2_with (go_at_call 38; (with_reducible refine Calls.mono (TI.out _) ?_); rintro e1 w13 ⟨rfl, hb13⟩)
      have hle := Nat.le_of_lt KO.out.lt
      replace KO := Lib.hid (KO.out.bw hb13)
      refine hK.out _ _ (hS.trans (Kx.of_bw hb13 hle)) (fun hS => ?_)
      clear hK K
      clear hb13 hle
      refine wpAnyH_ready (rs := [9]) (by kernel_rfl) (by simp) ?_
      refine AllReadyH.cons rfl (fun K hK => ?_) ?_
      go_simp
      go_wp2_with (go_at_call 56; (with_reducible refine Calls.mono (PL.out _) ?_); rintro e1 w14 ⟨rfl, hb14⟩)
      have hle := Nat.le_of_lt KO.out.lt
      replace KO := Lib.hid (KO.out.bw hb14)
      refine hK.out _ _ (hS.trans (Kx.of_bw hb14 hle)) (fun hS => ?_)
      clear hK K
      clear hb14 hle
      refine wpAnyH_ready (rs := [10]) (by kernel_rfl) (by simp) ?_
      refine AllReadyH.cons rfl (fun K hK => ?_) ?_
      rw [if_pos (by rfl)]
      have hst := Kx.row KO.out.lt (nV P2.1 P2.2)
      refine wp_store_row0 66 _ _ rfl rfl g9 (nV P2.1 P2.2) rfl rfl 66 _ KO.out (by kernel_rfl) rfl (nV_one _ _) ?_
      replace KO := Lib.hid (KO.out.row (nV P2.1 P2.2))
      refine hK.out _ _ (hS.trans hst) (fun hS => ?_)
      clear hK K
      clear hst
      refine wpAnyH_done (by kernel_rfl) ?_ _
      rotate_left
      exact AllReadyH.nil
      exact AllReadyH.nil
      exact AllReadyH.nil
      exact AllReadyH.nil
      go_wp2
      go_roundg i
      case measure => omega
      case rel => exact ⟨i, by omega, by omega, by go_num, Lib.hid (hS.bw HW.out (by have := HG.out; have := HG9.out; omega)), Lib.hid (hS.blk KR.out (by have := HG9.out; omega)), by rw [HDR.out]; exact KO⟩
end Go.Proofs.Sky
