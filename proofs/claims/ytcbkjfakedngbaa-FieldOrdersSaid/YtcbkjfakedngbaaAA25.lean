/-
  lemmas for the theorems of this claim. No conditions beyond those written in the statements.
-/
import Derived.Test.YtcbkjfakedngbaaN25
import Derived.Test.YtcbkjfakedngbaaBlkC
import Derived.Test.YtcbkjfakedngbaaKit
import Derived.Test.YtcbkjfakedngbaaP25P
set_option linter.unusedVariables false
set_option linter.unusedSimpArgs false
set_option linter.unnecessarySimpa false
namespace Go.Proofs.Sky
open Go Go.RowKit Go.Shelf
set_option maxHeartbeats 4000000
theorem Below_any (n k : Int) (w : World) (h : 1 ≤ k) (h2 : k ≤ 4611686018427387904) : Calls Try.prog 20 #[.int .i64 n, .int .i64 k] w fun e w' => e = .returned (.int .i64 (bel n k)) ∧ Bw w w' := by
  obtain ⟨r, t1, r1, r2, ways⟩ := tmod_way n k h
  have hk0 : (k == 0) = false := by simp; omega
  rcases ways with ⟨y1, yR⟩ | ⟨y1, yR⟩
  all_goals
    have HB := Lib.hid (show bel n k = n % k by unfold bel; rw [if_neg (by omega)])
    rw [yR] at HB
    clear yR
    go_enter Try.func20, Try.ntmps20
    go_wp2
    go_ret
    exact ⟨ret_int (by rw [HB.out]), (by repeat (first | exact Bw.refl _ | assumption | refine Bw.alloc ?_ _ | refine Bw.drew ?_ | refine Bw.trans ?_ (by assumption) | refine Bw.setCell ?_ (by simp; try omega) _))⟩
theorem Nth_any (zs : List Int) (v : Value) (i : Int) (w : World) (hv : RdI w v zs) : Calls Try.prog 21 #[v, .int .i64 i] w fun e w' => e = .returned (.int .i64 (nth zs i)) ∧ Bw w w' := by
  obtain ⟨hlen, ad, cap, rfl, hz⟩ := hv
  by_cases h : i < 0 ∨ (zs.length : Int) ≤ i
  · have HN := Lib.hid (show nth zs i = 0 by unfold nth; rw [if_pos h])
    clear hz
    rcases h with h | h
    all_goals
      go_enter Try.func21, Try.ntmps21
      go_wp2
      all_goals (go_ret; exact ⟨ret_int HN.out.symm, (by repeat (first | exact Bw.refl _ | assumption | refine Bw.alloc ?_ _ | refine Bw.drew ?_ | refine Bw.trans ?_ (by assumption) | refine Bw.setCell ?_ (by simp; try omega) _))⟩)
  · have HN := Lib.hid (show nth zs i = zs.getD i.toNat 0 by unfold nth; rw [if_neg h])
    obtain ⟨j, rfl⟩ := Int.eq_ofNat_of_zero_le (show 0 ≤ i by omega)
    obtain ⟨b, off, rfl, hb, hz⟩ := hz.resolve_left (by intro e; subst e; simp at h)
    have hc := hz j (by omega)
    rw [show ((j : Int)).toNat = j by omega] at HN
    have hj : (j : Int) < zs.length := by omega
    clear hz h
    generalize zs.getD j 0 = z at hc HN
    go_enter Try.func21, Try.ntmps21
    go_wp2
    go_ret
    exact ⟨ret_int HN.out.symm, (by repeat (first | exact Bw.refl _ | assumption | refine Bw.alloc ?_ _ | refine Bw.drew ?_ | refine Bw.trans ?_ (by assumption) | refine Bw.setCell ?_ (by simp; try omega) _))⟩
def OfP (a : Int) (e : Ending) : Prop := ∃ n g u c, e = .returned (.agg #[.int .i64 a, .int .i64 n, .bool g, .int .i64 u, .int .i64 c]) ∧ (1 ≤ n ∧ n ≤ 40) ∧ (1 ≤ u ∧ u ≤ 1000000) ∧ (-1000000 ≤ c ∧ c ≤ 1000000)
theorem of_any (zs : List Int) (v : Value) (a : Int) (w : World) (hv : RdI w v zs) : Calls Try.prog 19 #[v, .int .i64 a] w fun e w' => OfP a e ∧ Bw w w' := by
  have HV := Lib.hid hv
  obtain ⟨ad, cap, rfl⟩ := hv.form
  clear hv
  have ⟨a1, a2⟩ := bel_bd (nth zs 0) 40 (by omega)
  have ⟨d1, d2⟩ := bel_bd (nth zs 2) 1000000 (by omega)
  have ⟨c1, c2⟩ := bel_bd (nth zs 3) 2000001 (by omega)
  have HN := Lib.hid (fun i W hW => Nth_any zs (.slice ad zs.length cap) i W hW)
  have P0 := Lib.hid (fun W => Below_any (nth zs 0) 40 W (by omega) (by omega))
  have P1 := Lib.hid (fun W => Below_any (nth zs 1) 2 W (by omega) (by omega))
  have P2 := Lib.hid (fun W => Below_any (nth zs 2) 1000000 W (by omega) (by omega))
  have P3 := Lib.hid (fun W => Below_any (nth zs 3) 2000001 W (by omega) (by omega))
  generalize bel (nth zs 0) 40 = b0 at *
  generalize bel (nth zs 1) 2 = b1 at *
  generalize bel (nth zs 2) 1000000 = b2 at *
  generalize bel (nth zs 3) 2000001 = b3 at *
  have HBW := Lib.hid (Bw.alloc (Bw.refl w) (.cells #[.int .i64 0, .int .i64 0, .bool false, .int .i64 0, .int .i64 0] 24))
  have BX := Lib.hid (Blk.new w 24 #[.int .i64 0, .int .i64 0, .bool false, .int .i64 0, .int .i64 0])
  go_enter Try.func19, Try.ntmps19
  go_wp2_with (first | (go_at_call 21; (with_reducible refine Calls.mono (HN.out _ _ (HV.out.mono HBW.out)) ?_); rintro e1 u1 ⟨rfl, hb1⟩; replace HBW := Lib.hid (HBW.out.trans hb1); replace BX := Lib.hid (BX.out.bw hb1); clear hb1) | (go_at_call 20; (with_reducible refine Calls.mono (P0.out _) ?_); rintro e1 u1 ⟨rfl, hb1⟩; replace HBW := Lib.hid (HBW.out.trans hb1); replace BX := Lib.hid (BX.out.bw hb1); clear hb1 P0) | (go_at_call 20; (with_reducible refine Calls.mono (P1.out _) ?_); rintro e1 u1 ⟨rfl, hb1⟩; replace HBW := Lib.hid (HBW.out.trans hb1); replace BX := Lib.hid (BX.out.bw hb1); clear hb1 P1) | (go_at_call 20; (with_reducible refine Calls.mono (P2.out _) ?_); rintro e1 u1 ⟨rfl, hb1⟩; replace HBW := Lib.hid (HBW.out.trans hb1); replace BX := Lib.hid (BX.out.bw hb1); clear hb1 P2) | (go_at_call 20; (with_reducible refine Calls.mono (P3.out _) ?_); rintro e1 u1 ⟨rfl, hb1⟩; replace HBW := Lib.hid (HBW.out.trans hb1); replace BX := Lib.hid (BX.out.bw hb1); clear hb1 P3) | ((with_reducible refine at_store 24 (.tmp 4) (.tmp 22) ?_); refine wpList_store_row rfl 24 _ _ rfl w.heap.size #[.int .i64 a, .int .i64 (1 + b0), .bool (b1 == 1), .int .i64 (1 + b2), .int .i64 (b3 - 1000000)] rfl rfl 24 _ BX.out (by kernel_rfl) rfl (by simp [Value.oneCell']) ?_; replace BX := Lib.hid (BX.out.row #[.int .i64 a, .int .i64 (1 + b0), .bool (b1 == 1), .int .i64 (1 + b2), .int .i64 (b3 - 1000000)]); replace HBW := Lib.hid (Bw.setRow (g := w.heap.size) HBW.out (by omega) #[.int .i64 a, .int .i64 (1 + b0), .bool (b1 == 1), .int .i64 (1 + b2), .int .i64 (b3 - 1000000)])))
  have k0 := BX.out.cell (j := 0) rfl
  have k1 := BX.out.cell (j := 1) rfl
  have k2 := BX.out.cell (j := 2) rfl
  have k3 := BX.out.cell (j := 3) rfl
  have k4 := BX.out.cell (j := 4) rfl
  refine bodyPost_ret (v := .agg #[.int .i64 a, .int .i64 (1 + b0), .bool (b1 == 1), .int .i64 (1 + b2), .int .i64 (b3 - 1000000)]) ?_ rfl ⟨⟨_, _, _, _, rfl, by omega, by omega, by omega⟩, HBW.out⟩
  simp [results, Try.results19, go_sem, k0, k1, k2, k3, k4]
def CoinP (n : Nat) (e : Ending) (w' : World) : Prop := ∃ v' bs, e = .returned v' ∧ RdI w' v' bs ∧ bs.length = n ∧ ∀ i, bs.getD i 0 = 0 ∨ bs.getD i 0 = 1
theorem Coins_any (zs : List Int) (v : Value) (n : Nat) (w : World) (hv : RdI w v zs) (hn : n ≤ 100000) : Calls Try.prog 22 #[v, .int .i64 n] w fun e w' => CoinP n e w' ∧ Bw w w' := by
  have HV := Lib.hid hv
  obtain ⟨ad, cap, rfl⟩ := hv.form
  clear hv
  have hmk := fun w => makeInt n (by omega) w
  obtain ⟨m, hm⟩ : ∃ m, m = zs.length := ⟨_, rfl⟩
  rw [← hm]
  have HM := Lib.hid hm
  clear hm
  obtain ⟨BB, hBB⟩ : ∃ BB, w.heap.size = BB := ⟨_, rfl⟩
  have HB := Lib.hid hBB
  have O0 := Lib.hid (show (w.alloc (.cells (madeCells #[.int .i64 0] (n * 1)) 3)).ownsRow BB 3 1 (.slice (some ⟨BB, 0, none⟩) n n) n ((List.replicate n (0 : Int)).map (Value.int .i64)) by
    have h := World.ownsRow_lit (base := BB) (e := 3) (size := 1) w (madeCells #[.int .i64 0] (n * 1)) n (by omega) (by unfold maxLen; omega) (by rw [← Array.length_toList, made1]; simp)
    rw [made1, hBB] at h
    simpa using h)
  have HW0 := Lib.hid (Bw.alloc (Bw.refl w) (.cells (madeCells #[.int .i64 0] (n * 1)) 3))
  clear hBB
  go_enter Try.func22, Try.ntmps22
  go_wp2
  rw [HB.out]

  go_loopg [6] 100000 (fun gg s6 wr => ∃ i : Nat, i ≤ n ∧ n - i ≤ gg ∧ s6 = .int .i64 i ∧ Hid (Bw w wr) ∧ ∃ bs : List Int, Hid (wr.ownsRow BB 3 1 (.slice (some ⟨BB, 0, none⟩) n n) n (bs.map (Value.int .i64))) ∧ Hid (bs.length = n) ∧ Hid (∀ j, bs.getD j 0 = 0 ∨ bs.getD j 0 = 1))
  case atStart => exact ⟨0, Nat.zero_le _, by omega, rfl, Lib.hid (by have h9 := HW0.out; rw [Nat.mul_one] at h9; exact h9), List.replicate n 0, Lib.hid (by have h9 := O0.out; rw [Nat.mul_one] at h9; exact h9), Lib.hid (by simp), Lib.hid (fun j => .inl (by rw [List.getD_eq_getElem?_getD, List.getElem?_replicate]; split <;> rfl))⟩
  case round =>
    obtain ⟨i, hi, hgg, rfl, HW, bs, O1, HL, HC⟩ := hrel
    clear hmk
    by_cases hlt : i < n
    · have hiz : (i : Int) < n := by omega
      by_cases hz : 0 < m
      · have hzi : (0 : Int) < m := by omega
        have him : i % m < m := Nat.mod_lt _ hz
        have himz : ((i % m : Nat) : Int) < m := by omega
        obtain ⟨b, off, c1, hv1, hb1, hd1⟩ := HV.out.at (by have := HM.out; omega)
        injection hv1 with x1 x2 x3; subst x1; clear x2 x3
        obtain ⟨y, hy⟩ : ∃ y, zs.getD (i % m) 0 = y := ⟨_, rfl⟩
        have f1 := Lib.hid (hy ▸ hd1 (i % m) (by have := HM.out; omega))
        obtain ⟨q, hq⟩ : ∃ q : Nat, q = i / m := ⟨_, rfl⟩
        have hqn : q ≤ 100000 := by rw [hq]; exact Nat.le_trans (Nat.div_le_self _ _) (by omega)
        have HQ := Lib.hid (show (i : Int) / (m : Int) = (q : Int) by rw [hq]; simp)
        clear hb1 hd1 hy hq
        go_wp2
        refine wp_region_held_drew (S := Bw w) (by kernel_rfl) (HW.out.trans (Bw.drew (Bw.refl _))) (fun hS => ?_)
        have hbd := Bw.drew (Bw.refl wr)
        replace O1 := Lib.hid (own_bw O1.out hbd)
        clear hbd HW
        generalize World.drew _ = wd at hS O1 ⊢
        refine take1 (i := 0) (some 17) rfl rfl (by kernel_rfl) (by kernel_rfl) (by kernel_rfl) (fun _ _ _ _ h => h) rfl hS ?_
        apply Exists.intro
        apply And.intro
        · intro W9 hW9; have y1 := hW9.cell' f1.out; go_simp; try with_reducible rfl
        simp only [Act.put, List.setIfInBounds_toArray, List.set_cons_zero, List.set_cons_succ]
        refine take1 (i := 1) (some 18) rfl rfl (by kernel_rfl) (by kernel_rfl) (by kernel_rfl) (fun _ _ _ _ h => h) rfl hS ?_
        apply Exists.intro
        apply And.intro
        · intro W9 hW9; have y1 := hW9.cell' f1.out; go_simp; try with_reducible rfl
        simp only [Act.put, List.setIfInBounds_toArray, List.set_cons_zero, List.set_cons_succ]
        refine take1 (i := 2) (some 19) rfl rfl (by kernel_rfl) (by kernel_rfl) (by kernel_rfl) (fun _ _ _ _ h => h) rfl hS ?_
        apply Exists.intro
        apply And.intro
        · intro W9 hW9; have y1 := hW9.cell' f1.out; go_simp; try with_reducible rfl
        simp only [Act.put, List.setIfInBounds_toArray, List.set_cons_zero, List.set_cons_succ]
        refine take1 (i := 3) (some 20) rfl rfl (by kernel_rfl) (by kernel_rfl) (by kernel_rfl) (fun _ _ _ _ h => h) rfl hS ?_
        apply Exists.intro
        apply And.intro
        · intro W9 hW9; have y1 := hW9.cell' f1.out; go_simp; try with_reducible rfl
        simp only [Act.put, List.setIfInBounds_toArray, List.set_cons_zero, List.set_cons_succ]
        refine take1 (i := 4) (some 21) rfl rfl (by kernel_rfl) (by kernel_rfl) (by kernel_rfl) (fun _ _ _ _ h => h) rfl hS ?_
        apply Exists.intro
        apply And.intro
        · intro W9 hW9; have y1 := hW9.cell' f1.out; go_simp; try with_reducible rfl
        simp only [Act.put, List.setIfInBounds_toArray, List.set_cons_zero, List.set_cons_succ]
        refine take1 (i := 5) (some 22) rfl rfl (by kernel_rfl) (by kernel_rfl) (by kernel_rfl) (fun _ _ _ _ h => h) rfl hS ?_
        refine Exists.intro (.int .i64 m) ?_
        apply And.intro
        · intro W9 hW9; have y1 := hW9.cell' f1.out; go_simp; (try go_bits); (try with_reducible rfl); (try trivial)
        simp only [Act.put, List.setIfInBounds_toArray, List.set_cons_zero, List.set_cons_succ]
        refine take1 (i := 6) (some 23) rfl rfl (by kernel_rfl) (by kernel_rfl) (by kernel_rfl) (fun _ _ _ _ h => h) rfl hS ?_
        refine Exists.intro (.int .i64 ((i % m : Nat) : Int)) ?_
        apply And.intro
        · intro W9 hW9; have y1 := hW9.cell' f1.out; go_simp; rw [if_neg (by omega), Int.tmod_eq_emod_of_nonneg (by omega)]
        simp only [Act.put, List.setIfInBounds_toArray, List.set_cons_zero, List.set_cons_succ]
        refine take1 (i := 7) (some 24) rfl rfl (by kernel_rfl) (by kernel_rfl) (by kernel_rfl) (fun _ _ _ _ h => h) rfl hS ?_
        refine Exists.intro (.pointer (some ⟨b, off + i % m, none⟩)) ?_
        apply And.intro
        · intro W9 hW9; have y1 := hW9.cell' f1.out; go_simp; rw [if_pos ⟨Int.emod_nonneg _ (by omega), Int.emod_lt_of_pos _ (by omega)⟩]; first | rw [← Int.natCast_emod, Int.toNat_natCast] | rw [← Int.natCast_mod, Int.toNat_natCast]
        simp only [Act.put, List.setIfInBounds_toArray, List.set_cons_zero, List.set_cons_succ]
        refine take1 (i := 8) (some 25) rfl rfl (by kernel_rfl) (by kernel_rfl) (by kernel_rfl) (fun _ _ _ _ h => h) rfl hS ?_
        refine Exists.intro (.int .i64 y) ?_
        apply And.intro
        · intro W9 hW9; have y1 := hW9.cell' f1.out; go_simp; (try go_bits); (try with_reducible rfl); (try trivial)
        simp only [Act.put, List.setIfInBounds_toArray, List.set_cons_zero, List.set_cons_succ]
        refine take1 (i := 9) (some 26) rfl rfl (by kernel_rfl) (by kernel_rfl) (by kernel_rfl) (fun _ _ _ _ h => h) rfl hS ?_
        apply Exists.intro
        apply And.intro
        · intro W9 hW9; have y1 := hW9.cell' f1.out; go_simp; try with_reducible rfl
        simp only [Act.put, List.setIfInBounds_toArray, List.set_cons_zero, List.set_cons_succ]
        refine take1 (i := 10) (some 27) rfl rfl (by kernel_rfl) (by kernel_rfl) (by kernel_rfl) (fun _ _ _ _ h => h) rfl hS ?_
        apply Exists.intro
        apply And.intro
        · intro W9 hW9; have y1 := hW9.cell' f1.out; go_simp; try with_reducible rfl
        simp only [Act.put, List.setIfInBounds_toArray, List.set_cons_zero, List.set_cons_succ]
        refine take1 (i := 11) (some 28) rfl rfl (by kernel_rfl) (by kernel_rfl) (by kernel_rfl) (fun _ _ _ _ h => h) rfl hS ?_
        refine Exists.intro (.int .i64 m) ?_
        apply And.intro
        · intro W9 hW9; have y1 := hW9.cell' f1.out; go_simp; (try go_bits); (try with_reducible rfl); (try trivial)
        simp only [Act.put, List.setIfInBounds_toArray, List.set_cons_zero, List.set_cons_succ]
        refine take1 (i := 12) (some 29) rfl rfl (by kernel_rfl) (by kernel_rfl) (by kernel_rfl) (fun _ _ _ _ h => h) rfl hS ?_
        refine Exists.intro (.int .i64 (q : Int)) ?_
        apply And.intro
        · intro W9 hW9; have y1 := hW9.cell' f1.out; go_simp; rw [if_neg (by omega), HQ.out]; (try go_bits); (try rfl); (try trivial)
        simp only [Act.put, List.setIfInBounds_toArray, List.set_cons_zero, List.set_cons_succ]
        refine take1 (i := 13) (some 30) rfl rfl (by kernel_rfl) (by kernel_rfl) (by kernel_rfl) (fun _ _ _ _ h => h) rfl hS ?_
        refine Exists.intro (.int .i64 ((q % 20 : Nat) : Int)) ?_
        apply And.intro
        · intro W9 hW9; have y1 := hW9.cell' f1.out; go_simp; (try go_bits); (try with_reducible rfl); (try trivial)
        simp only [Act.put, List.setIfInBounds_toArray, List.set_cons_zero, List.set_cons_succ]
        refine take1 (i := 14) (some 31) rfl rfl (by kernel_rfl) (by kernel_rfl) (by kernel_rfl) (fun _ _ _ _ h => h) rfl hS ?_
        apply Exists.intro
        apply And.intro
        · intro W9 hW9; have y1 := hW9.cell' f1.out; go_simp; try with_reducible rfl
        simp only [Act.put, List.setIfInBounds_toArray, List.set_cons_zero, List.set_cons_succ]
        refine take1 (i := 15) (some 32) rfl rfl (by kernel_rfl) (by kernel_rfl) (by kernel_rfl) (fun _ _ _ _ h => h) rfl hS ?_
        apply Exists.intro
        apply And.intro
        · intro W9 hW9; have y1 := hW9.cell' f1.out; go_simp; try with_reducible rfl
        simp only [Act.put, List.setIfInBounds_toArray, List.set_cons_zero, List.set_cons_succ]
        refine wpAnyH_ready (rs := [16]) (by kernel_rfl) (by simp) ?_
        refine AllReadyH.cons rfl (fun K hK => ?_) ?_
        go_simp
        go_wp2_with (go_at_call 20; (with_reducible refine Calls.mono (Below_any _ 2 _ (by omega) (by omega)) ?_); rintro e1 w4 ⟨rfl, hb4⟩)
        replace O1 := Lib.hid (own_bw O1.out hb4)
        obtain ⟨z, hz2⟩ : ∃ z, bel (y / 2 ^ min (IntKind.u64.wrap ((q : Int) % 20)).toNat 64) 2 = z := ⟨_, rfl⟩
        have ⟨z1, z2⟩ := bel_bd (y / 2 ^ min (IntKind.u64.wrap ((q : Int) % 20)).toNat 64) 2 (by omega)
        rw [hz2] at z1 z2 ⊢
        clear hz2
        refine hK.out _ _ (hS.trans hb4) (fun hS => ?_)
        clear hK K
        refine take1 (i := 17) (some 34) rfl rfl (by kernel_rfl) (by kernel_rfl) (by kernel_rfl) (fun _ _ _ _ h => h) rfl hS ?_
        refine Exists.intro (.pointer (some ⟨BB, i, none⟩)) ?_
        apply And.intro
        · intro W9 hW9; have y1 := hW9.cell' f1.out; go_simp; (try go_bits); (try with_reducible rfl); (try trivial)
        simp only [Act.put, List.setIfInBounds_toArray, List.set_cons_zero, List.set_cons_succ]
        refine wpAnyH_ready (rs := [18]) (by kernel_rfl) (by simp) ?_
        refine AllReadyH.cons rfl (fun K hK => ?_) ?_
        have kc := (O1.out.cellAt i (by omega)).trans (by rw [List.getElem?_map, List.getElem?_eq_getElem (by have := HL.out; omega)])
        have kf := O1.out.frozenAt i
        go_simp
        have O2 := Lib.hid (O1.out.stored i (.int .i64 z)).1
        refine hK.out _ _ (Bw.setCell hS (p := ⟨BB, i, none⟩) (by have := HB.out; simp; omega) (.int .i64 z)) (fun hS => ?_)
        clear hK K
        refine wpAnyH_done (by kernel_rfl) ?_ _
        rotate_left
        exact AllReadyH.nil
        exact AllReadyH.nil
        have HO2 : Hid ((w4.setCell ⟨BB, i, none⟩ (.int .i64 z)).ownsRow BB 3 1 (.slice (some ⟨BB, 0, none⟩) n n) n ((bs.set i z).map (Value.int .i64))) := Lib.hid (by
          have h9 := O2.out
          rw [← List.map_set] at h9
          exact h9)
        have HC2 : Hid (∀ j, (bs.set i z).getD j 0 = 0 ∨ (bs.set i z).getD j 0 = 1) := Lib.hid (fun j => by
          rw [List.getD_eq_getElem?_getD, List.getElem?_set]
          split
          · split
            · simp only [Option.getD_some]; omega
            · exact .inl rfl
          · rw [← List.getD_eq_getElem?_getD]; exact HC.out j)
        go_wp2
        go_roundg (n - (i + 1))
        case measure => omega
        case rel => exact ⟨i + 1, by omega, by omega, by go_num, Lib.hid hS, _, HO2, Lib.hid (by rw [List.length_set]; exact HL.out), HC2⟩
      · obtain rfl : m = 0 := by omega
        go_wp2
        go_roundg (n - (i + 1))
        case measure => omega
        case rel => exact ⟨i + 1, by omega, by omega, by go_num, HW, _, O1, HL, HC⟩
    · obtain rfl : n = i := by omega
      have hiz : ¬ (n : Int) < n := by omega
      have hr : RdI wr (.slice (some ⟨BB, 0, none⟩) n n) bs := by
        have h := (own_rd (zs := bs) (by rw [HL.out]; exact O1.out) (by rw [HL.out]; omega)).1
        exact h
      have HR := Lib.hid hr
      clear hr
      go_wp2
      go_ret
      exact ⟨⟨_, _, rfl, HR.out, HL.out, HC.out⟩, HW.out⟩
end Go.Proofs.Sky
