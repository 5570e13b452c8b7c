/-
  lemmas for the theorems of this claim. No conditions beyond those written in the statements.
-/
import Derived.Test.YtgeojbmhkmmedaaDoorA28
import Derived.Deep.MidRow
import Derived.Test.YtgeojbmhkmmedaaDoorP28
import Derived.Test.YtgeojbmhkmmedaaDoorBits
set_option linter.unusedVariables false
set_option linter.unusedSimpArgs false
set_option linter.unnecessarySimpa false
namespace Go.Proofs.Sky
open Go Go.RowKit Go.Shelf
set_option maxHeartbeats 2000000
set_option maxRecDepth 8000
/-! chapter 28: of, plus -/
theorem nV_small (b : Bool) (m : Nat) (h : m < 18446744073709551616) : nV b m = #[.bool b, .int .u64 ((m : Nat) : Int), .int .u64 0, .int .u64 0, .int .u64 0] := by
  have e0 : d64 m 0 = m := by simp [d64]; omega
  have e : ∀ i, 1 ≤ i → d64 m i = 0 := fun i hi => by
    unfold d64
    have h1 : 18446744073709551616 ≤ 18446744073709551616 ^ i := Nat.le_self_pow (by omega) _
    rw [Nat.div_eq_of_lt (Nat.lt_of_lt_of_le h h1)]
  unfold nV wV
  rw [e0, e 1 (by omega), e 2 (by omega), e 3 (by omega)]
  rfl
theorem of28_any (n : Int) (w : World) (h : -9000000000000000000 ≤ n ∧ n ≤ 9000000000000000000) : Calls Tryd.prog 54 #[.int .i64 n] w fun e w' => e = .returned (.agg (nV (decide (n < 0)) n.natAbs)) ∧ Bw w w' := by
  rw [nV_small _ _ (by omega)]
  have HB := Lib.hid (Bw.alloc (Bw.refl w) (.cells #[.bool false, .int .u64 0, .int .u64 0, .int .u64 0, .int .u64 0] 66))
  have KR := Lib.hid (Blk.new w 66 #[.bool false, .int .u64 0, .int .u64 0, .int .u64 0, .int .u64 0])
  by_cases c : n < 0
  · have hm : ((n.natAbs : Nat) : Int) = -n := by omega
    rw [decide_eq_true c, hm]
    have hb : 0 < -n ∧ -n ≤ 9000000000000000000 := by omega
    go_enter Tryd.func54, Tryd.ntmps54
    have hwr : IntKind.u64.wrap (-IntKind.u64.wrap n) = -n := by
      simp [IntKind.wrap, IntKind.min, IntKind.max, IntKind.signed, IntKind.bits]
      omega
    go_wp2
    refine bodyPost_ret (v := .agg #[.bool true, .int .u64 (-n), .int .u64 0, .int .u64 0, .int .u64 0]) ?_ rfl ⟨rfl, Bw.alloc (Bw.refl w) _⟩
    exact results_cell_row (p := 2) rfl _ _ w.heap.size _ _ (0, 0) _ rfl (Blk.new w 66 _) Tryd.underlying66 rfl (by kernel_rfl)
  · have hm : ((n.natAbs : Nat) : Int) = n := by omega
    rw [decide_eq_false c, hm]
    go_enter Tryd.func54, Tryd.ntmps54
    go_wp2_with ((with_reducible refine at_store 66 (.tmp 2) (.tmp 13) ?_); refine wpList_store_row rfl 66 (.tmp 2) (.tmp 13) rfl w.heap.size #[.bool false, .int .u64 n, .int .u64 0, .int .u64 0, .int .u64 0] rfl rfl 66 _ KR.out (by kernel_rfl) rfl (by simp [Value.oneCell']) ?_)
    refine bodyPost_ret (v := .agg #[.bool false, .int .u64 n, .int .u64 0, .int .u64 0, .int .u64 0]) ?_ rfl ⟨rfl, Bw.setRow HB.out (Nat.le_refl _) _⟩
    exact results_cell_row (p := 2) rfl _ _ w.heap.size _ _ (0, 0) _ rfl (KR.out.row _) Tryd.underlying66 rfl (by kernel_rfl)
theorem run_load_parts {o : Oper} {ρ : Operand → Value} (x : Operand) (ho : o.op = .load 64 x) {w : World} (g : Nat) (hx : ρ x = .pointer (some ⟨g, 1, none⟩)) {y : Nat → Nat} (hB : w.rangeAt g 1 (oV y).toList) : (execOp ρ o).run Tryd.prog w = .ok (.value (.agg (oV y))) w := by
  have h9 : (Instr.loadAt 64 (.pointer (some ⟨g, 1, none⟩))).run Tryd.prog w = .ok (.agg (oV y)) w := run_loadAt_mid w g 1 64 (oV y).toList _ hB Tryd.underlying64 rfl (by kernel_rfl)
  unfold execOp
  simp only [ho, hx, Sem.run_bind, Sem.run_pure, Result.andThen_ok, h9]
theorem wpList_load_parts {ops : Array Oper} {rest : List Oper} {op : Oper} {a : Act} {w : World} {Q : Exit → Act → World → Prop} (hgd : op.guard = none) (x : Operand) (ho : op.op = .load 64 x)
    (g : Nat) (hx : a.eval x = .pointer (some ⟨g, 1, none⟩)) {y : Nat → Nat} (hB : w.rangeAt g 1 (oV y).toList)
    (h : wpList Tryd.prog ops Q rest (a.put op.dst (.agg (oV y))) w) : wpList Tryd.prog ops Q (op :: rest) a w :=
  wpList_load_mid hgd 64 x ho g 1 hx (oV y).toList _ hB Tryd.underlying64 rfl (by kernel_rfl) h
theorem wV_range {W : World} {g : Nat} {T : TypeId} {s : Bool} {x : Nat → Nat} (hB : Blk W g T (wV s x)) : W.rangeAt g 1 (oV x).toList := by
  intro j v h
  have hj : j < 4 := (List.getElem?_eq_some_iff.1 h).1
  refine hB.cell ?_
  rw [← h]
  match j, hj with
  | 0, _ => rfl
  | 1, _ => rfl
  | 2, _ => rfl
  | 3, _ => rfl
theorem Kx.row {g : Nat} {w : World} (hg : g < w.heap.size) (cs : Array Value) : Kx g w (w.setRow g cs) :=
  ⟨⟨rfl, rfl, rfl, by simp, fun k hk => setRow_other w g k cs (by omega)⟩, fun b _ hn => setRow_other w g b cs hn⟩
theorem plus_same (s : Bool) (A B : Nat) (w : World) : Calls Tryd.prog 56 #[.agg (nV s A), .agg (nV s B)] w fun e w' => e = .returned (.agg (nV s (A + B))) ∧ Bw w w' := by
  obtain ⟨t, ht⟩ : ∃ t, t = s := ⟨_, rfl⟩
  have hst : (s == t) = true := by rw [ht]; simp
  rw [show nV s B = nV t B by rw [ht]]
  clear ht
  have AD := Lib.hid (fun W => add_any A B W)
  unfold pV at AD
  obtain ⟨g, hg⟩ : ∃ g, w.heap.size = g := ⟨_, rfl⟩
  have HW := Lib.hid (Bw.alloc (Bw.alloc (Bw.alloc (Bw.refl w) (.cells (wV s (d64 A)) 66)) (.cells (wV t (d64 B)) 66)) (.cells #[.bool false, .int .u64 0, .int .u64 0, .int .u64 0, .int .u64 0] 66))
  have KA := Lib.hid (((Blk.new w 66 (wV s (d64 A))).alloc (.cells (wV t (d64 B)) 66)).alloc (.cells #[.bool false, .int .u64 0, .int .u64 0, .int .u64 0, .int .u64 0] 66))
  have KB := Lib.hid ((Blk.new (w.alloc (.cells (wV s (d64 A)) 66)) 66 (wV t (d64 B))).alloc (.cells #[.bool false, .int .u64 0, .int .u64 0, .int .u64 0, .int .u64 0] 66))
  have KO := Lib.hid (show Blk (((w.alloc (.cells (wV s (d64 A)) 66)).alloc (.cells (wV t (d64 B)) 66)).alloc (.cells #[.bool false, .int .u64 0, .int .u64 0, .int .u64 0, .int .u64 0] 66)) (w.heap.size + 1 + 1) 66 (wV false (fun _ => 0)) from by have h9 := Blk.new ((w.alloc (.cells (wV s (d64 A)) 66)).alloc (.cells (wV t (d64 B)) 66)) 66 #[.bool false, .int .u64 0, .int .u64 0, .int .u64 0, .int .u64 0]; simp only [World.size_alloc] at h9; exact h9)
  simp only [World.size_alloc] at KB
  have hx0 : (wV s (d64 A))[0]? = some (.bool s) := rfl
  have hx1 : (wV t (d64 B))[0]? = some (.bool t) := rfl
  have hoA : (wV s (d64 A)).all (·.oneCell') = true := by simp [wV, Value.oneCell']
  have hoB : (wV t (d64 B)).all (·.oneCell') = true := by simp [wV, Value.oneCell']
  have HHA : Hid (∀ W b T, Blk W b T (wV s (d64 A)) → W.rangeAt b 1 (oV (d64 A)).toList) := Lib.hid (fun W b T h => wV_range h)
  have HHB : Hid (∀ W b T, Blk W b T (wV t (d64 B)) → W.rangeAt b 1 (oV (d64 B)).toList) := Lib.hid (fun W b T h => wV_range h)
  unfold nV
  obtain ⟨DA, hDA⟩ : ∃ DA, DA = wV s (d64 A) := ⟨_, rfl⟩
  obtain ⟨DB, hDB⟩ : ∃ DB, DB = wV t (d64 B) := ⟨_, rfl⟩
  rw [← hDA] at HW KA KB KO hx0 hoA HHA ⊢
  rw [← hDB] at HW KA KB KO hx1 hoB HHB ⊢
  clear hDA hDB
  have HG := Lib.hid hg
  rw [hg] at KA KB KO
  go_enter Tryd.func56, Tryd.ntmps56
  go_upto_region 1 with fail
  obtain ⟨W0, hW0⟩ : ∃ W0, ((w.alloc (.cells DA 66)).alloc (.cells DB 66)).alloc (.cells #[.bool false, .int .u64 0, .int .u64 0, .int .u64 0, .int .u64 0] 66) = W0 := ⟨_, rfl⟩
  rw [hW0] at KA KB KO HW ⊢
  clear hW0 hg hoA hoB
  have x0 := KA.out.cell hx0
  have x1 := KB.out.cell hx1
  go_upto_region 2 with fail
  refine wp_region_held_drew (S := Kx (g + 1 + 1) W0) (by kernel_rfl) (Kx.of_bw (Bw.drew (Bw.refl _)) (Nat.le_of_lt KO.out.lt)) (fun hS => ?_)
  replace KO := Lib.hid (KO.out.bw (Bw.drew (Bw.refl _)))
  generalize World.drew _ = wd at hS KO ⊢
  refine take1 (i := 0) (some 12) rfl rfl (by kernel_rfl) (by kernel_rfl) (by kernel_rfl) (fun _ _ _ _ h => h) rfl hS ?_
  apply Exists.intro
  apply And.intro
  · intro W9 hW9; have y0 := (hW9.blk KA.out (by omega)).cell hx0; have y1 := (hW9.blk KB.out (by omega)).cell hx1; go_simp; try with_reducible rfl
  simp only [Act.put, List.setIfInBounds_toArray, List.set_cons_zero, List.set_cons_succ]
  refine take1 (i := 1) (some 13) rfl rfl (by kernel_rfl) (by kernel_rfl) (by kernel_rfl) (fun _ _ _ _ h => h) rfl hS ?_
  apply Exists.intro
  apply And.intro
  · intro W9 hW9; have y0 := (hW9.blk KA.out (by omega)).cell hx0; have y1 := (hW9.blk KB.out (by omega)).cell hx1; go_simp; try with_reducible rfl
  simp only [Act.put, List.setIfInBounds_toArray, List.set_cons_zero, List.set_cons_succ]
  refine take1 (i := 2) (some 14) rfl rfl (by kernel_rfl) (by kernel_rfl) (by kernel_rfl) (fun _ _ _ _ h => h) rfl hS ?_
  apply Exists.intro
  apply And.intro
  · intro W9 hW9; have y0 := (hW9.blk KA.out (by omega)).cell hx0; have y1 := (hW9.blk KB.out (by omega)).cell hx1; go_simp; try with_reducible rfl
  simp only [Act.put, List.setIfInBounds_toArray, List.set_cons_zero, List.set_cons_succ]
  refine take1 (i := 3) (some 15) rfl rfl (by kernel_rfl) (by kernel_rfl) (by kernel_rfl) (fun _ _ _ _ h => h) rfl hS ?_
  refine Exists.intro (.agg (oV (d64 A))) ?_
  apply And.intro
  · intro W9 hW9; have y0 := (hW9.blk KA.out (by omega)).cell hx0; have y1 := (hW9.blk KB.out (by omega)).cell hx1; exact run_load_parts _ rfl g rfl (HHA.out _ _ _ (hW9.blk KA.out (by omega)))
  simp only [Act.put, List.setIfInBounds_toArray, List.set_cons_zero, List.set_cons_succ]
  refine take1 (i := 4) (some 16) rfl rfl (by kernel_rfl) (by kernel_rfl) (by kernel_rfl) (fun _ _ _ _ h => h) rfl hS ?_
  apply Exists.intro
  apply And.intro
  · intro W9 hW9; have y0 := (hW9.blk KA.out (by omega)).cell hx0; have y1 := (hW9.blk KB.out (by omega)).cell hx1; go_simp; try with_reducible rfl
  simp only [Act.put, List.setIfInBounds_toArray, List.set_cons_zero, List.set_cons_succ]
  refine take1 (i := 5) (some 17) rfl rfl (by kernel_rfl) (by kernel_rfl) (by kernel_rfl) (fun _ _ _ _ h => h) rfl hS ?_
  refine Exists.intro (.agg (oV (d64 B))) ?_
  apply And.intro
  · intro W9 hW9; have y0 := (hW9.blk KA.out (by omega)).cell hx0; have y1 := (hW9.blk KB.out (by omega)).cell hx1; exact run_load_parts _ rfl (g + 1) rfl (HHB.out _ _ _ (hW9.blk KB.out (by omega)))
  simp only [Act.put, List.setIfInBounds_toArray, List.set_cons_zero, List.set_cons_succ]
  refine wpAnyH_ready (rs := [6]) (by kernel_rfl) (by simp) ?_
  refine AllReadyH.cons rfl (fun K hK => ?_) ?_
  go_simp
  go_wp2_with (go_at_call 57; (with_reducible refine Calls.mono (AD.out _) ?_); rintro e1 w13 ⟨rfl, hb13⟩)
  have hle := Nat.le_of_lt KO.out.lt
  replace KO := Lib.hid (KO.out.bw hb13)
  refine hK.out _ _ (hS.trans (Kx.of_bw hb13 hle)) (fun hS => ?_)
  clear hK K
  clear hb13 hle
  refine take1 (i := 7) (some 19) rfl rfl (by kernel_rfl) (by kernel_rfl) (by kernel_rfl) (fun _ _ _ _ h => h) rfl hS ?_
  refine Exists.intro (.agg (wV s (d64 (A + B)))) ?_
  apply And.intro
  · intro W9 hW9; have y0 := (hW9.blk KA.out (by omega)).cell hx0; have y1 := (hW9.blk KB.out (by omega)).cell hx1; simp only [oV, wV]; go_simp; (try go_bits); (try with_reducible rfl); (try trivial)
  simp only [Act.put, List.setIfInBounds_toArray, List.set_cons_zero, List.set_cons_succ]
  refine wpAnyH_ready (rs := [8]) (by kernel_rfl) (by simp) ?_
  refine AllReadyH.cons rfl (fun K hK => ?_) ?_
  rw [if_pos (by rfl)]
  have hst := Kx.row KO.out.lt (wV s (d64 (A + B)))
  refine wp_store_row0 66 _ _ rfl rfl (g + 1 + 1) (wV s (d64 (A + B))) rfl rfl 66 _ KO.out (by kernel_rfl) rfl (by simp [wV, Value.oneCell']) ?_
  replace KO := Lib.hid (KO.out.row (wV s (d64 (A + B))))
  refine hK.out _ _ (hS.trans hst) (fun hS => ?_)
  clear hK K
  clear hst
  refine wpAnyH_done (by kernel_rfl) ?_ _
  rotate_left
  exact AllReadyH.nil
  exact AllReadyH.nil
  all_goals
    go_wp2
    have B9 := hS.bw HW.out (show w.heap.size ≤ g + 1 + 1 by have := HG.out; omega)
    refine bodyPost_ret (v := .agg (wV s (d64 (A + B)))) ?_ rfl ⟨rfl, B9⟩
    exact results_cell_row (p := 4) rfl _ _ (g + 1 + 1) _ _ (0, 0) _ rfl KO.out Tryd.underlying66 rfl (by kernel_rfl)
theorem d64_M (X i : Nat) (h : i < 4) : d64 (X + M256) i = d64 X i := by
  have := low_add X 1 (i + 1) (by omega)
  rw [Nat.mul_one] at this
  exact d64_low i this
theorem less_lt {A B : Nat} (hA : A < M256) (hB : B < M256) (h : A < B) (w : World) : Calls Tryd.prog 58 #[.agg (oV (d64 A)), .agg (oV (d64 B))] w fun e w' => (∃ D, e = .returned (.tuple #[.agg (oV D), .int .u64 1])) ∧ Bw w w' := by
  have h9 := less_any A B hA hB w
  rw [if_pos h] at h9
  exact h9.mono fun e w' ⟨h1, h2⟩ => ⟨⟨_, h1⟩, h2⟩
theorem less_ge {A B : Nat} (hA : A < M256) (hB : B < M256) (h : ¬ A < B) (w : World) : Calls Tryd.prog 58 #[.agg (oV (d64 A)), .agg (oV (d64 B))] w fun e w' => e = .returned (.tuple #[.agg (oV (d64 (A - B))), .int .u64 0]) ∧ Bw w w' := by
  have h9 := less_any A B hA hB w
  rw [if_neg h, show A + M256 - B = (A - B) + M256 by omega] at h9
  unfold pV at h9
  rw [oV_congr (fun j hj => d64_M (A - B) j hj)] at h9
  exact h9
theorem plus_lt (s : Bool) {A B : Nat} (hA : A < M256) (hB : B < M256) (h : A < B) (w : World) : Calls Tryd.prog 56 #[.agg (nV s A), .agg (nV (!s) B)] w fun e w' => e = .returned (.agg (nV (!s) (B - A))) ∧ Bw w w' := by
  obtain ⟨t, ht⟩ : ∃ t, t = !s := ⟨_, rfl⟩
  have hst : (s == t) = false := by rw [ht]; cases s <;> rfl
  rw [← ht]
  clear ht
  have LS := Lib.hid (fun W => less_lt hA hB h W)
  have LT := Lib.hid (fun W => less_ge hB hA (by omega) W)
  obtain ⟨g, hg⟩ : ∃ g, w.heap.size = g := ⟨_, rfl⟩
  have HW := Lib.hid (Bw.alloc (Bw.alloc (Bw.alloc (Bw.refl w) (.cells (wV s (d64 A)) 66)) (.cells (wV t (d64 B)) 66)) (.cells #[.bool false, .int .u64 0, .int .u64 0, .int .u64 0, .int .u64 0] 66))
  have KA := Lib.hid (((Blk.new w 66 (wV s (d64 A))).alloc (.cells (wV t (d64 B)) 66)).alloc (.cells #[.bool false, .int .u64 0, .int .u64 0, .int .u64 0, .int .u64 0] 66))
  have KB := Lib.hid ((Blk.new (w.alloc (.cells (wV s (d64 A)) 66)) 66 (wV t (d64 B))).alloc (.cells #[.bool false, .int .u64 0, .int .u64 0, .int .u64 0, .int .u64 0] 66))
  have KO := Lib.hid (show Blk (((w.alloc (.cells (wV s (d64 A)) 66)).alloc (.cells (wV t (d64 B)) 66)).alloc (.cells #[.bool false, .int .u64 0, .int .u64 0, .int .u64 0, .int .u64 0] 66)) (w.heap.size + 1 + 1) 66 (wV false (fun _ => 0)) from by have h9 := Blk.new ((w.alloc (.cells (wV s (d64 A)) 66)).alloc (.cells (wV t (d64 B)) 66)) 66 #[.bool false, .int .u64 0, .int .u64 0, .int .u64 0, .int .u64 0]; simp only [World.size_alloc] at h9; exact h9)
  simp only [World.size_alloc] at KB
  have hx0 : (wV s (d64 A))[0]? = some (.bool s) := rfl
  have hx1 : (wV t (d64 B))[0]? = some (.bool t) := rfl
  have hoA : (wV s (d64 A)).all (·.oneCell') = true := by simp [wV, Value.oneCell']
  have hoB : (wV t (d64 B)).all (·.oneCell') = true := by simp [wV, Value.oneCell']
  have HHA : Hid (∀ W b T, Blk W b T (wV s (d64 A)) → W.rangeAt b 1 (oV (d64 A)).toList) := Lib.hid (fun W b T h => wV_range h)
  have HHB : Hid (∀ W b T, Blk W b T (wV t (d64 B)) → W.rangeAt b 1 (oV (d64 B)).toList) := Lib.hid (fun W b T h => wV_range h)
  unfold nV
  obtain ⟨DN, hDN⟩ : ∃ DN, DN = d64 (B - A) := ⟨_, rfl⟩
  rw [← hDN] at LT ⊢
  clear hDN
  obtain ⟨DA, hDA⟩ : ∃ DA, DA = wV s (d64 A) := ⟨_, rfl⟩
  obtain ⟨DB, hDB⟩ : ∃ DB, DB = wV t (d64 B) := ⟨_, rfl⟩
  rw [← hDA] at HW KA KB KO hx0 hoA HHA ⊢
  rw [← hDB] at HW KA KB KO hx1 hoB HHB ⊢
  clear hDA hDB
  have HG := Lib.hid hg
  rw [hg] at KA KB KO
  go_enter Tryd.func56, Tryd.ntmps56
  go_upto_region 1 with fail
  obtain ⟨W0, hW0⟩ : ∃ W0, ((w.alloc (.cells DA 66)).alloc (.cells DB 66)).alloc (.cells #[.bool false, .int .u64 0, .int .u64 0, .int .u64 0, .int .u64 0] 66) = W0 := ⟨_, rfl⟩
  rw [hW0] at KA KB KO HW ⊢
  clear hW0 hg hoA hoB
  have x0 := KA.out.cell hx0
  have x1 := KB.out.cell hx1
  clear hA hB h
  go_upto_region 3 with fail
  go_upto_region 4 with (first | ((with_reducible refine at_load 64 (.tmp 21) ?_); refine wpList_load_parts rfl (.tmp 21) rfl g rfl (HHA.out _ _ _ KA.out) ?_) | ((with_reducible refine at_load 64 (.tmp 23) ?_); refine wpList_load_parts rfl (.tmp 23) rfl (g + 1) rfl (HHB.out _ _ _ KB.out) ?_) | (go_at_call 58; (with_reducible refine Calls.mono (LS.out _) ?_); rintro e1 w1 ⟨⟨D0, rfl⟩, hb1⟩; replace HW := Lib.hid (HW.out.trans hb1); replace KA := Lib.hid (KA.out.bw hb1); replace KB := Lib.hid (KB.out.bw hb1); replace KO := Lib.hid (KO.out.bw hb1); clear hb1; (try unfold oV)) | ((with_reducible refine at_store 64 (.tmp 5) (.tmp 26) ?_); refine wpList_store_row rfl 64 (.tmp 5) (.tmp 26) rfl w1.heap.size #[.int .u64 ((D0 0 : Nat) : Int), .int .u64 ((D0 1 : Nat) : Int), .int .u64 ((D0 2 : Nat) : Int), .int .u64 ((D0 3 : Nat) : Int)] rfl rfl 64 _ (Blk.new w1 64 #[.int .u64 0, .int .u64 0, .int .u64 0, .int .u64 0]) (by kernel_rfl) rfl (by simp [Value.oneCell', oV, wV]) ?_))
  obtain ⟨g5, hg5⟩ : ∃ g5, w1.heap.size = g5 := ⟨_, rfl⟩
  have hb1 := Bw.setRow (Bw.alloc (Bw.refl w1) (.cells #[.int .u64 0, .int .u64 0, .int .u64 0, .int .u64 0] 64)) (Nat.le_of_eq hg5) #[.int .u64 ((D0 0 : Nat) : Int), .int .u64 ((D0 1 : Nat) : Int), .int .u64 ((D0 2 : Nat) : Int), .int .u64 ((D0 3 : Nat) : Int)]
  have KD := Lib.hid ((Blk.new w1 64 #[.int .u64 0, .int .u64 0, .int .u64 0, .int .u64 0]).row #[.int .u64 ((D0 0 : Nat) : Int), .int .u64 ((D0 1 : Nat) : Int), .int .u64 ((D0 2 : Nat) : Int), .int .u64 ((D0 3 : Nat) : Int)])
  have HG5 := Lib.hid (show g + 1 + 1 < g5 by have := KO.out.lt; omega)
  rw [hg5] at KD ⊢
  replace HW := Lib.hid (HW.out.trans hb1); replace KA := Lib.hid (KA.out.bw hb1); replace KB := Lib.hid (KB.out.bw hb1); replace KO := Lib.hid (KO.out.bw hb1)
  clear hb1
  generalize World.setRow (World.alloc w1 _) _ _ = w2 at *
  clear hg5
  replace x0 := KA.out.cell hx0
  replace x1 := KB.out.cell hx1
  go_upto_region 6 with (first | ((with_reducible refine at_load 64 (.tmp 31) ?_); refine wpList_load_parts rfl (.tmp 31) rfl (g + 1) rfl (HHB.out _ _ _ KB.out) ?_) | ((with_reducible refine at_load 64 (.tmp 33) ?_); refine wpList_load_parts rfl (.tmp 33) rfl g rfl (HHA.out _ _ _ KA.out) ?_) | (go_at_call 58; (with_reducible refine Calls.mono (LT.out _) ?_); rintro e1 w3 ⟨rfl, hb1⟩; replace HW := Lib.hid (HW.out.trans hb1); replace KA := Lib.hid (KA.out.bw hb1); replace KB := Lib.hid (KB.out.bw hb1); replace KO := Lib.hid (KO.out.bw hb1); replace KD := Lib.hid (KD.out.bw hb1); clear hb1; (try unfold oV)) | ((with_reducible refine at_store 64 (.tmp 5) (.tmp 36) ?_); refine wpList_store_row rfl 64 (.tmp 5) (.tmp 36) rfl g5 #[.int .u64 ((DN 0 : Nat) : Int), .int .u64 ((DN 1 : Nat) : Int), .int .u64 ((DN 2 : Nat) : Int), .int .u64 ((DN 3 : Nat) : Int)] rfl rfl 64 _ KD.out (by kernel_rfl) rfl (by simp [Value.oneCell', oV, wV]) ?_))
  have hb1 := Bw.setRow HW.out (show w.heap.size ≤ g5 by have := HG.out; have := HG5.out; omega) #[.int .u64 ((DN 0 : Nat) : Int), .int .u64 ((DN 1 : Nat) : Int), .int .u64 ((DN 2 : Nat) : Int), .int .u64 ((DN 3 : Nat) : Int)]
  replace KA := Lib.hid (KA.out.row_other (g' := g5) (by have := HG5.out; omega) #[.int .u64 ((DN 0 : Nat) : Int), .int .u64 ((DN 1 : Nat) : Int), .int .u64 ((DN 2 : Nat) : Int), .int .u64 ((DN 3 : Nat) : Int)])
  replace KB := Lib.hid (KB.out.row_other (g' := g5) (by have := HG5.out; omega) #[.int .u64 ((DN 0 : Nat) : Int), .int .u64 ((DN 1 : Nat) : Int), .int .u64 ((DN 2 : Nat) : Int), .int .u64 ((DN 3 : Nat) : Int)])
  replace KO := Lib.hid (KO.out.row_other (g' := g5) (by have := HG5.out; omega) #[.int .u64 ((DN 0 : Nat) : Int), .int .u64 ((DN 1 : Nat) : Int), .int .u64 ((DN 2 : Nat) : Int), .int .u64 ((DN 3 : Nat) : Int)])
  replace KD := Lib.hid (KD.out.row #[.int .u64 ((DN 0 : Nat) : Int), .int .u64 ((DN 1 : Nat) : Int), .int .u64 ((DN 2 : Nat) : Int), .int .u64 ((DN 3 : Nat) : Int)])
  replace HW := Lib.hid hb1
  clear hb1
  generalize World.setRow w3 _ _ = w4 at *
  (try simp only [Act.put])
  replace x0 := KA.out.cell hx0
  replace x1 := KB.out.cell hx1
  go_wp2_with (first | ((with_reducible refine at_load 64 (.tmp 5) ?_); refine wpList_load_row rfl 64 _ rfl g5 rfl 64 #[.int .u64 ((DN 0 : Nat) : Int), .int .u64 ((DN 1 : Nat) : Int), .int .u64 ((DN 2 : Nat) : Int), .int .u64 ((DN 3 : Nat) : Int)] (0, 0) _ KD.out Tryd.underlying64 rfl (by kernel_rfl) ?_) | ((with_reducible refine at_store 66 (.tmp 4) (.tmp 41) ?_); refine wpList_store_row rfl 66 (.tmp 4) (.tmp 41) rfl (g + 1 + 1) #[.bool t, .int .u64 ((DN 0 : Nat) : Int), .int .u64 ((DN 1 : Nat) : Int), .int .u64 ((DN 2 : Nat) : Int), .int .u64 ((DN 3 : Nat) : Int)] rfl rfl 66 _ KO.out (by kernel_rfl) rfl (by simp [Value.oneCell', oV, wV]) ?_))
  have F9 := KO.out.row #[.bool t, .int .u64 ((DN 0 : Nat) : Int), .int .u64 ((DN 1 : Nat) : Int), .int .u64 ((DN 2 : Nat) : Int), .int .u64 ((DN 3 : Nat) : Int)]
  have B9 := Bw.setRow HW.out (show w.heap.size ≤ g + 1 + 1 by have := HG.out; omega) #[.bool t, .int .u64 ((DN 0 : Nat) : Int), .int .u64 ((DN 1 : Nat) : Int), .int .u64 ((DN 2 : Nat) : Int), .int .u64 ((DN 3 : Nat) : Int)]
  refine bodyPost_ret (v := .agg #[.bool t, .int .u64 ((DN 0 : Nat) : Int), .int .u64 ((DN 1 : Nat) : Int), .int .u64 ((DN 2 : Nat) : Int), .int .u64 ((DN 3 : Nat) : Int)]) ?_ rfl ⟨rfl, B9⟩
  exact results_cell_row (p := 4) rfl _ _ (g + 1 + 1) _ _ (0, 0) _ rfl F9 Tryd.underlying66 rfl (by kernel_rfl)
theorem plus_ge (s : Bool) {A B : Nat} (hA : A < M256) (hB : B < M256) (h : ¬ A < B) (w : World) : Calls Tryd.prog 56 #[.agg (nV s A), .agg (nV (!s) B)] w fun e w' => e = .returned (.agg (nV s (A - B))) ∧ Bw w w' := by
  obtain ⟨t, ht⟩ : ∃ t, t = !s := ⟨_, rfl⟩
  have hst : (s == t) = false := by rw [ht]; cases s <;> rfl
  rw [← ht]
  clear ht
  have LS := Lib.hid (fun W => less_ge hA hB h W)
  obtain ⟨g, hg⟩ : ∃ g, w.heap.size = g := ⟨_, rfl⟩
  have HW := Lib.hid (Bw.alloc (Bw.alloc (Bw.alloc (Bw.refl w) (.cells (wV s (d64 A)) 66)) (.cells (wV t (d64 B)) 66)) (.cells #[.bool false, .int .u64 0, .int .u64 0, .int .u64 0, .int .u64 0] 66))
  have KA := Lib.hid (((Blk.new w 66 (wV s (d64 A))).alloc (.cells (wV t (d64 B)) 66)).alloc (.cells #[.bool false, .int .u64 0, .int .u64 0, .int .u64 0, .int .u64 0] 66))
  have KB := Lib.hid ((Blk.new (w.alloc (.cells (wV s (d64 A)) 66)) 66 (wV t (d64 B))).alloc (.cells #[.bool false, .int .u64 0, .int .u64 0, .int .u64 0, .int .u64 0] 66))
  have KO := Lib.hid (show Blk (((w.alloc (.cells (wV s (d64 A)) 66)).alloc (.cells (wV t (d64 B)) 66)).alloc (.cells #[.bool false, .int .u64 0, .int .u64 0, .int .u64 0, .int .u64 0] 66)) (w.heap.size + 1 + 1) 66 (wV false (fun _ => 0)) from by have h9 := Blk.new ((w.alloc (.cells (wV s (d64 A)) 66)).alloc (.cells (wV t (d64 B)) 66)) 66 #[.bool false, .int .u64 0, .int .u64 0, .int .u64 0, .int .u64 0]; simp only [World.size_alloc] at h9; exact h9)
  simp only [World.size_alloc] at KB
  have hx0 : (wV s (d64 A))[0]? = some (.bool s) := rfl
  have hx1 : (wV t (d64 B))[0]? = some (.bool t) := rfl
  have hoA : (wV s (d64 A)).all (·.oneCell') = true := by simp [wV, Value.oneCell']
  have hoB : (wV t (d64 B)).all (·.oneCell') = true := by simp [wV, Value.oneCell']
  have HHA : Hid (∀ W b T, Blk W b T (wV s (d64 A)) → W.rangeAt b 1 (oV (d64 A)).toList) := Lib.hid (fun W b T h => wV_range h)
  have HHB : Hid (∀ W b T, Blk W b T (wV t (d64 B)) → W.rangeAt b 1 (oV (d64 B)).toList) := Lib.hid (fun W b T h => wV_range h)
  unfold nV
  obtain ⟨DN, hDN⟩ : ∃ DN, DN = d64 (A - B) := ⟨_, rfl⟩
  rw [← hDN] at LS ⊢
  clear hDN
  obtain ⟨DA, hDA⟩ : ∃ DA, DA = wV s (d64 A) := ⟨_, rfl⟩
  obtain ⟨DB, hDB⟩ : ∃ DB, DB = wV t (d64 B) := ⟨_, rfl⟩
  rw [← hDA] at HW KA KB KO hx0 hoA HHA ⊢
  rw [← hDB] at HW KA KB KO hx1 hoB HHB ⊢
  clear hDA hDB
  have HG := Lib.hid hg
  rw [hg] at KA KB KO
  go_enter Tryd.func56, Tryd.ntmps56
  go_upto_region 1 with fail
  obtain ⟨W0, hW0⟩ : ∃ W0, ((w.alloc (.cells DA 66)).alloc (.cells DB 66)).alloc (.cells #[.bool false, .int .u64 0, .int .u64 0, .int .u64 0, .int .u64 0] 66) = W0 := ⟨_, rfl⟩
  rw [hW0] at KA KB KO HW ⊢
  clear hW0 hg hoA hoB
  have x0 := KA.out.cell hx0
  have x1 := KB.out.cell hx1
  clear hA hB h
  go_upto_region 3 with fail
  go_upto_region 4 with (first | ((with_reducible refine at_load 64 (.tmp 21) ?_); refine wpList_load_parts rfl (.tmp 21) rfl g rfl (HHA.out _ _ _ KA.out) ?_) | ((with_reducible refine at_load 64 (.tmp 23) ?_); refine wpList_load_parts rfl (.tmp 23) rfl (g + 1) rfl (HHB.out _ _ _ KB.out) ?_) | (go_at_call 58; (with_reducible refine Calls.mono (LS.out _) ?_); rintro e1 w1 ⟨rfl, hb1⟩; replace HW := Lib.hid (HW.out.trans hb1); replace KA := Lib.hid (KA.out.bw hb1); replace KB := Lib.hid (KB.out.bw hb1); replace KO := Lib.hid (KO.out.bw hb1); clear hb1; (try unfold oV)) | ((with_reducible refine at_store 64 (.tmp 5) (.tmp 26) ?_); refine wpList_store_row rfl 64 (.tmp 5) (.tmp 26) rfl w1.heap.size #[.int .u64 ((DN 0 : Nat) : Int), .int .u64 ((DN 1 : Nat) : Int), .int .u64 ((DN 2 : Nat) : Int), .int .u64 ((DN 3 : Nat) : Int)] rfl rfl 64 _ (Blk.new w1 64 #[.int .u64 0, .int .u64 0, .int .u64 0, .int .u64 0]) (by kernel_rfl) rfl (by simp [Value.oneCell', oV, wV]) ?_))
  obtain ⟨g5, hg5⟩ : ∃ g5, w1.heap.size = g5 := ⟨_, rfl⟩
  have hb1 := Bw.setRow (Bw.alloc (Bw.refl w1) (.cells #[.int .u64 0, .int .u64 0, .int .u64 0, .int .u64 0] 64)) (Nat.le_of_eq hg5) #[.int .u64 ((DN 0 : Nat) : Int), .int .u64 ((DN 1 : Nat) : Int), .int .u64 ((DN 2 : Nat) : Int), .int .u64 ((DN 3 : Nat) : Int)]
  have KD := Lib.hid ((Blk.new w1 64 #[.int .u64 0, .int .u64 0, .int .u64 0, .int .u64 0]).row #[.int .u64 ((DN 0 : Nat) : Int), .int .u64 ((DN 1 : Nat) : Int), .int .u64 ((DN 2 : Nat) : Int), .int .u64 ((DN 3 : Nat) : Int)])
  have HG5 := Lib.hid (show g + 1 + 1 < g5 by have := KO.out.lt; omega)
  rw [hg5] at KD ⊢
  replace HW := Lib.hid (HW.out.trans hb1); replace KA := Lib.hid (KA.out.bw hb1); replace KB := Lib.hid (KB.out.bw hb1); replace KO := Lib.hid (KO.out.bw hb1)
  clear hb1
  generalize World.setRow (World.alloc w1 _) _ _ = w2 at *
  clear hg5
  replace x0 := KA.out.cell hx0
  replace x1 := KB.out.cell hx1
  go_wp2_with (first | ((with_reducible refine at_load 64 (.tmp 5) ?_); refine wpList_load_row rfl 64 _ rfl g5 rfl 64 #[.int .u64 ((DN 0 : Nat) : Int), .int .u64 ((DN 1 : Nat) : Int), .int .u64 ((DN 2 : Nat) : Int), .int .u64 ((DN 3 : Nat) : Int)] (0, 0) _ KD.out Tryd.underlying64 rfl (by kernel_rfl) ?_) | ((with_reducible refine at_store 66 (.tmp 4) (.tmp 45) ?_); refine wpList_store_row rfl 66 (.tmp 4) (.tmp 45) rfl (g + 1 + 1) #[.bool s, .int .u64 ((DN 0 : Nat) : Int), .int .u64 ((DN 1 : Nat) : Int), .int .u64 ((DN 2 : Nat) : Int), .int .u64 ((DN 3 : Nat) : Int)] rfl rfl 66 _ KO.out (by kernel_rfl) rfl (by simp [Value.oneCell', oV, wV]) ?_))
  have F9 := KO.out.row #[.bool s, .int .u64 ((DN 0 : Nat) : Int), .int .u64 ((DN 1 : Nat) : Int), .int .u64 ((DN 2 : Nat) : Int), .int .u64 ((DN 3 : Nat) : Int)]
  have B9 := Bw.setRow HW.out (show w.heap.size ≤ g + 1 + 1 by have := HG.out; omega) #[.bool s, .int .u64 ((DN 0 : Nat) : Int), .int .u64 ((DN 1 : Nat) : Int), .int .u64 ((DN 2 : Nat) : Int), .int .u64 ((DN 3 : Nat) : Int)]
  refine bodyPost_ret (v := .agg #[.bool s, .int .u64 ((DN 0 : Nat) : Int), .int .u64 ((DN 1 : Nat) : Int), .int .u64 ((DN 2 : Nat) : Int), .int .u64 ((DN 3 : Nat) : Int)]) ?_ rfl ⟨rfl, B9⟩
  exact results_cell_row (p := 4) rfl _ _ (g + 1 + 1) _ _ (0, 0) _ rfl F9 Tryd.underlying66 rfl (by kernel_rfl)
end Go.Proofs.Sky

namespace Go.Proofs.Sky
open Go Go.RowKit Go.Shelf
set_option maxHeartbeats 2000000
set_option maxRecDepth 8000
/-! chapter 28: times -/
theorem idx4 (x : Nat → Nat) (i : Nat) (hi : i < 4) (W : World) : (Instr.index 64 (.agg (oV x)) (.int .i64 (i : Int))).run Tryd.prog W = .ok (.int .u64 ((x i : Nat) : Int)) W := by
  unfold oV
  have h9 : ((#[x 0, x 1, x 2, x 3] : Array Nat)[i]?).getD 0 = x i := by
    rcases (by omega : i = 0 ∨ i = 1 ∨ i = 2 ∨ i = 3) with rfl | rfl | rfl | rfl <;> rfl
  rw [← h9]
  clear h9
  generalize x 0 = a, x 1 = b, x 2 = c, x 3 = d
  rcases (by omega : i = 0 ∨ i = 1 ∨ i = 2 ∨ i = 3) with rfl | rfl | rfl | rfl
  · exact (show (Instr.index 64 (.agg #[.int .u64 (a : Int), .int .u64 (b : Int), .int .u64 (c : Int), .int .u64 (d : Int)]) (.int .i64 0)).run Tryd.prog W = .ok (.int .u64 (a : Int)) W by kernel_rfl)
  · exact (show (Instr.index 64 (.agg #[.int .u64 (a : Int), .int .u64 (b : Int), .int .u64 (c : Int), .int .u64 (d : Int)]) (.int .i64 1)).run Tryd.prog W = .ok (.int .u64 (b : Int)) W by kernel_rfl)
  · exact (show (Instr.index 64 (.agg #[.int .u64 (a : Int), .int .u64 (b : Int), .int .u64 (c : Int), .int .u64 (d : Int)]) (.int .i64 2)).run Tryd.prog W = .ok (.int .u64 (c : Int)) W by kernel_rfl)
  · exact (show (Instr.index 64 (.agg #[.int .u64 (a : Int), .int .u64 (b : Int), .int .u64 (c : Int), .int .u64 (d : Int)]) (.int .i64 3)).run Tryd.prog W = .ok (.int .u64 (d : Int)) W by kernel_rfl)
theorem mul_step (A m i : Nat) : ∃ hi lo c : Nat, hi = d64 A i * m / 18446744073709551616 ∧ lo = d64 A i * m % 18446744073709551616 ∧ (lo + cM A m i + 0) % 18446744073709551616 = d64 (A * m) i ∧ (lo + cM A m i + 0) / 18446744073709551616 = c ∧ hi + c = cM A m (i + 1) := by
  refine ⟨_, _, _, rfl, rfl, ?_, rfl, ?_⟩
  · rw [d64_mul]; omega
  · rw [cM_succ]; omega
theorem times28_any (s : Bool) (A : Nat) (n : Int) (w : World) (h : -9000000000000000000 ≤ n ∧ n ≤ 9000000000000000000) : Calls Tryd.prog 38 #[.agg (nV s A), .int .i64 n] w fun e w' => e = .returned (.agg (nV (s != decide (n < 0)) (A * n.natAbs))) ∧ Bw w w' := by
  have OFN := Lib.hid (fun W => of28_any n W h)
  have hm : n.natAbs < 18446744073709551616 := by omega
  rw [nV_small _ _ hm] at OFN
  obtain ⟨sn, hsn⟩ : ∃ sn, sn = decide (n < 0) := ⟨_, rfl⟩
  obtain ⟨m, hm2⟩ : ∃ m, m = n.natAbs := ⟨_, rfl⟩
  rw [← hsn] at OFN ⊢
  rw [← hm2] at OFN hm ⊢
  clear hsn hm2 h
  obtain ⟨DN, hDN⟩ : ∃ DN, DN = d64 (A * m) := ⟨_, rfl⟩
  have HDN := Lib.hid hDN
  have HM := Lib.hid hm
  clear hm hDN
  unfold nV
  rw [← HDN.out]
  obtain ⟨g, hg⟩ : ∃ g, w.heap.size = g := ⟨_, rfl⟩
  have HW := Lib.hid (Bw.alloc (Bw.alloc (Bw.refl w) (.cells (wV s (d64 A)) 66)) (.cells #[.bool false, .int .u64 0, .int .u64 0, .int .u64 0, .int .u64 0] 66))
  have KA := Lib.hid ((Blk.new w 66 (wV s (d64 A))).alloc (.cells #[.bool false, .int .u64 0, .int .u64 0, .int .u64 0, .int .u64 0] 66))
  have KR := Lib.hid (Blk.new (w.alloc (.cells (wV s (d64 A)) 66)) 66 #[.bool false, .int .u64 0, .int .u64 0, .int .u64 0, .int .u64 0])
  simp only [World.size_alloc] at KR
  have hx0 : (wV s (d64 A))[0]? = some (.bool s) := rfl
  have hoA : (wV s (d64 A)).all (·.oneCell') = true := by simp [wV, Value.oneCell']
  have HHA : Hid (∀ W b T, Blk W b T (wV s (d64 A)) → W.rangeAt b 1 (oV (d64 A)).toList) := Lib.hid (fun W b T h => wV_range h)
  obtain ⟨DA, hDA⟩ : ∃ DA, DA = wV s (d64 A) := ⟨_, rfl⟩
  rw [← hDA] at HW KA KR hx0 hoA HHA ⊢
  clear hDA
  have HG := Lib.hid hg
  rw [hg] at KA KR
  go_enter Tryd.func38, Tryd.ntmps38
  go_upto_region 1 with fail
  obtain ⟨W0, hW0⟩ : ∃ W0, (w.alloc (.cells DA 66)).alloc (.cells #[.bool false, .int .u64 0, .int .u64 0, .int .u64 0, .int .u64 0] 66) = W0 := ⟨_, rfl⟩
  rw [hW0] at KA KR HW ⊢
  clear hW0 hg hoA
  go_upto_region 3 with (first | (go_at_call 54; (with_reducible refine Calls.mono (OFN.out _) ?_); rintro e1 w1 ⟨rfl, hb1⟩; replace HW := Lib.hid (HW.out.trans hb1); replace KA := Lib.hid (KA.out.bw hb1); replace KR := Lib.hid (KR.out.bw hb1); clear hb1) | ((with_reducible refine at_store 66 (.tmp 5) (.tmp 14) ?_); refine wpList_store_row rfl 66 (.tmp 5) (.tmp 14) rfl w1.heap.size #[.bool sn, .int .u64 (m : Int), .int .u64 0, .int .u64 0, .int .u64 0] rfl rfl 66 _ (Blk.new w1 66 #[.bool false, .int .u64 0, .int .u64 0, .int .u64 0, .int .u64 0]) (by kernel_rfl) rfl (by simp [Value.oneCell', oV, wV, nV]) ?_))
  obtain ⟨g5, hg5⟩ : ∃ g5, w1.heap.size = g5 := ⟨_, rfl⟩
  have hb1 := Bw.alloc (Bw.setRow (Bw.alloc (Bw.refl w1) (.cells #[.bool false, .int .u64 0, .int .u64 0, .int .u64 0, .int .u64 0] 66)) (Nat.le_of_eq hg5) #[.bool sn, .int .u64 (m : Int), .int .u64 0, .int .u64 0, .int .u64 0]) (.cells #[.bool false, .int .u64 0, .int .u64 0, .int .u64 0, .int .u64 0] 66)
  have KN := Lib.hid (((Blk.new w1 66 #[.bool false, .int .u64 0, .int .u64 0, .int .u64 0, .int .u64 0]).row #[.bool sn, .int .u64 (m : Int), .int .u64 0, .int .u64 0, .int .u64 0]).alloc (.cells #[.bool false, .int .u64 0, .int .u64 0, .int .u64 0, .int .u64 0] 66))
  have KO := Lib.hid (show Blk (((w1.alloc (.cells #[.bool false, .int .u64 0, .int .u64 0, .int .u64 0, .int .u64 0] 66)).setRow w1.heap.size #[.bool sn, .int .u64 (m : Int), .int .u64 0, .int .u64 0, .int .u64 0]).alloc (.cells #[.bool false, .int .u64 0, .int .u64 0, .int .u64 0, .int .u64 0] 66)) (w1.heap.size + 1) 66 (wV false (fun _ => 0)) from by have h9 := Blk.new ((w1.alloc (.cells #[.bool false, .int .u64 0, .int .u64 0, .int .u64 0, .int .u64 0] 66)).setRow w1.heap.size #[.bool sn, .int .u64 (m : Int), .int .u64 0, .int .u64 0, .int .u64 0]) 66 #[.bool false, .int .u64 0, .int .u64 0, .int .u64 0, .int .u64 0]; simp only [setRow_size, World.size_alloc] at h9; exact h9)
  have HG5 := Lib.hid (show g + 1 < g5 by have := KR.out.lt; omega)
  rw [hg5] at KN KO ⊢
  replace HW := Lib.hid (HW.out.trans hb1)
  replace KA := Lib.hid (KA.out.bw hb1)
  replace KR := Lib.hid (KR.out.bw hb1)
  clear hb1
  generalize World.alloc (World.setRow (World.alloc w1 _) _ _) _ = w2 at *
  clear hg5
  go_upto_region 4 with fail
  go_upto_region 5 with ((with_reducible refine at_load 64 (.tmp 15) ?_); refine wpList_load_parts rfl (.tmp 15) rfl g rfl (HHA.out _ _ _ KA.out) ?_)
  obtain ⟨DP, hDP⟩ : ∃ DP, DP = oV (d64 A) := ⟨_, rfl⟩
  rw [← hDP]
  have HDP := Lib.hid hDP
  clear hDP
  go_wp2
  go_loopg [7, 17] 4 (fun gg s7 s17 wr => ∃ i : Nat, i ≤ 4 ∧ 4 - i ≤ gg ∧ s17 = .int .i64 i ∧ s7 = .int .u64 ((cM A m i : Nat) : Int) ∧ Hid (Bw w wr) ∧ Hid (Blk wr g 66 DA) ∧ Hid (Blk wr (g + 1) 66 #[.bool false, .int .u64 0, .int .u64 0, .int .u64 0, .int .u64 0]) ∧ Hid (Blk wr g5 66 #[.bool sn, .int .u64 (m : Int), .int .u64 0, .int .u64 0, .int .u64 0]) ∧ ∃ x, Hid (Blk wr (g5 + 1) 66 (wV false x)) ∧ Hid (∀ j, j < i → x j = DN j))
  case atStart => exact ⟨0, by omega, by omega, rfl, by rw [cM_zero]; rfl, HW, KA, KR, KN, fun _ => 0, KO, Lib.hid (fun j hj => absurd hj (by omega))⟩
  case round =>
    clear KA KR KN KO HW
    obtain ⟨i, hi, hgg, rfl, rfl, HW, KA, KR, KN, x, KO, HX⟩ := hrel
    obtain ⟨wb, rfl⟩ : ∃ wb, wb = wr := ⟨_, rfl⟩
    by_cases c3 : i < 4
    case neg =>
      have c3z : ¬ (i : Int) < 4 := by omega
      obtain rfl : i = 4 := by omega
      rw [wV_congr (fun j hj => HX.out j hj)] at KO
      have x0 := KA.out.cell hx0
      have y0 := KN.out.cell (j := 0) (v := .bool sn) rfl
      have z0 := KO.out.cell (j := 0) (v := .bool false) rfl
      have f0 := KO.out.frozen 0
      generalize cM A m 4 = cy at *
      go_upto_region 13 with fail
      have KO2 := Lib.hid (KO.out.set 0 (.bool (!s == sn)))
      rw [wV_sgn] at KO2
      have hkx := Kx.set (j := 0) KO.out.lt (.bool (!s == sn))
      replace KR := Lib.hid (hkx.blk KR.out (by have := HG5.out; omega))
      replace HW := Lib.hid (hkx.bw HW.out (by have := HG.out; have := HG5.out; omega))
      clear hkx x0 y0 z0 f0 KO
      generalize World.setCell wb _ _ = w3 at *
      go_wp2_with (first | ((with_reducible refine at_load 66 (.tmp 6) ?_); refine wpList_load_row rfl 66 _ rfl (g5 + 1) rfl 66 (wV (!s == sn) DN) (0, 0) _ KO2.out Tryd.underlying66 rfl (by kernel_rfl) ?_) | ((with_reducible refine at_store 66 (.tmp 4) (.tmp 48) ?_); refine wpList_store_row rfl 66 (.tmp 4) (.tmp 48) rfl (g + 1) (wV (!s == sn) DN) rfl rfl 66 _ KR.out (by kernel_rfl) rfl (by simp [Value.oneCell', oV, wV, nV]) ?_))
      have F9 := KR.out.row (wV (!s == sn) DN)
      have B9 := Bw.setRow HW.out (show w.heap.size ≤ g + 1 by have := HG.out; omega) (wV (!s == sn) DN)
      refine bodyPost_ret (v := .agg (wV (!s == sn) DN)) ?_ rfl ⟨by rw [show (s != sn) = (!s == sn) by cases s <;> cases sn <;> rfl], B9⟩
      exact results_cell_row (p := 4) rfl _ _ (g + 1) _ _ (0, 0) _ rfl F9 Tryd.underlying66 rfl (by kernel_rfl)
    case pos =>
      have c3z : (i : Int) < 4 := by omega
      have hi0 : (0 : Int) ≤ i := by omega
      obtain ⟨hv, lo, c, h1, h2, h3, h4, h5⟩ := mul_step A m i
      have ML := Lib.hid (fun W => Mul64_any (d64 A i) m (d64_lt A i) HM.out W)
      rw [← h1, ← h2] at ML
      have AD : ∀ W, (callFunc 60 #[.int .u64 (lo : Int), .int .u64 ((cM A m i : Nat) : Int), .int .u64 0]).run Tryd.prog W = .ok (.value (.tuple #[.int .u64 ((d64 (A * m) i : Nat) : Int), .int .u64 (c : Int)])) W := fun W => run_Add64_w lo (cM A m i) 0 _ _ (by omega) h3 h4 W
      have hcm := cM_le A m (i + 1)
      have HM2 := Lib.hid (show ((cM A m (i + 1) : Nat) : Int) = (hv : Int) + c ∧ (hv : Int) + c < 18446744073709551616 by have := HM.out; omega)
      rw [← HDN.out] at AD
      have hix := fun W => idx4 (d64 A) i c3 W
      rw [← HDP.out] at hix
      clear h1 h2 h3 h4 h5 hcm
      generalize cM A m i = ci at *
      have m0 := KN.out.cell (j := 1) (v := .int .u64 (m : Int)) rfl
      have k0 := KO.out.cell (wV_at false x i c3)
      have f0 := KO.out.frozen (1 + i)
      go_upto_region 7 with fail
      clear hix
      generalize d64 A i = ai at *
      go_upto_region 9 with (go_at_call 59; (with_reducible refine Calls.mono (ML.out _) ?_); rintro e1 w3 ⟨rfl, hw3⟩; subst hw3)
      go_upto_region 10 with (simp only [AD])
      have hkx := Kx.set (j := 1 + i) KO.out.lt (.int .u64 ((DN i : Nat) : Int))
      replace KO := Lib.hid (KO.out.set (1 + i) (.int .u64 ((DN i : Nat) : Int)))
      rw [wV_set false x i c3] at KO
      replace HW := Lib.hid (hkx.bw HW.out (by have := HG.out; have := HG5.out; omega))
      replace KA := Lib.hid (hkx.blk KA.out (by have := HG5.out; omega))
      replace KR := Lib.hid (hkx.blk KR.out (by have := HG5.out; omega))
      replace KN := Lib.hid (hkx.blk KN.out (by omega))
      clear hkx m0 k0 f0 AD
      generalize World.setCell w3 _ _ = w4 at *
      have hcz := HM2.out.2
      go_wp2
      go_roundg (4 - (i + 1))
      case measure => omega
      case rel => exact ⟨i + 1, by omega, by omega, by go_num, by rw [HM2.out.1], HW, KA, KR, KN, _, KO, Lib.hid (fun j hj => by (try dsimp only); by_cases e : j = i; (rw [if_pos e, e]); (rw [if_neg e]; exact HX.out j (by omega)))⟩
end Go.Proofs.Sky

namespace Go.Proofs.Sky
open Go
/-! chapter 28, plain: the bits of a long division -/
theorem or_bit_u64 (a t j : Nat) (ha : a < 18446744073709551616) (ha2 : a % 2 = 0) (ht : t < 18446744073709551616) :
    bits .or .u64 (a : Int) (bits .and .u64 ((t : Int) / 2 ^ j) 1) = ((a + t / 2 ^ j % 2 : Nat) : Int) := by
  have e1 : ((t : Int) / 2 ^ j) = ((t / 2 ^ j : Nat) : Int) := by push_cast; rfl
  have h1 : t / 2 ^ j < 18446744073709551616 := Nat.lt_of_le_of_lt (Nat.div_le_self _ _) ht
  rw [e1, show (1 : Int) = ((1 : Nat) : Int) from rfl, bits_and_u64_nat _ _ h1 (by decide), Nat.and_one_is_mod]
  have hb : t / 2 ^ j % 2 < 2 := Nat.mod_lt _ (by decide)
  generalize t / 2 ^ j % 2 = b at *
  rw [bits_or_u64_nat _ _ ha (by omega), or_bit a b ha2 (by omega)]
theorem bit_at (T i : Nat) : d64 T (i / 64) / 2 ^ (i % 64) % 2 = T / 2 ^ i % 2 := by
  unfold d64
  have hj : i % 64 < 64 := Nat.mod_lt _ (by decide)
  have e1 : (18446744073709551616 : Nat) = 2 ^ (i % 64) * 2 ^ (64 - i % 64) := by rw [← Nat.pow_add, Nat.add_sub_cancel' (by omega)]
  have e2 : (2 : Nat) ^ i = 18446744073709551616 ^ (i / 64) * 2 ^ (i % 64) := by
    rw [show (18446744073709551616 : Nat) = 2 ^ 64 from by decide, ← Nat.pow_mul, ← Nat.pow_add]
    congr 1; omega
  rw [e2, ← Nat.div_div_eq_div_mul]
  generalize T / 18446744073709551616 ^ (i / 64) = X
  have e3 : X % 18446744073709551616 / 2 ^ (i % 64) = X / 2 ^ (i % 64) % 2 ^ (64 - i % 64) := by
    rw [e1, Nat.mod_mul_right_div_self]
  rw [e3, Nat.mod_mod_of_dvd]
  exact ⟨2 ^ (64 - i % 64 - 1), by rw [← Nat.pow_succ']; congr 1; omega⟩
theorem d64_bit (R b j : Nat) (hb : b < 2) (hj : 1 ≤ j) : d64 (R + R + b) j = d64 (R + R) j := by
  unfold d64
  obtain ⟨n, rfl⟩ : ∃ n, j = n + 1 := ⟨j - 1, by omega⟩
  have e : (18446744073709551616 : Nat) ^ (n + 1) = 2 * (9223372036854775808 * 18446744073709551616 ^ n) := by rw [Nat.pow_succ]; omega
  generalize 9223372036854775808 * 18446744073709551616 ^ n = p at *
  rw [e, ← Nat.div_div_eq_div_mul, ← Nat.div_div_eq_div_mul, show (R + R + b) / 2 = R by omega, show (R + R) / 2 = R by omega]
theorem d64_bit0 (R b : Nat) (hb : b < 2) : d64 (R + R + b) 0 = d64 (R + R) 0 + b := by
  unfold d64
  rw [Nat.pow_zero, Nat.div_one, Nat.div_one]
  omega
theorem even0 (R : Nat) : d64 (R + R) 0 % 2 = 0 := by
  unfold d64
  rw [Nat.pow_zero, Nat.div_one]
  omega
theorem half_div (T i : Nat) : T / 2 ^ i = 2 * (T / 2 ^ (i + 1)) + T / 2 ^ i % 2 := by
  rw [Nat.pow_succ, ← Nat.div_div_eq_div_mul]
  omega
/-- one step of the division -/
theorem div_step {d X b R Q : Nat} (hd : 0 < d) (hb : b < 2) (hR : R = X % d) (hQ : Q = X / d % 18446744073709551616) :
    (R + R + b < d → (2 * X + b) % d = R + R + b ∧ (2 * X + b) / d % 18446744073709551616 = Q * 2 % 18446744073709551616) ∧
      (¬ R + R + b < d → (2 * X + b) % d = R + R + b - d ∧ (2 * X + b) / d % 18446744073709551616 = Q * 2 % 18446744073709551616 + 1) := by
  have hX := Nat.div_add_mod X d
  have hl := Nat.mod_lt X hd
  rw [← hR] at hX hl
  obtain ⟨F, hF⟩ : ∃ F, F = X / d := ⟨_, rfl⟩
  rw [← hF] at hX hQ
  have e : 2 * X + b = (R + R + b) + d * (2 * F) := by
    rw [Nat.mul_left_comm, ← hX]; omega
  refine ⟨fun h => ?_, fun h => ?_⟩
  · rw [e, Nat.add_mul_mod_self_left, Nat.mod_eq_of_lt h, Nat.add_mul_div_left _ _ hd, Nat.div_eq_of_lt h]
    exact ⟨rfl, by omega⟩
  · have e2 : 2 * X + b = (R + R + b - d) + d * (2 * F + 1) := by rw [e, Nat.mul_add]; omega
    have h2 : R + R + b - d < d := by omega
    rw [e2, Nat.add_mul_mod_self_left, Nat.mod_eq_of_lt h2, Nat.add_mul_div_left _ _ hd, Nat.div_eq_of_lt h2]
    exact ⟨rfl, by omega⟩
end Go.Proofs.Sky
