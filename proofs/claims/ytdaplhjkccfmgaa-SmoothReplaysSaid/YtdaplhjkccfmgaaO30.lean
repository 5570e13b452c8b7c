/-
  lemmas for the theorems of this claim. No conditions beyond those written in the statements.
-/
import Derived.Test.YtdaplhjkccfmgaaN30
import Derived.Test.YtdaplhjkccfmgaaM30b
import Derived.Test.YtdaplhjkccfmgaaM30c
import Derived.Test.YtdaplhjkccfmgaaM30d
import Derived.Test.YtdaplhjkccfmgaaM30e
import Derived.Test.YtdaplhjkccfmgaaM30f
set_option linter.unusedVariables false
set_option linter.unusedSimpArgs false
set_option linter.unnecessarySimpa false
namespace Go.Proofs.Sky
open Go Go.RowKit Go.Shelf
set_option maxHeartbeats 2000000
theorem slipD_zero {L : Int} {ds : List Int} {d : Int} (h : ¬ 0 < (ds.length : Int)) : slipD L ds d = false ∧ ds = [] := by
  obtain rfl : ds = [] := List.length_eq_zero_iff.1 (by omega)
  exact ⟨by simp [slipD, sumI], rfl⟩
theorem RStep_ok (W L : Int) (ds : List Int) (v : Value) (p f : Int) (w : World) (hv : RdI w v ds) (h0 : errC W L ds = 0) (hm : okM (p, f) = true) :
    Calls Try.prog 15 #[.agg #[.int .i64 W, .int .i64 L, v], .int .i64 p, .int .i64 f] w fun e w' => StepP w.heap.size W L (nextD W L ds (p - f)) (f * (nextD W L ds (p - f)).length + sumI (nextD W L ds (p - f))) (nextD W L ds (p - f)).length (slipD L ds (p - f)) 0 e w' ∧ Bw w w' := by
  obtain ⟨⟨hW0, hW1, hL0, hL1⟩, hlen, hds⟩ := errC_zero h0
  by_cases hn : 0 < (ds.length : Int)
  · by_cases hA : L * ds.length < (p - f) * ds.length - sumI ds
    · have hs : slipD L ds (p - f) = true := by unfold slipD; exact decide_eq_true (.inl hA)
      have e : nextD W L ds (p - f) = [p - f] := by unfold nextD; rw [if_pos hs]
      rw [e, hs]
      exact RStep_slipA W L ds v p f w hv h0 hm hn hA
    · by_cases hB : L * ds.length < -((p - f) * ds.length - sumI ds)
      · have hs : slipD L ds (p - f) = true := by unfold slipD; exact decide_eq_true (.inr hB)
        have e : nextD W L ds (p - f) = [p - f] := by unfold nextD; rw [if_pos hs]
        rw [e, hs]
        exact RStep_slipB W L ds v p f w hv h0 hm hn hA hB
      · have hs : slipD L ds (p - f) = false := by unfold slipD; exact decide_eq_false (by rintro (h | h) <;> contradiction)
        have e : nextD W L ds (p - f) = pushD W ds (p - f) := by unfold nextD; rw [hs]; rfl
        rw [e, hs]
        by_cases hf : W < (ds.length : Int) + 1
        · have e2 : pushD W ds (p - f) = (ds ++ [p - f]).tail := by
            unfold pushD; rw [if_pos (by omega)]
            cases ds with
            | nil => simp at hn
            | cons x l => rfl
          have e3 : ((ds ++ [p - f]).tail.length : Int) = ds.length := by simp
          rw [e2, e3]
          exact RStep_full W L ds v p f w hv h0 hm hn hA hB hf
        · have e2 : pushD W ds (p - f) = ds ++ [p - f] := by unfold pushD; rw [if_neg (by omega)]
          have e3 : ((ds ++ [p - f]).length : Int) = ds.length + 1 := by simp
          rw [e2, e3]
          exact RStep_room W L ds v p f w hv h0 hm hn hA hB hf
  · obtain ⟨hs, hnil⟩ := slipD_zero (L := L) (d := p - f) hn
    have e : nextD W L ds (p - f) = ds ++ [p - f] := by unfold nextD pushD; rw [hs, hnil]; simp
    have e3 : ((ds ++ [p - f]).length : Int) = ds.length + 1 := by simp
    rw [e, hs, e3]
    exact RStep_zero W L ds v p f w hv h0 hm hn
theorem RStep_bad (W L : Int) (ds : List Int) (v : Value) (p f : Int) (w : World) (hv : RdI w v ds) (h0 : errC W L ds ≠ 0) :
    Calls Try.prog 15 #[.agg #[.int .i64 W, .int .i64 L, v], .int .i64 p, .int .i64 f] w fun e w' => StepP w.heap.size 0 0 [] 0 0 false (errC W L ds) e w' ∧ Bw w w' := by
  have HV := Lib.hid hv
  obtain ⟨ad, cap, rfl⟩ := hv.form
  have HK := blks3 w (.int .i64 W) (.int .i64 L) (.slice ad ds.length cap)
  have B3 := Lib.hid HK.1
  have B4 := Lib.hid HK.2
  have HBW := Lib.hid (Bw.alloc (Bw.alloc (Bw.alloc (Bw.refl w) (.cells #[.int .i64 W, .int .i64 L, .slice ad ds.length cap] 34)) (.cells #[.int .i64 0, .int .i64 0, .slice none 0 0] 34)) (.cells #[.int .i64 0, .int .i64 0] 36))
  clear hv HK
  have HC := Lib.hid (fun W' hW => RCheck_any W L ds (.slice ad ds.length cap) W' hW)
  generalize errC W L ds = er at HC h0 ⊢
  have h9 : (er != 0) = true := by simpa using h0
  go_enter Try.func15, Try.ntmps15
  go_wp2_with (first | (go_at_call 20; refine (HC.out _ (HV.out.mono HBW.out)).mono ?_; rintro e w1 ⟨rfl, hb1⟩; replace B3 := Lib.hid (B3.out.bw hb1); replace B4 := Lib.hid (B4.out.bw hb1); replace HBW := Lib.hid (HBW.out.trans hb1); clear hb1) | ((with_reducible refine at_store 34 _ _ ?_); refine wpList_store_row rfl 34 _ _ rfl (w.heap.size + 1) #[.int .i64 0, .int .i64 0, .slice none 0 0] rfl rfl 34 #[.int .i64 0, .int .i64 0, .slice none 0 0] B3.out (by kernel_rfl) rfl (by simp [Value.oneCell']) ?_; replace B4 := Lib.hid (B4.out.row_other (g' := w.heap.size + 1) (by omega) #[.int .i64 0, .int .i64 0, .slice none 0 0]); replace B3 := Lib.hid (B3.out.row #[.int .i64 0, .int .i64 0, .slice none 0 0])) | ((with_reducible refine at_store 36 _ _ ?_); refine wpList_store_row rfl 36 _ _ rfl (w.heap.size + 1 + 1) #[.int .i64 0, .int .i64 0] rfl rfl 36 #[.int .i64 0, .int .i64 0] B4.out (by kernel_rfl) rfl (by simp [Value.oneCell']) ?_; replace B3 := Lib.hid (B3.out.row_other (g' := w.heap.size + 1 + 1) (by omega) #[.int .i64 0, .int .i64 0]); replace B4 := Lib.hid (B4.out.row #[.int .i64 0, .int .i64 0])))
  have d0 := B3.out.cell (j := 0) rfl
  have d1 := B3.out.cell (j := 1) rfl
  have d2 := B3.out.cell (j := 2) rfl
  have d3 := B4.out.cell (j := 0) rfl
  have d4 := B4.out.cell (j := 1) rfl
  refine bodyPost_ret (v := .tuple #[.agg #[.int .i64 0, .int .i64 0, .slice none 0 0], .agg #[.int .i64 0, .int .i64 0], .bool false, .int .i64 er]) ?_ rfl ⟨stepP_bad _ _ _, Bw.setRow (Bw.setRow HBW.out (by omega) _) (by omega) _⟩
  simp [results, Try.results15, go_sem, d0, d1, d2, d3, d4]
theorem RStep_out (W L : Int) (ds : List Int) (v : Value) (p f : Int) (w : World) (hv : RdI w v ds) (h0 : errC W L ds = 0) (hm : okM (p, f) = false) :
    Calls Try.prog 15 #[.agg #[.int .i64 W, .int .i64 L, v], .int .i64 p, .int .i64 f] w fun e w' => StepP w.heap.size 0 0 [] 0 0 false 2 e w' ∧ Bw w w' := by
  have HV := Lib.hid hv
  obtain ⟨ad, cap, rfl⟩ := hv.form
  have HK := blks3 w (.int .i64 W) (.int .i64 L) (.slice ad ds.length cap)
  have B3 := Lib.hid HK.1
  have B4 := Lib.hid HK.2
  have HBW := Lib.hid (Bw.alloc (Bw.alloc (Bw.alloc (Bw.refl w) (.cells #[.int .i64 W, .int .i64 L, .slice ad ds.length cap] 34)) (.cells #[.int .i64 0, .int .i64 0, .slice none 0 0] 34)) (.cells #[.int .i64 0, .int .i64 0] 36))
  clear hv HK
  have HC := Lib.hid (fun W' hW => RCheck_any W L ds (.slice ad ds.length cap) W' hW)
  rw [h0] at HC
  simp only [okM] at hm
  have HW2 := Lib.hid (fun x W => within_any x 10000000000000 (by omega) (by omega) W)
  cases hp : inN p 10000000000000 with
  | false =>
    have HP := Lib.hid (fun W => HW2.out p W)
    rw [hp] at HP
    clear hm hp
    go_enter Try.func15, Try.ntmps15
    go_wp2_with (first | (go_at_call 20; refine (HC.out _ (HV.out.mono HBW.out)).mono ?_; rintro e w1 ⟨rfl, hb1⟩; replace B3 := Lib.hid (B3.out.bw hb1); replace B4 := Lib.hid (B4.out.bw hb1); replace HBW := Lib.hid (HBW.out.trans hb1); clear hb1) | (go_at_call 30; refine (HP.out _).mono ?_; rintro e w2 ⟨rfl, hb2⟩; replace B3 := Lib.hid (B3.out.bw hb2); replace B4 := Lib.hid (B4.out.bw hb2); replace HBW := Lib.hid (HBW.out.trans hb2); clear hb2) | ((with_reducible refine at_store 34 _ _ ?_); refine wpList_store_row rfl 34 _ _ rfl (w.heap.size + 1) #[.int .i64 0, .int .i64 0, .slice none 0 0] rfl rfl 34 #[.int .i64 0, .int .i64 0, .slice none 0 0] B3.out (by kernel_rfl) rfl (by simp [Value.oneCell']) ?_; replace B4 := Lib.hid (B4.out.row_other (g' := w.heap.size + 1) (by omega) #[.int .i64 0, .int .i64 0, .slice none 0 0]); replace B3 := Lib.hid (B3.out.row #[.int .i64 0, .int .i64 0, .slice none 0 0])) | ((with_reducible refine at_store 36 _ _ ?_); refine wpList_store_row rfl 36 _ _ rfl (w.heap.size + 1 + 1) #[.int .i64 0, .int .i64 0] rfl rfl 36 #[.int .i64 0, .int .i64 0] B4.out (by kernel_rfl) rfl (by simp [Value.oneCell']) ?_; replace B3 := Lib.hid (B3.out.row_other (g' := w.heap.size + 1 + 1) (by omega) #[.int .i64 0, .int .i64 0]); replace B4 := Lib.hid (B4.out.row #[.int .i64 0, .int .i64 0])))
    have d0 := B3.out.cell (j := 0) rfl
    have d1 := B3.out.cell (j := 1) rfl
    have d2 := B3.out.cell (j := 2) rfl
    have d3 := B4.out.cell (j := 0) rfl
    have d4 := B4.out.cell (j := 1) rfl
    refine bodyPost_ret (v := .tuple #[.agg #[.int .i64 0, .int .i64 0, .slice none 0 0], .agg #[.int .i64 0, .int .i64 0], .bool false, .int .i64 2]) ?_ rfl ⟨stepP_bad _ _ _, Bw.setRow (Bw.setRow HBW.out (by omega) _) (by omega) _⟩
    simp [results, Try.results15, go_sem, d0, d1, d2, d3, d4]
  | true =>
    have hf : inN f 10000000000000 = false := by rw [hp] at hm; simpa using hm
    have HWw : Hid (∀ x b, ((x = p ∧ b = true) ∨ (x = f ∧ b = false)) → ∀ W, Calls Try.prog 30 #[.int .i64 x, .int .i64 10000000000000] W fun e w' => e = .returned (.bool b) ∧ Bw W w') := Lib.hid (fun x b hx W => by
      have h := HW2.out x W
      rcases hx with ⟨rfl, rfl⟩ | ⟨rfl, rfl⟩
      · rw [hp] at h; exact h
      · rw [hf] at h; exact h)
    clear hm hp hf HW2
    go_enter Try.func15, Try.ntmps15
    go_wp2_with (first | (go_at_call 20; refine (HC.out _ (HV.out.mono HBW.out)).mono ?_; rintro e w1 ⟨rfl, hb1⟩; replace B3 := Lib.hid (B3.out.bw hb1); replace B4 := Lib.hid (B4.out.bw hb1); replace HBW := Lib.hid (HBW.out.trans hb1); clear hb1) | (go_at_call 30; refine (HWw.out _ _ (by first | exact .inl ⟨rfl, rfl⟩ | exact .inr ⟨rfl, rfl⟩) _).mono ?_; rintro e w2 ⟨rfl, hb2⟩; replace B3 := Lib.hid (B3.out.bw hb2); replace B4 := Lib.hid (B4.out.bw hb2); replace HBW := Lib.hid (HBW.out.trans hb2); clear hb2) | ((with_reducible refine at_store 34 _ _ ?_); refine wpList_store_row rfl 34 _ _ rfl (w.heap.size + 1) #[.int .i64 0, .int .i64 0, .slice none 0 0] rfl rfl 34 #[.int .i64 0, .int .i64 0, .slice none 0 0] B3.out (by kernel_rfl) rfl (by simp [Value.oneCell']) ?_; replace B4 := Lib.hid (B4.out.row_other (g' := w.heap.size + 1) (by omega) #[.int .i64 0, .int .i64 0, .slice none 0 0]); replace B3 := Lib.hid (B3.out.row #[.int .i64 0, .int .i64 0, .slice none 0 0])) | ((with_reducible refine at_store 36 _ _ ?_); refine wpList_store_row rfl 36 _ _ rfl (w.heap.size + 1 + 1) #[.int .i64 0, .int .i64 0] rfl rfl 36 #[.int .i64 0, .int .i64 0] B4.out (by kernel_rfl) rfl (by simp [Value.oneCell']) ?_; replace B3 := Lib.hid (B3.out.row_other (g' := w.heap.size + 1 + 1) (by omega) #[.int .i64 0, .int .i64 0]); replace B4 := Lib.hid (B4.out.row #[.int .i64 0, .int .i64 0])))
    have d0 := B3.out.cell (j := 0) rfl
    have d1 := B3.out.cell (j := 1) rfl
    have d2 := B3.out.cell (j := 2) rfl
    have d3 := B4.out.cell (j := 0) rfl
    have d4 := B4.out.cell (j := 1) rfl
    refine bodyPost_ret (v := .tuple #[.agg #[.int .i64 0, .int .i64 0, .slice none 0 0], .agg #[.int .i64 0, .int .i64 0], .bool false, .int .i64 2]) ?_ rfl ⟨stepP_bad _ _ _, Bw.setRow (Bw.setRow HBW.out (by omega) _) (by omega) _⟩
    simp [results, Try.results15, go_sem, d0, d1, d2, d3, d4]
theorem RStep_any (W L : Int) (ds : List Int) (v : Value) (p f : Int) (w : World) (hv : RdI w v ds) :
    Calls Try.prog 15 #[.agg #[.int .i64 W, .int .i64 L, v], .int .i64 p, .int .i64 f] w fun e w' => StepR w.heap.size W L ds p f e w' ∧ Bw w w' := by
  by_cases h0 : errC W L ds = 0
  · cases hm : okM (p, f) with
    | true => exact (RStep_ok W L ds v p f w hv h0 hm).mono fun e w' ⟨h, hb⟩ => ⟨stepR_of _ (by unfold stepR; rw [if_pos h0, hm, if_pos rfl]) h, hb⟩
    | false => exact (RStep_out W L ds v p f w hv h0 hm).mono fun e w' ⟨h, hb⟩ => ⟨stepR_of _ (by unfold stepR; rw [if_pos h0, hm]; first | done | rfl) h, hb⟩
  · exact (RStep_bad W L ds v p f w hv h0).mono fun e w' ⟨h, hb⟩ => ⟨stepR_of _ (by unfold stepR; rw [if_neg h0]) h, hb⟩
end Go.Proofs.Sky
