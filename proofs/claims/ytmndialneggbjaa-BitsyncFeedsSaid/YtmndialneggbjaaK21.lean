/-
  lemmas for the theorems of this claim. No conditions beyond those written in the statements.
-/
import Derived.Test.YtmndialneggbjaaJ21
import Derived.Deep.Cut
set_option linter.unusedVariables false
set_option linter.unusedSimpArgs false
set_option linter.unnecessarySimpa false
namespace Go.Proofs.Sky
open Go Go.RowKit Go.Shelf
set_option maxHeartbeats 4000000
set_option maxRecDepth 4000
theorem Values_any (l : List (Int × Int)) (v : Value) (p at_ : Int) (w : World) (hv : RdS w v l) (hc : Capd v) (hne : 0 < l.length) :
    Calls Try.prog 10 #[v, .int .i64 p, .int .i64 at_] w fun e w' => VaP w.heap.size (valR l p at_).1 (valR l p at_).2 e w' ∧ Bw w w' := by
  obtain ⟨b, off, cap, rfl, hb, hcell⟩ := hv.at hne
  obtain ⟨hc1, hc2⟩ := hc _ _ _ rfl
  by_cases h : p < 1 ∨ 20 < p ∨ at_ < 0 ∨ p ≤ at_
  · have e : valR l p at_ = ([], 2) := by unfold valR; rw [if_pos h]
    rw [e]; exact Values_range l _ _ _ p at_ w h
  by_cases hl : 10000 < l.length
  · have e : valR l p at_ = ([], 4) := by unfold valR; rw [if_neg h, if_pos hl]
    rw [e]; exact Values_long l _ _ _ p at_ w (by omega) (by omega) (by omega) (by omega) hl
  cases ho : l.all insP with
  | false =>
    have e : valR l p at_ = ([], 2) := by unfold valR; rw [if_neg h, if_neg hl, if_pos ho]
    rw [e]; exact Values_out l _ p at_ w hv (by omega) (by omega) (by omega) (by omega) (by omega) ho
  | true =>
    obtain ⟨P, rfl⟩ := Int.eq_ofNat_of_zero_le (show 0 ≤ p by omega)
    obtain ⟨A, rfl⟩ := Int.eq_ofNat_of_zero_le (show 0 ≤ at_ by omega)
    have e : valR l P A = (valsL l P A, if valsL l P A = [] then 16 else 0) := by
      unfold valR; rw [if_neg h, if_neg hl, if_neg (by rw [ho]; simp)]; simp only [Int.toNat_natCast]; split
      · rename_i h9; rw [h9]
      · rfl
    rw [e]; exact Values_main l b off cap P A w hv (by omega) (by omega) (by omega) (by omega) hc1 hc2 ho
theorem scalar2_any (a b c d : Int) (w : World) (h : (-33554432 ≤ a ∧ a ≤ 33554432) ∧ -33554432 ≤ b ∧ b ≤ 33554432) (h2 : (-33554432 ≤ c ∧ c ≤ 33554432) ∧ -33554432 ≤ d ∧ d ≤ 33554432) : Calls Try.prog 35 #[.agg #[.int .i64 a, .int .i64 b], .agg #[.int .i64 c, .int .i64 d]] w fun e w' => e = .returned (.int .i64 (scl (a, b) (c, d))) ∧ Bw w w' := by
  have HF := Lib.hid (show scl (a, b) (c, d) = a * c + b * d from rfl)
  obtain ⟨⟨a1, a2⟩, a3, a4⟩ := h
  obtain ⟨⟨b1, b2⟩, b3, b4⟩ := h2
  have ⟨m1, m2⟩ := mul_bd3 a c 33554432 33554432 (by omega) (by omega) (by omega) (by omega)
  have ⟨m3, m4⟩ := mul_bd3 b d 33554432 33554432 (by omega) (by omega) (by omega) (by omega)
  go_enter Try.func35, Try.ntmps35
  go_wp2
  go_ret
  exact ⟨ret_int HF.out.symm, (by repeat (first | exact Bw.refl _ | assumption | refine Bw.alloc ?_ _ | refine Bw.drew ?_ | refine Bw.trans ?_ (by assumption) | refine Bw.setCell ?_ (by simp; try omega) _))⟩
theorem sumP_bd (l : List (Int × Int)) (h : ∀ a ∈ l, insP a = true) : (-(1048576 * (l.length : Int)) ≤ (sumP l).1 ∧ (sumP l).1 ≤ 1048576 * (l.length : Int)) ∧ -(1048576 * (l.length : Int)) ≤ (sumP l).2 ∧ (sumP l).2 ≤ 1048576 * (l.length : Int) := by
  induction l with
  | nil => simp [sumP]
  | cons a r ih =>
    have ha := (insP_iff a).1 (h a (by simp))
    have hr := ih (fun b hb => h b (by simp [hb]))
    simp only [sumP, List.length_cons]
    omega
theorem valR_bd (l : List (Int × Int)) (p at_ : Int) : ∀ a ∈ (valR l p at_).1, (-33554432 ≤ a.1 ∧ a.1 ≤ 33554432) ∧ -33554432 ≤ a.2 ∧ a.2 ≤ 33554432 := by
  intro a ha
  unfold valR at ha
  split at ha
  · simp at ha
  · rename_i h1
    split at ha
    · simp at ha
    · split at ha
      · simp at ha
      · rename_i h3
        split at ha
        · simp at ha
        · simp only [valsL, List.mem_map] at ha
          obtain ⟨j, _, rfl⟩ := ha
          have hall : ∀ b ∈ l, insP b = true := List.all_eq_true.1 (by simpa using h3)
          have hb := sumP_bd ((l.drop (at_.toNat + j * p.toNat)).take p.toNat) (fun b hb => hall b (List.mem_of_mem_drop (List.mem_of_mem_take hb)))
          have hlen : ((l.drop (at_.toNat + j * p.toNat)).take p.toNat).length ≤ p.toNat := by rw [List.length_take]; omega
          unfold bitV
          omega
def outs (v : List (Int × Int)) (n k : Nat) : List Int := (List.range n).map fun j => if j ≤ k then bitAt v j else 0
theorem outs_len (v : List (Int × Int)) (n k : Nat) : (outs v n k).length = n := by simp [outs]
theorem outs_zero (v : List (Int × Int)) (n : Nat) : outs v n 0 = List.replicate n 0 := by
  apply List.ext_getElem (by simp [outs])
  intro i h1 h2
  simp only [outs, List.getElem_map, List.getElem_range, List.getElem_replicate]
  split
  · obtain rfl : i = 0 := by omega
    rfl
  · rfl
theorem outs_step (v : List (Int × Int)) (n k : Nat) : (outs v n k).set (k + 1) (bitAt v (k + 1)) = outs v n (k + 1) := by
  apply List.ext_getElem (by simp [outs])
  intro i h1 h2
  rw [List.getElem_set]
  simp only [outs, List.getElem_map, List.getElem_range]
  by_cases h : k + 1 = i
  · subst h; simp
  · rw [if_neg h]
    by_cases h3 : i ≤ k
    · rw [if_pos h3, if_pos (by omega)]
    · rw [if_neg h3, if_neg (by omega)]
theorem outs_end (v : List (Int × Int)) (n : Nat) (hn : n = v.length) : outs v n (n - 1) = bitsL v := by
  unfold outs bitsL
  rw [hn]
  apply List.map_congr_left
  intro i hi
  rw [if_pos (by have := List.mem_range.1 hi; omega)]
theorem outs_at (v : List (Int × Int)) (n k : Nat) (hk : k < n) : ((outs v n k).map (Value.int .i64))[k]? = some (.int .i64 (bitAt v k)) := by
  simp [outs, hk]
/-- a list of ints, by value, with an error -/
def ReP (base : Nat) (l : List Int) (er : Int) (e : Ending) (w' : World) : Prop := ∃ v', e = .returned (.tuple #[v', .int .i64 er]) ∧ RdI w' v' l ∧ Fresh base v'
theorem Read_any (l : List (Int × Int)) (v : Value) (p at_ : Int) (w : World) (hv : RdS w v l) (hc : Capd v) (hne : 0 < l.length) :
    Calls Try.prog 12 #[v, .int .i64 p, .int .i64 at_] w fun e w' => ReP w.heap.size (readR l p at_).1 (readR l p at_).2 e w' ∧ Bw w w' := by
  have HV := Lib.hid (fun W hW => Values_any l v p at_ W hW hc hne)
  have HR0 := Lib.hid hv
  obtain ⟨al, cl9, rfl⟩ := hv.form
  clear hv
  have HBD := Lib.hid (valR_bd l p at_)
  unfold readR VaP at *
  obtain ⟨VR, hVR⟩ : ∃ VR, VR = valR l p at_ := ⟨_, rfl⟩
  have HE0 := Lib.hid (show VR.2 ≠ 0 → VR.1 = [] by
    rw [hVR]; unfold valR
    split
    · intro _; rfl
    · split
      · intro _; rfl
      · split
        · intro _; rfl
        · split
          · intro _; rfl
          · intro h; exact absurd rfl h)
  have HE1 := Lib.hid (show VR.2 = 0 → VR.1 ≠ [] ∧ VR.1.length ≤ 10000 by
    rw [hVR]; unfold valR
    split
    · intro h; simp at h
    · split
      · intro h; simp at h
      · rename_i hlen
        split
        · intro h; simp at h
        · split
          · intro h; simp at h
          · rename_i hv9; intro _; exact ⟨hv9, by simp only [valsL, List.length_map, List.length_range]; exact Nat.le_trans (Nat.div_le_self _ _) (by omega)⟩)
  rw [← hVR] at HV HBD ⊢
  clear hVR
  obtain ⟨vs, er⟩ := VR
  dsimp only at HV HBD HE0 HE1 ⊢
  by_cases h0 : er = 0
  · subst h0
    obtain ⟨hv1, hv2⟩ := HE1.out rfl
    obtain ⟨n, hn⟩ : ∃ n, n = vs.length := ⟨_, rfl⟩
    have hn1 : 1 ≤ n := by rw [hn]; exact List.length_pos_iff.2 hv1
    rw [← hn] at hv2
    have HN := Lib.hid hn
    have hmk := fun W => makeInt n (by omega) W
    have hnz : (1 : Int) ≤ n := by omega
    clear hn hv1
    by_cases h1n : n = 1
    · subst h1n
      clear hmk
      have hmk : ∀ W, (Instr.makeSlice 27 (.int .i64 1) (.int .i64 1)).run Try.prog W = .ok (.slice (some ⟨W.heap.size, 0, none⟩) 1 1) (W.alloc (.cells (madeCells #[.int .i64 0] (1 * 1)) 3)) := fun W => makeInt 1 (by decide) W
      go_enter Try.func12, Try.ntmps12
      go_wp2_with (go_at_call 10; (with_reducible refine Calls.mono (HV.out _ HR0.out) ?_); rintro e1 w1 ⟨⟨v8, rfl, hr8, hf8⟩, hb1⟩; obtain ⟨a8, c8, rfl⟩ := hr8.form; rw [← HN.out] at hr8 ⊢; have R8 := Lib.hid hr8; clear hr8 hf8)
      have O0 := Lib.hid (show (w1.alloc (.cells (madeCells #[.int .i64 0] 1) 3)).ownsRow w1.heap.size 3 1 (.slice (some ⟨w1.heap.size, 0, none⟩) 1 1) 1 ((outs vs 1 0).map (Value.int .i64)) by
        have h := World.ownsRow_lit (base := w1.heap.size) (e := 3) (size := 1) w1 (madeCells #[.int .i64 0] (1 * 1)) 1 (Nat.le_refl _) (by unfold maxLen; omega) (by rw [← Array.length_toList, made1]; simp)
        rw [made1, Nat.mul_one] at h
        rw [outs_zero, List.map_replicate]
        exact h)
      have HB1 := Lib.hid hb1
      have HW0 := Lib.hid (Bw.alloc (Bw.refl w1) (.cells (madeCells #[.int .i64 0] 1) 3))
      obtain ⟨b, hb⟩ : ∃ b, w1.heap.size = b := ⟨_, rfl⟩
      have HBB := Lib.hid hb
      rw [hb] at O0 ⊢
      clear hb1 hmk hb
      go_loopg [28] 1 (fun gg s28 wr => s28 = .int .i64 0 ∧ Hid (Bw w1 wr) ∧ Hid (wr.ownsRow b 3 1 (.slice (some ⟨b, 0, none⟩) 1 1) 1 ((outs vs 1 0).map (Value.int .i64))))
      case atStart => exact ⟨rfl, HW0, O0⟩
      case round =>
        obtain ⟨rfl, HW, OR⟩ := hrel
        have hr9 := (own_rd (zs := outs vs 1 0) (by rw [outs_len]; exact OR.out) (by rw [outs_len]; omega)).1
        rw [outs_end vs 1 HN.out] at hr9
        have R9 := Lib.hid hr9
        clear hr9
        go_wp2
        refine bodyPost_ret (v := .tuple #[.slice (some ⟨b, 0, none⟩) 1 1, .int .i64 0]) ?_ rfl ⟨⟨_, rfl, R9.out, Fresh.at (by have := HB1.out.size; have := HBB.out; omega)⟩, HB1.out.trans HW.out⟩
        simp [results, Try.results12, go_sem]
    · have hn2 : ¬ n - 1 = 0 := by omega
      go_enter Try.func12, Try.ntmps12
      go_wp2_with (go_at_call 10; (with_reducible refine Calls.mono (HV.out _ HR0.out) ?_); rintro e1 w1 ⟨⟨v8, rfl, hr8, hf8⟩, hb1⟩; obtain ⟨a8, c8, rfl⟩ := hr8.form; rw [← HN.out] at hr8 ⊢; have R8 := Lib.hid hr8; clear hr8 hf8)
      have O0 := Lib.hid (show (w1.alloc (.cells (madeCells #[.int .i64 0] n) 3)).ownsRow w1.heap.size 3 1 (.slice (some ⟨w1.heap.size, 0, none⟩) n n) n ((outs vs n 0).map (Value.int .i64)) by
        have h := World.ownsRow_lit (base := w1.heap.size) (e := 3) (size := 1) w1 (madeCells #[.int .i64 0] (n * 1)) n (Nat.le_refl _) (by unfold maxLen; omega) (by rw [← Array.length_toList, made1]; simp)
        rw [made1, Nat.mul_one] at h
        rw [outs_zero, List.map_replicate]
        exact h)
      have HB1 := Lib.hid hb1
      have HW0 := Lib.hid (Bw.alloc (Bw.refl w1) (.cells (madeCells #[.int .i64 0] n) 3))
      obtain ⟨b, hb⟩ : ∃ b, w1.heap.size = b := ⟨_, rfl⟩
      have HBB := Lib.hid hb
      rw [hb] at O0 ⊢
      clear hb1 hmk hb
      go_loopg [28] 10000 (fun gg s28 wr => ∃ k : Nat, k ≤ n - 1 ∧ n - 1 - k ≤ gg ∧ s28 = .int .i64 k ∧ Hid (Bw w1 wr) ∧ Hid (wr.ownsRow b 3 1 (.slice (some ⟨b, 0, none⟩) n n) n ((outs vs n k).map (Value.int .i64))))
      case atStart => exact ⟨0, Nat.zero_le _, by omega, rfl, HW0, O0⟩
      case round =>
        obtain ⟨k, hk, hgg, rfl, HW, OR⟩ := hrel
        by_cases hlt : k < n - 1
        · have hkz : (k : Int) < ((n - 1 : Nat) : Int) := by omega
          have hkn : (k : Int) < n := by omega
          have hkn1 : (k : Int) + 1 < n := by omega
          have d0 : wr.cell? ⟨b, k, none⟩ = some (.int .i64 (bitAt vs k)) := (OR.out.cellAt k (by omega)).trans (outs_at vs n k (by omega))
          have d1 : wr.cell? ⟨b, k + 1, none⟩ = ((outs vs n k).map (Value.int .i64))[k + 1]? := OR.out.cellAt (k + 1) (by omega)
          obtain ⟨old, hold⟩ : ∃ old, ((outs vs n k).map (Value.int .i64))[k + 1]? = some old := ⟨_, List.getElem?_eq_getElem (by rw [List.length_map, outs_len]; omega)⟩
          rw [hold] at d1
          clear hold
          have z1 := OR.out.frozenAt (k + 1)
          have hb01 := bitAt_01 vs k
          have HST := Lib.hid (show bitAt vs (k + 1) = if scl (vs.getD k (0, 0)) (vs.getD (k + 1) (0, 0)) < 0 then 1 - bitAt vs k else bitAt vs k from rfl)
          have HOS := Lib.hid (outs_step vs n k)
          generalize bitAt vs k = bt at d0 hb01 HST
          go_upto_region 9 with fail
          have OR2 := Lib.hid (OR.out.stored (k + 1) (.int .i64 bt)).1
          have HW2 := Lib.hid (Bw.setCell HW.out (p := ⟨b, k + 1, none⟩) (by have := HBB.out; simp; omega) (.int .i64 bt))
          clear d0 d1 z1 HW OR
          generalize World.setCell wr _ _ = w2 at OR2 HW2 ⊢
          obtain ⟨bv, ov, cv, hv8, hbv, hd8⟩ := R8.out.at (by have := HN.out; omega)
          injection hv8 with i1 i2 i3; subst i1; clear i2 i3
          have hd80 := hd8 k (by have := HN.out; omega)
          have hd81 := hd8 (k + 1) (by have := HN.out; omega)
          have hm0 := HBD.out (vs.getD k (0, 0)) (getD_mem vs k (0, 0) (by have := HN.out; omega))
          have hm1 := HBD.out (vs.getD (k + 1) (0, 0)) (getD_mem vs (k + 1) (0, 0) (by have := HN.out; omega))
          clear hd8 hbv
          generalize vs.getD k (0, 0) = p0 at hd80 hm0 HST
          generalize vs.getD (k + 1) (0, 0) = p1 at hd81 hm1 HST
          obtain ⟨x0, y0⟩ := p0
          obtain ⟨x1, y1⟩ := p1
          simp only at hd80 hd81 hm0 hm1
          have SC := Lib.hid (fun W => scalar2_any x0 y0 x1 y1 W hm0 hm1)
          clear hm0 hm1
          generalize scl (x0, y0) (x1, y1) = sc at SC HST
          have f0 := HW2.out.cell' hd80.1
          have f1 := HW2.out.cell' hd80.2
          have f2 := HW2.out.cell' hd81.1
          have f3 := HW2.out.cell' hd81.2
          clear hd80 hd81
          have e0 := fun p' : Ext w2 => Ext.cell' f0 p'
          have e1 := fun p' : Ext w2 => Ext.cell' f1 p'
          have e2 := fun p' : Ext w2 => Ext.cell' f2 p'
          have e3 := fun p' : Ext w2 => Ext.cell' f3 p'
          (refine wp_region_quiet_ext (by kernel_rfl) (by kernel_rfl) ?_; (repeat (go_big_quiet_step (((go_at_call 35; refine Calls.ext_of (SC.out _)))))); refine wpQuiet_nil ?_; rintro wq ⟨⟨_, hbq⟩, rfl⟩; obtain ⟨hccq, hffq⟩ := Bw.cells hbq; have hszq := Bw.size hbq)
          clear e0 e1 e2 e3 f0 f1 f2 f3
          have OR3 := own_bw OR2 hbq
          have HW3 := Lib.hid (HW2.out.trans hbq)
          have hcb : wq.cell? ⟨b, k + 1, none⟩ = some (.int .i64 bt) := (OR3.cellAt (k + 1) (by omega)).trans (by rw [List.getElem?_set, if_pos rfl, if_pos (by rw [List.length_map, outs_len]; omega)])
          have hzb := OR3.frozenAt (k + 1)
          by_cases hs : sc < 0
          · have HB2 := Lib.hid (show bitAt vs (k + 1) = 1 - bt by rw [HST.out, if_pos hs])
            have ho3 := (OR3.stored (k + 1) (.int .i64 (1 - bt))).1
            rw [List.set_set, ← List.map_set, ← HB2.out, HOS.out, HB2.out] at ho3
            have HO3 := Lib.hid ho3
            have HW4 := Lib.hid (Bw.setCell HW3.out (p := ⟨b, k + 1, none⟩) (by have := HBB.out; simp; omega) (.int .i64 (1 - bt)))
            clear OR3 OR2 HST ho3
            rcases hb01 with rfl | rfl
            · go_wp2
              go_roundg (n - 1 - (k + 1))
              case measure => omega
              case rel => exact ⟨k + 1, by omega, by omega, by go_num, HW4, HO3⟩
            · go_wp2
              go_roundg (n - 1 - (k + 1))
              case measure => omega
              case rel => exact ⟨k + 1, by omega, by omega, by go_num, HW4, HO3⟩
          · have HB2 := Lib.hid (show bitAt vs (k + 1) = bt by rw [HST.out, if_neg hs])
            have ho3 := OR3
            rw [← List.map_set, ← HB2.out, HOS.out] at ho3
            have HO3 := Lib.hid ho3
            clear OR3 OR2 HST ho3
            go_wp2
            go_roundg (n - 1 - (k + 1))
            case measure => omega
            case rel => exact ⟨k + 1, by omega, by omega, by go_num, HW3, HO3⟩
        · obtain rfl : k = n - 1 := by omega
          have hkz : ¬ ((n - 1 : Nat) : Int) < ((n - 1 : Nat) : Int) := by omega
          have hr9 := (own_rd (zs := outs vs n (n - 1)) (by rw [outs_len]; exact OR.out) (by rw [outs_len]; omega)).1
          rw [outs_end vs n HN.out] at hr9
          have R9 := Lib.hid hr9
          clear hr9
          go_wp2
          refine bodyPost_ret (v := .tuple #[.slice (some ⟨b, 0, none⟩) n n, .int .i64 0]) ?_ rfl ⟨⟨_, rfl, R9.out, Fresh.at (by have := HB1.out.size; have := HBB.out; omega)⟩, HB1.out.trans HW.out⟩
          simp [results, Try.results12, go_sem]
  · have hne0 : (er != 0) = true := by simpa using h0
    have HE := Lib.hid (HE0.out h0)
    go_enter Try.func12, Try.ntmps12
    go_wp2_with (go_at_call 10; (with_reducible refine Calls.mono (HV.out _ HR0.out) ?_); rintro e1 w1 ⟨⟨v8, rfl, hr8, hf8⟩, hb1⟩)
    refine bodyPost_ret (v := .tuple #[.slice none 0 0, .int .i64 er]) ?_ rfl ⟨⟨_, rfl, by rw [HE.out]; exact RdI.nil _, Fresh.nil _ _ _⟩, hb1⟩
    simp [results, Try.results12, go_sem]
end Go.Proofs.Sky
