/-
  lemmas for the theorems of this claim. No conditions beyond those written in the statements.
-/
import Derived.Test.YtmndialneggbjaaTA21
import Derived.Test.YtmndialneggbjaaRD21
import Derived.Deep.Cut
set_option linter.unusedVariables false
set_option linter.unusedSimpArgs false
set_option linter.unnecessarySimpa false
namespace Go.Proofs.Sky
open Go Go.RowKit Go.Shelf
set_option maxHeartbeats 4000000
set_option maxRecDepth 4000
theorem addr_add0 (b off i : Nat) : (⟨b, off, none⟩ : Addr).add i = ⟨b, off + i, none⟩ := by simp [Addr.add]
theorem own_cell {w : World} {base : Nat} {e : TypeId} {g cap : Nat} {zs : List Int} (h : w.ownsRow base e 1 (.slice (some ⟨g, 0, none⟩) zs.length cap) zs.length (zs.map (Value.int .i64))) (i : Nat) (hi : i < zs.length) : w.cell? ⟨g, i, none⟩ = some (.int .i64 (zs.getD i 0)) := by
  have h1 := h.cells (g := g) rfl i (.int .i64 (zs.getD i 0)) (by rw [List.getElem?_map, List.getD_eq_getElem?_getD, List.getElem?_eq_getElem hi]; rfl)
  rw [addr_add0, Nat.zero_add] at h1
  exact h1
theorem rRead_any (l : List (Int × Int)) (v : Value) (p at_ : Int) (w : World) (hv : RdS w v l) :
    Calls Try.prog 13 #[v, .int .i64 p, .int .i64 at_] w fun e w' => ReP w.heap.size (readR l p at_).1 (readR l p at_).2 e w' ∧ Bw w w' := by
  have HV := Lib.hid (fun W hW => rValues_any l v p at_ W hW)
  have HR0 := Lib.hid hv
  obtain ⟨al, cl9, rfl⟩ := hv.form
  clear hv
  have HBD := Lib.hid (valR_bd l p at_)
  unfold readR VaP at *
  obtain ⟨VR, hVR⟩ : ∃ VR, VR = valR l p at_ := ⟨_, rfl⟩
  have HE0 := Lib.hid (show VR.2 ≠ 0 → VR.1 = [] by
    rw [hVR]; unfold valR
    split
    · intro _; rfl
    · split
      · intro _; rfl
      · split
        · intro _; rfl
        · split
          · intro _; rfl
          · intro h; exact absurd rfl h)
  have HE1 := Lib.hid (show VR.2 = 0 → VR.1 ≠ [] ∧ VR.1.length ≤ 10000 by
    rw [hVR]; unfold valR
    split
    · intro h; simp at h
    · split
      · intro h; simp at h
      · rename_i hlen
        split
        · intro h; simp at h
        · split
          · intro h; simp at h
          · rename_i hv9; intro _; exact ⟨hv9, by simp only [valsL, List.length_map, List.length_range]; exact Nat.le_trans (Nat.div_le_self _ _) (by omega)⟩)
  rw [← hVR] at HV HBD ⊢
  clear hVR
  obtain ⟨vs, er⟩ := VR
  dsimp only at HV HBD HE0 HE1 ⊢
  by_cases h0 : er = 0
  · subst h0
    obtain ⟨hv1, hv2⟩ := HE1.out rfl
    obtain ⟨n, hn⟩ : ∃ n, n = vs.length := ⟨_, rfl⟩
    have hn1 : 1 ≤ n := by rw [hn]; exact List.length_pos_iff.2 hv1
    rw [← hn] at hv2
    have HN := Lib.hid hn
    have hnz : (1 : Int) ≤ n := by omega
    clear hn hv1
    have HNN := Lib.hid hn1
    go_enter Try.func13, Try.ntmps13
    go_wp2_with (go_at_call 11; (with_reducible refine Calls.mono (HV.out _ HR0.out) ?_); rintro e1 w1 ⟨⟨v8, rfl, hr8, hf8⟩, hb1⟩; obtain ⟨a8, c8, rfl⟩ := hr8.form; rw [← HN.out] at hr8 ⊢; have R8 := Lib.hid hr8; clear hr8 hf8)
    have O0 := Lib.hid (World.ownsRow_lit (base := w1.heap.size) (e := 3) (size := 1) w1 #[.int .i64 0] 1 (Nat.le_refl _) (by unfold maxLen; omega) rfl)
    have HB1 := Lib.hid hb1
    have HW0 := Lib.hid (Bw.alloc (Bw.refl w1) (.cells #[.int .i64 0] 3))
    obtain ⟨BB, hb⟩ : ∃ b, w1.heap.size = b := ⟨_, rfl⟩
    have HBB := Lib.hid hb
    rw [hb] at O0 ⊢
    clear hb1 hb
    go_loopg [10, 11] 10000 (fun gg s10 s11 wr => ∃ k : Nat, k + 1 ≤ n ∧ n - k ≤ gg ∧ s11 = .int .i64 ((k : Int) + 1) ∧ Hid (Bw w1 wr) ∧ Hid (wr.ownsRow BB 3 1 s10 ((List.range (k + 1)).map (bitAt vs)).length (((List.range (k + 1)).map (bitAt vs)).map (Value.int .i64))))
    case atStart => exact ⟨0, hn1, by omega, by go_num, HW0, O0⟩
    case round =>
      clear O0 HW0
      obtain ⟨k, hk, hgg, rfl, HW, O1⟩ := hrel
      obtain ⟨g1, cap1, rfl⟩ := own_some O1.out (by simp)
      have HLN := Lib.hid (show ((List.range (k + 1)).map (bitAt vs)).length = k + 1 by rw [List.length_map, List.length_range])
      have hr1 := (own_rd O1.out (by rw [HLN.out]; omega)).1
      rw [HLN.out] at hr1 ⊢
      have R1 := Lib.hid hr1
      clear hr1
      by_cases hlt : k + 1 < n
      · have hkz : (k : Int) + 1 < n := by omega
        have hb01 := bitAt_01 vs k
        have hd1 := R1.out
        have d0 := (own_cell O1.out k (by rw [HLN.out]; omega))
        rw [getD_mapr _ _ _ (by omega)] at d0
        obtain ⟨b2, o2, cc2, hv2, hb2, hd2⟩ := R8.out.at (by have := HN.out; omega)
        injection hv2 with i1 i2 i3; subst i1; clear i2 i3 hb2
        have d1 := HW.out.cell' (hd2 k (by have := HN.out; omega)).1
        have d2 := HW.out.cell' (hd2 k (by have := HN.out; omega)).2
        have d3 := HW.out.cell' (hd2 (k + 1) (by have := HN.out; omega)).1
        have d4 := HW.out.cell' (hd2 (k + 1) (by have := HN.out; omega)).2
        clear hd2
        have hp := HBD.out _ (getD_mem vs k (0, 0) (by have := HN.out; omega))
        have hq := HBD.out _ (getD_mem vs (k + 1) (0, 0) (by have := HN.out; omega))
        have HST := Lib.hid (show bitAt vs (k + 1) = if scl (vs.getD k (0, 0)) (vs.getD (k + 1) (0, 0)) < 0 then 1 - bitAt vs k else bitAt vs k from rfl)
        have HT := Lib.hid (show (List.range (k + 1 + 1)).map (bitAt vs) = (List.range (k + 1)).map (bitAt vs) ++ [bitAt vs (k + 1)] by rw [List.range_succ, List.map_append]; rfl)
        generalize (List.range (k + 1)).map (bitAt vs) = l1 at O1 HT HLN
        generalize bitAt vs (k + 1) = bn at HT HST
        generalize bitAt vs k = bo at d0 HST hb01
        generalize vs.getD k (0, 0) = P at *
        generalize vs.getD (k + 1) (0, 0) = Q at *
        obtain ⟨x1, y1⟩ := P
        obtain ⟨x2, y2⟩ := Q
        simp only at d1 d2 d3 d4 hp hq
        have SC := Lib.hid (fun W => rScalar2_any x1 y1 x2 y2 W hp hq)
        obtain ⟨sc, hsc⟩ : ∃ sc, sc = scl (x1, y1) (x2, y2) := ⟨_, rfl⟩
        rw [← hsc] at SC HST
        clear hsc hp hq hd1 R1
        have e1 := fun p' : Ext wr => Ext.cell' d1 p'
        have e2 := fun p' : Ext wr => Ext.cell' d2 p'
        have e3 := fun p' : Ext wr => Ext.cell' d3 p'
        have e4 := fun p' : Ext wr => Ext.cell' d4 p'
        clear d1 d2 d3 d4
        by_cases hs : sc < 0
        · obtain rfl : bn = 1 - bo := by rw [HST.out, if_pos hs]
          go_wp2
          (refine wp_region_quiet_ext (by kernel_rfl) (by kernel_rfl) ?_; (repeat (go_big_quiet_step ((go_at_call 36; with_reducible refine Calls.ext_of (SC.out _))))); refine wpQuiet_nil ?_; rintro wq ⟨⟨_, hbq⟩, rfl⟩; obtain ⟨hccq, hffq⟩ := Bw.cells hbq; have hszq := Bw.size hbq)
          replace O1 := Lib.hid (own_bw O1.out hbq)
          replace HW := Lib.hid (HW.out.trans hbq)
          clear e1 e2 e3 e4 d0 hbq hccq hffq hszq
          go_wp2_with (at_builtin; have hba := Bw.alloc (Bw.refl wq) (.cells #[.int .i64 (1 - bo)] 3); have NB := Lib.hid (Blk.new wq 3 #[.int .i64 (1 - bo)]); replace O1 := Lib.hid (own_bw O1.out hba); replace HW := Lib.hid (HW.out.trans hba); clear hba; rw [← HLN.out]; refine wpList_append_int1 rfl (.tmp 48) (.tmp 50) _ rfl BB 3 Try.underlying27 infoInt _ l1 (1 - bo) rfl O1.out _ rfl (NB.out.cell rfl) (by have := HLN.out; omega) (by have := HW.out.size; have := HBB.out; omega) ?_; intro v8 w8 hown hgr; replace HW := Lib.hid (Bw.grownN HBB.out HW.out O1.out hgr); replace O1 := Lib.hid hown; clear hown hgr NB)
          go_roundg (n - (k + 1))
          case measure => omega
          case rel => exact ⟨k + 1, by omega, by omega, by go_num, HW, Lib.hid (by rw [HT.out]; exact O1.out)⟩
        · obtain rfl : bn = bo := by rw [HST.out, if_neg hs]
          go_wp2
          (refine wp_region_quiet_ext (by kernel_rfl) (by kernel_rfl) ?_; (repeat (go_big_quiet_step ((go_at_call 36; with_reducible refine Calls.ext_of (SC.out _))))); refine wpQuiet_nil ?_; rintro wq ⟨⟨_, hbq⟩, rfl⟩; obtain ⟨hccq, hffq⟩ := Bw.cells hbq; have hszq := Bw.size hbq)
          replace O1 := Lib.hid (own_bw O1.out hbq)
          replace HW := Lib.hid (HW.out.trans hbq)
          clear e1 e2 e3 e4 d0 hbq hccq hffq hszq
          go_wp2_with (at_builtin; have hba := Bw.alloc (Bw.refl wq) (.cells #[.int .i64 (bn)] 3); have NB := Lib.hid (Blk.new wq 3 #[.int .i64 (bn)]); replace O1 := Lib.hid (own_bw O1.out hba); replace HW := Lib.hid (HW.out.trans hba); clear hba; rw [← HLN.out]; refine wpList_append_int1 rfl (.tmp 48) (.tmp 50) _ rfl BB 3 Try.underlying27 infoInt _ l1 (bn) rfl O1.out _ rfl (NB.out.cell rfl) (by have := HLN.out; omega) (by have := HW.out.size; have := HBB.out; omega) ?_; intro v8 w8 hown hgr; replace HW := Lib.hid (Bw.grownN HBB.out HW.out O1.out hgr); replace O1 := Lib.hid hown; clear hown hgr NB)
          go_roundg (n - (k + 1))
          case measure => omega
          case rel => exact ⟨k + 1, by omega, by omega, by go_num, HW, Lib.hid (by rw [HT.out]; exact O1.out)⟩
      · have hkz : ¬ (k : Int) + 1 < n := by omega
        obtain rfl : n = k + 1 := by omega
        have HFR := Lib.hid (show Fresh w.heap.size (.slice (some ⟨g1, 0, none⟩) (k + 1) cap1) by
          have h := (own_rd O1.out (by rw [HLN.out]; omega)).2
          rw [HLN.out] at h
          exact h.mono (by rw [← HBB.out]; exact HB1.out.size))
        have HBL := Lib.hid (show (List.range (k + 1)).map (bitAt vs) = bitsL vs by rw [HN.out]; rfl)
        rw [HBL.out] at R1
        clear O1
        go_wp2
        refine bodyPost_ret (v := .tuple #[.slice (some ⟨g1, 0, none⟩) (k + 1) cap1, .int .i64 0]) ?_ rfl ⟨⟨_, rfl, R1.out, HFR.out⟩, HB1.out.trans HW.out⟩
        simp [results, Try.results13, go_sem]
  · have hne : (er != 0) = true := by simpa using h0
    have e : vs = [] := HE0.out h0
    subst e
    go_enter Try.func13, Try.ntmps13
    go_wp2_with (go_at_call 11; (with_reducible refine Calls.mono (HV.out _ HR0.out) ?_); rintro e1 w1 ⟨⟨v8, rfl, hr8, hf8⟩, hb1⟩)
    refine bodyPost_ret (v := .tuple #[.slice none 0 0, .int .i64 er]) ?_ rfl ⟨⟨_, rfl, RdI.nil _, Fresh.nil _ _ _⟩, hb1⟩
    simp [results, Try.results13, go_sem]
end Go.Proofs.Sky
