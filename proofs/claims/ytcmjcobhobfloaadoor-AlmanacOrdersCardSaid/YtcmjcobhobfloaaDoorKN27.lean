/-
  lemmas for the theorems of this claim. No conditions beyond those written in the statements.
-/
import Derived.Test.YtcmjcobhobfloaaDoorOA27
import Derived.Test.YtcmjcobhobfloaaDoorXA27
import Derived.Deep.Cut
import Derived.Deep.CutBlock
set_option linter.unusedVariables false
set_option linter.unusedSimpArgs false
set_option linter.unnecessarySimpa false
namespace Go.Proofs.Sky
open Go Go.RowKit Go.Shelf
set_option maxHeartbeats 4000000
set_option maxRecDepth 8000
/-! chapter 27: AlmanacOrders, what the walk holds in memory -/
theorem Blk.grownT {w w' : World} {g : Nat} {T : TypeId} {cs : Array Value} (h : Blk w g T cs) {base : Nat} {e : TypeId} {k : Nat} {v : Value} {n : Nat} {xs : List Value} (ho : w.ownsRow base e k v n xs) (hg : w.grownBy w' v.ownBlock) (hne : T ≠ e) : Blk w' g T cs := by
  unfold Blk at *
  rw [hg.block g (Array.getElem?_eq_some_iff.1 h).1 (fun e1 => by
    rcases ho.2 with ⟨rfl, _⟩ | ⟨g2, cap2, cur2, rfl, _, hh2, _⟩
    · simp [Value.ownBlock] at e1
    · simp [Value.ownBlock] at e1; subst e1; rw [h] at hh2; cases hh2; exact hne rfl)]
  exact h
theorem own_ne {w : World} {base : Nat} {e : TypeId} {k : Nat} {v : Value} {n : Nat} {xs : List Value} (h : w.ownsRow base e k v n xs) {g : Nat} (hg : w.heap.size ≤ g) : v.ownBlock ≠ some g := fun e1 => by
  rcases h.2 with ⟨rfl, _⟩ | ⟨g2, cap2, cur2, rfl, _, hh2, _⟩
  · simp [Value.ownBlock] at e1
  · simp [Value.ownBlock] at e1
    have := (Array.getElem?_eq_some_iff.1 hh2).1
    omega
theorem Blk.grownNe {w w' : World} {g : Nat} {T : TypeId} {cs : Array Value} (h : Blk w g T cs) {v : Value} (hne : v.ownBlock ≠ some g) (hg : w.grownBy w' v.ownBlock) : Blk w' g T cs := by
  unfold Blk at *
  rw [hg.block g (Array.getElem?_eq_some_iff.1 h).1 (fun e1 => by first | exact hne e1 | exact hne e1.symm)]
  exact h
theorem own_cellO {w : World} {base : Nat} {e : TypeId} {k : Nat} {v : Value} {n : Nat} {xs : List Value} (h : w.ownsRow base e k v n xs) {g : Nat} (hne : v.ownBlock ≠ some g) (o : Nat) (u : Value) : (w.setCell ⟨g, o, none⟩ u).ownsRow base e k v n xs := by
  obtain ⟨h1, h2⟩ := h
  refine ⟨h1, ?_⟩
  rcases h2 with h2 | ⟨g1, cap, cur, hv, hg0, hh, r⟩
  · exact .inl h2
  · refine .inr ⟨g1, cap, cur, hv, hg0, (heap_setCell_other w ⟨g, o, none⟩ g1 u (fun e1 => ?_)).trans hh, r⟩
    exact hne (by rw [hv, e1]; rfl)
section
variable {P : Program} {o : Oper} {a : Act} {w : World} {K : Act → World → Prop} {Q : Exit → Act → World → Prop}
theorem wp_build1 (t : TypeId) (p : Operand) (ho : o.op = .buildSlice t 1 #[(0, p)]) (dst : Option Tmp) (hd : o.dst = dst) (ht : Tryd.prog.underlying t = some (.slice 27)) (x : Nat → Int) (hp : a.eval p = .agg (pgV x))
    (h : K (a.put dst (.slice (some ⟨w.heap.size, 0, none⟩) 1 1)) (w.alloc (.cells (pgV x) 27))) : o.wp Tryd.prog a w K Q := by
  subst hd
  have hs : ∀ w, (sizeOf 27).run Tryd.prog w = .ok 13 w := fun w => by kernel_rfl
  have hz : ∀ w, (zeroValue 27).run Tryd.prog w = .ok (.agg #[.int .i64 0, .int .i64 0, .int .i64 0, .int .i64 0, .int .i64 0, .int .i64 0, .int .i64 0, .int .i64 0, .int .i64 0, .int .i64 0, .int .i64 0, .int .i64 0, .int .i64 0]) w := fun w => by kernel_rfl
  unfold Oper.wp execOp
  unfold pgV at h hp
  generalize x 0 = a0, x 1 = a1, x 2 = a2, x 3 = a3, x 4 = a4, x 5 = a5, x 6 = a6, x 7 = a7, x 8 = a8, x 9 = a9, x 10 = a10, x 11 = a11, x 12 = a12 at h hp
  simp only [ho, List.map_toArray, List.map_cons, List.map_nil, hp]
  simp [go_sem, run_underlying ht, hs, hz]
  exact h
end
end Go.Proofs.Sky

namespace Go.Proofs.Sky
open Go Go.RowKit Go.Shelf
attribute [local go_sem] Oper.semAt_some
set_option maxHeartbeats 4000000
set_option maxRecDepth 8000
/-! chapter 27: AlmanacKnown -/
theorem law_known27 (w : World) (hw : WdAt w) : Calls Tryd.prog 8 #[] w fun e w' => e = .returned (.bool true) ∧ Bw w w' := by
  have HWD := Lib.hid hw
  have AW := Lib.hid (fun W h => awake27_any W h)
  have S1 := Lib.hid (fun W h => stands27_any 590000 273033 (by kernel_rfl) (by kernel_rfl) W h)
  have S2 := Lib.hid (fun W h => stands27_any 100 80206 (by kernel_rfl) (by kernel_rfl) W h)
  have B1 := Lib.hid (fun W h => bound27_any 600000 100 (by kernel_rfl) (by kernel_rfl) W h)
  have B2 := Lib.hid (fun W h => bound27_any 596400 1100 (by kernel_rfl) (by kernel_rfl) W h)
  have B3 := Lib.hid (fun W h => bound27_no W h)
  have PLN := Lib.hid (fun W => plain27_any W)
  have FO := Lib.hid (fun W h => AlFrame_ok plX27 9 W h pl27_ok (by decide))
  unfold FrP at FO
  rw [show (packR 206 (fdsS PGL) ((List.range 13).map plX27)).1 = FrQ plX27 from rfl, plB27_eq] at FO
  have RB := Lib.hid (fun W h a c hv hc => AlRead_any 9 3 plB27 a c W h (fun _ => 0) 3 (.inr ⟨fun h9 => by have := h9.1; revert this; decide, rfl, rfl⟩) hv hc)
  have HSZ : Hid (∀ x, (Tryd.prog.info? 27).map (·.size) = some (pgV x).size) := Lib.hid (fun x => by kernel_rfl)
  have HPX : Hid (∀ x, (pgV x).all (·.oneCell') = true) := Lib.hid (fun x => by simp [Value.oneCell', pgV])
  have HBO := Lib.hid (fun (W : World) => RdI.litN W #[.int .i64 4, .int .i64 5, .int .i64 6, .int .i64 9, .int .i64 12, .int .i64 15, .int .i64 16, .int .i64 17, .int .i64 18, .int .i64 19, .int .i64 35, .int .i64 36, .int .i64 39, .int .i64 52, .int .i64 53, .int .i64 54, .int .i64 55, .int .i64 56, .int .i64 58, .int .i64 81, .int .i64 94, .int .i64 106, .int .i64 107] 3 onesL27 W.heap.size rfl (by rfl) (by decide))
  have HLL := Lib.hid (show plB27.length = 206 by rfl)
  have HNF := Lib.hid (fun (W : World) => Blk.new W 40 #[.int .i64 0, .int .i64 0, .slice none 0 0])
  have HOA := Lib.hid (fun i hi h => ones27_at (i := i) hi h)
  have HCN := Lib.hid (show ∀ i, cntO27 i ≤ i ∧ cntO27 (i + 1) = cntO27 i + (if plB27.getD i 0 = 1 then 1 else 0) from fun i => ⟨cnt27_le i, rfl⟩)
  have HEND := Lib.hid ones27_end
  generalize plB27 = L at FO RB HLL HOA HCN
  have HW := Lib.hid (Bw.refl w)
  go_enter Tryd.func8, Tryd.ntmps8
  go_upto_region 3 with (first | (go_at_call 30; (first | (with_reducible refine Calls.mono (S1.out _ (HWD.out.bw HW.out)) ?_) | (with_reducible refine Calls.mono (S2.out _ (HWD.out.bw HW.out)) ?_)); rintro e1 w1 ⟨rfl, hb1⟩; replace HW := Lib.hid (HW.out.trans hb1); clear hb1) | (go_at_call 31; (first | (with_reducible refine Calls.mono (B1.out _ (HWD.out.bw HW.out)) ?_) | (with_reducible refine Calls.mono (B2.out _ (HWD.out.bw HW.out)) ?_) | (with_reducible refine Calls.mono (B3.out _ (HWD.out.bw HW.out)) ?_)); rintro e1 w2 ⟨rfl, hb1⟩; replace HW := Lib.hid (HW.out.trans hb1); clear hb1))
  clear S1 S2 B1 B2 B3
  obtain ⟨w2, hw2⟩ : ∃ w2', w2' = w2 := ⟨_, rfl⟩
  subst hw2
  obtain ⟨A, hA⟩ : ∃ A, A = pgV plX27 := ⟨_, rfl⟩
  have HA := Lib.hid hA
  rw [← hA] at PLN FO
  clear hA
  go_upto_region 4 with (first | (go_at_call 32; (with_reducible refine Calls.mono (PLN.out _) ?_); rintro e1 w3 ⟨rfl, hb1⟩; replace HW := Lib.hid (HW.out.trans hb1); clear hb1) | (go_at_call 16; (with_reducible refine Calls.mono (FO.out _ (HWD.out.bw HW.out)) ?_); rintro e1 w4 ⟨⟨v4, rfl, hrd, hfr, hcd⟩, hb1⟩; obtain ⟨va, vc, rfl⟩ := hrd.form; have HRD := Lib.hid (And.intro hrd hcd); replace HW := Lib.hid (HW.out.trans hb1); clear hb1 hrd hfr hcd) | ((with_reducible refine at_store 40 (.tmp 1) (.tmp 39) ?_); refine wpList_store_row rfl 40 (.tmp 1) (.tmp 39) rfl w4.heap.size #[.int .i64 9, .int .i64 4, .slice va L.length vc] rfl rfl 40 #[.int .i64 0, .int .i64 0, .slice none 0 0] (HNF.out w4) (by kernel_rfl) (by simp) (by simp [Value.oneCell']) ?_))
  clear FO
  obtain ⟨g1, hg1⟩ : ∃ g1, w4.heap.size = g1 := ⟨_, rfl⟩
  have NE := Lib.hid (HRD.out.1.off (Nat.le_of_eq hg1))
  have hb1 := Bw.setRow (Bw.alloc (Bw.refl w4) (.cells #[.int .i64 0, .int .i64 0, .slice none 0 0] 40)) (Nat.le_of_eq hg1) #[.int .i64 9, .int .i64 4, .slice va L.length vc]
  have K1 := Lib.hid ((HNF.out w4).row #[.int .i64 9, .int .i64 4, .slice va L.length vc])
  have HG1 := Lib.hid (show w.heap.size ≤ g1 by have := HW.out.size; omega)
  rw [hg1] at K1 ⊢
  replace HRD := Lib.hid (And.intro (HRD.out.1.mono hb1) HRD.out.2)
  replace HW := Lib.hid (HW.out.trans hb1)
  clear hb1
  generalize World.setRow (World.alloc w4 _) _ _ = z4 at *
  clear hg1
  (try simp only [Act.put])
  go_upto_region 5 with fail
  obtain ⟨bo, hbo⟩ : ∃ bo, z4.heap.size = bo := ⟨_, rfl⟩
  have HON := HBO.out z4
  have hb9 := Bw.alloc (Bw.refl z4) (.cells #[.int .i64 4, .int .i64 5, .int .i64 6, .int .i64 9, .int .i64 12, .int .i64 15, .int .i64 16, .int .i64 17, .int .i64 18, .int .i64 19, .int .i64 35, .int .i64 36, .int .i64 39, .int .i64 52, .int .i64 53, .int .i64 54, .int .i64 55, .int .i64 56, .int .i64 58, .int .i64 81, .int .i64 94, .int .i64 106, .int .i64 107] 3)
  rw [hbo] at HON ⊢
  obtain ⟨W2, hW2⟩ : ∃ W2, z4.alloc (.cells #[.int .i64 4, .int .i64 5, .int .i64 6, .int .i64 9, .int .i64 12, .int .i64 15, .int .i64 16, .int .i64 17, .int .i64 18, .int .i64 19, .int .i64 35, .int .i64 36, .int .i64 39, .int .i64 52, .int .i64 53, .int .i64 54, .int .i64 55, .int .i64 56, .int .i64 58, .int .i64 81, .int .i64 94, .int .i64 106, .int .i64 107] 3) = W2 := ⟨_, rfl⟩
  rw [hW2] at HON hb9 ⊢
  clear hW2 hbo HBO
  replace HW := Lib.hid (HW.out.trans hb9)
  replace K1 := Lib.hid (K1.out.bw hb9)
  replace HRD := Lib.hid (And.intro (HRD.out.1.mono hb9) HRD.out.2)
  clear hb9
  have HO1 := Lib.hid (show ∀ j, j < 23 → W2.cell? ⟨bo, j, none⟩ = some (.int .i64 (onesL27.getD j 0)) from fun j hj => by have h9 := rd_at27 HON (i := j) hj; rw [Nat.zero_add] at h9; exact h9)
  clear HON
  have hll := HLL.out
  rw [hll] at K1 HRD RB NE ⊢
  clear HLL
  obtain ⟨b0, o0, c00, hv0, _, hc0⟩ := HRD.out.1.at (by omega)
  injection hv0 with i1 i2 i3
  subst i1
  clear i2 i3
  have HC0 := Lib.hid (show ∀ i, i < 206 → W2.cell? ⟨b0, o0 + i, none⟩ = some (.int .i64 (L.getD i 0)) from fun i hi => hc0 i (by omega))
  clear hc0
  have a2 := K1.out.cell (show (#[.int .i64 9, .int .i64 4, .slice (some ⟨b0, o0, none⟩) 206 vc] : Array Value)[2]? = some (.slice (some ⟨b0, o0, none⟩) 206 vc) from rfl)
  generalize hFB : (fun i => L.getD i 0) = FB at *
  have HFB := Lib.hid (show ∀ i, L.getD i 0 = FB i from fun i => by rw [← hFB])
  clear hFB
  simp only [HFB.out] at HOA HCN HC0
  generalize cntO27 = CO at *
  generalize onesL27 = OL at *
  go_wp2
  go_loopg [4, 5] 206 (fun gg s4 s5 wr => ∃ i : Nat, i ≤ 206 ∧ 206 - i ≤ gg ∧ s5 = .int .i64 i ∧ s4 = .int .i64 (CO i) ∧ wr = W2)
  case atStart => exact ⟨0, by omega, by omega, rfl, by rw [show CO 0 = 0 by have := (HCN.out 0).1; omega]; rfl, rfl⟩
  case round =>
    obtain ⟨i, hi, hgg, rfl, rfl, rfl⟩ := hrel
    by_cases hlt9 : i < 206
    · have hiz : (i : Int) < 206 := by omega
      have hi0 : (0 : Int) ≤ i := by omega
      have cz := HC0.out i hlt9
      obtain ⟨hle9, hnx⟩ := HCN.out i
      have HNX := Lib.hid hnx
      have HO9 := Lib.hid (fun h => HOA.out i hlt9 h)
      clear hnx
      generalize FB i = z at *
      by_cases hz : z = 1
      · obtain ⟨h7, hon⟩ := HO9.out hz
        have co := HO1.out (CO i) h7
        rw [hon] at co
        have hzb : (z == 1) = true := by simpa using hz
        have HN1 := Lib.hid (show CO (i + 1) = CO i + 1 by rw [HNX.out, if_pos hz])
        clear hz hon HNX HO9
        generalize CO i = n9 at *
        have h7z : (n9 : Int) < 23 := by omega
        have h70 : (0 : Int) ≤ n9 := by omega
        have hii : ((i : Int) != i) = false := by simp
        go_wp2
        go_roundg (206 - (i + 1))
        case measure => omega
        case rel => exact ⟨i + 1, by omega, by omega, by go_num, by rw [HN1.out]; go_num, rfl⟩
      · have hzb : (z == 1) = false := by simpa using hz
        have HN1 := Lib.hid (show CO (i + 1) = CO i by rw [HNX.out, if_neg hz, Nat.add_zero])
        clear hz HNX HO9
        go_wp2
        go_roundg (206 - (i + 1))
        case measure => omega
        case rel => exact ⟨i + 1, by omega, by omega, by go_num, by rw [HN1.out], rfl⟩
    · obtain rfl : i = 206 := by omega
      have hiz : ¬ ((206 : Nat) : Int) < 206 := by omega
      rw [HEND.out]
      clear HOA HCN HC0 HO1 HEND HFB hgg hi
      have a1 := K1.out.cell (show (#[.int .i64 9, .int .i64 4, .slice (some ⟨b0, o0, none⟩) 206 vc] : Array Value)[1]? = some (.int .i64 4) from rfl)
      have af := K1.out.frozen 1
      go_upto_region 14 with fail
      obtain ⟨WW, hWW⟩ : ∃ WW, WW = wr := ⟨_, rfl⟩
      subst hWW
      have hb9 := Bw.setCell HW.out (p := ⟨g1, 1, none⟩) HG1.out (.int .i64 3)
      have HRX := Lib.hid (show RdI (WW.setCell ⟨g1, 1, none⟩ (.int .i64 3)) (.slice (some ⟨b0, o0, none⟩) 206 vc) L from HRD.out.1.setOff NE.out 1 _)
      have K3 := Lib.hid (K1.out.setCell 1 (.int .i64 3))
      obtain ⟨W3, hW3⟩ : ∃ W3, WW.setCell ⟨g1, 1, none⟩ (.int .i64 3) = W3 := ⟨_, rfl⟩
      have HCD := Lib.hid HRD.out.2
      clear HRD
      rw [hW3] at hb9 HRX K3 ⊢
      clear hW3 K1 HW a1 a2 af NE
      have HW := Lib.hid hb9
      replace K3 := Lib.hid (show Blk W3 g1 40 #[.int .i64 9, .int .i64 3, .slice (some ⟨b0, o0, none⟩) 206 vc] from K3.out)
      have hcc := HCD.out _ _ _ rfl
      clear hb9 hll hlt9
      go_upto_region 15 with (first | ((with_reducible refine at_load 40 (.tmp 1) ?_); refine wpList_load_row rfl 40 _ rfl g1 rfl 40 #[.int .i64 9, .int .i64 3, .slice (some ⟨b0, o0, none⟩) 206 vc] (0, 0) _ K3.out Tryd.underlying40 rfl (by kernel_rfl) ?_) | (go_at_call 25; (with_reducible refine Calls.mono (RB.out _ (HWD.out.bw HW.out) _ _ HRX.out hcc) ?_); rintro e1 w5 ⟨rfl, hb1⟩; replace HW := Lib.hid (HW.out.trans hb1); replace K3 := Lib.hid (K3.out.bw hb1); clear hb1) | ((with_reducible refine at_store 27 (.tmp 6) (.tmp 73) ?_); refine wpList_store_row rfl 27 (.tmp 6) (.tmp 73) rfl w5.heap.size (pgV fun _ => 0) rfl rfl 27 #[.int .i64 0, .int .i64 0, .int .i64 0, .int .i64 0, .int .i64 0, .int .i64 0, .int .i64 0, .int .i64 0, .int .i64 0, .int .i64 0, .int .i64 0, .int .i64 0, .int .i64 0] (Blk.new w5 27 #[.int .i64 0, .int .i64 0, .int .i64 0, .int .i64 0, .int .i64 0, .int .i64 0, .int .i64 0, .int .i64 0, .int .i64 0, .int .i64 0, .int .i64 0, .int .i64 0, .int .i64 0]) (HSZ.out _) rfl (HPX.out _) ?_))
      generalize hzz : pgV (fun _ => 0) = ZA at *
      have hb2 := Bw.setRow (Bw.alloc (Bw.refl w5) (.cells #[.int .i64 0, .int .i64 0, .int .i64 0, .int .i64 0, .int .i64 0, .int .i64 0, .int .i64 0, .int .i64 0, .int .i64 0, .int .i64 0, .int .i64 0, .int .i64 0, .int .i64 0] 27)) (Nat.le_refl _) ZA
      replace HW := Lib.hid (HW.out.trans hb2)
      replace K3 := Lib.hid (K3.out.bw hb2)
      generalize World.setRow (World.alloc w5 _) _ _ = W5 at *
      clear hb2 HRX HCD hcc RB
      (try simp only [Act.put])
      have c2 := K3.out.cell (show (#[.int .i64 9, .int .i64 3, .slice (some ⟨b0, o0, none⟩) 206 vc] : Array Value)[2]? = some (.slice (some ⟨b0, o0, none⟩) 206 vc) from rfl)
      go_upto_region 17 with fail
      clear c2 K3 hzz
      have HSZA : Hid ((Tryd.prog.info? 27).map (·.size) = some A.size) := Lib.hid (by rw [HA.out]; exact HSZ.out _)
      have HPXA : Hid (A.all (·.oneCell') = true) := Lib.hid (by rw [HA.out]; exact HPX.out _)
      have HN13 : Hid ((#[.int .i64 0, .int .i64 0, .int .i64 0, .int .i64 0, .int .i64 0, .int .i64 0, .int .i64 0, .int .i64 0, .int .i64 0, .int .i64 0, .int .i64 0, .int .i64 0, .int .i64 0] : Array Value).size = A.size) := Lib.hid (by rw [HA.out]; rfl)
      go_upto_region 18 with (first | (go_at_call 32; (with_reducible refine Calls.mono (PLN.out _) ?_); rintro e1 w6 ⟨rfl, hb1⟩; replace HW := Lib.hid (HW.out.trans hb1); clear hb1) | ((with_reducible refine at_store 27 (.tmp 8) (.tmp 89) ?_); have K8 := Lib.hid ((Blk.new w6 27 #[.int .i64 0, .int .i64 0, .int .i64 0, .int .i64 0, .int .i64 0, .int .i64 0, .int .i64 0, .int .i64 0, .int .i64 0, .int .i64 0, .int .i64 0, .int .i64 0, .int .i64 0]).alloc (.cells #[.int .i64 0, .int .i64 0, .int .i64 0, .int .i64 0, .int .i64 0, .int .i64 0, .int .i64 0, .int .i64 0, .int .i64 0, .int .i64 0, .int .i64 0, .int .i64 0, .int .i64 0] 27)); have K9 : Hid (Blk ((w6.alloc (.cells #[.int .i64 0, .int .i64 0, .int .i64 0, .int .i64 0, .int .i64 0, .int .i64 0, .int .i64 0, .int .i64 0, .int .i64 0, .int .i64 0, .int .i64 0, .int .i64 0, .int .i64 0] 27)).alloc (.cells #[.int .i64 0, .int .i64 0, .int .i64 0, .int .i64 0, .int .i64 0, .int .i64 0, .int .i64 0, .int .i64 0, .int .i64 0, .int .i64 0, .int .i64 0, .int .i64 0, .int .i64 0] 27)) (w6.heap.size + 1) 27 #[.int .i64 0, .int .i64 0, .int .i64 0, .int .i64 0, .int .i64 0, .int .i64 0, .int .i64 0, .int .i64 0, .int .i64 0, .int .i64 0, .int .i64 0, .int .i64 0, .int .i64 0]) := Lib.hid (by have h9 := Blk.new (w6.alloc (.cells #[.int .i64 0, .int .i64 0, .int .i64 0, .int .i64 0, .int .i64 0, .int .i64 0, .int .i64 0, .int .i64 0, .int .i64 0, .int .i64 0, .int .i64 0, .int .i64 0, .int .i64 0] 27)) 27 #[.int .i64 0, .int .i64 0, .int .i64 0, .int .i64 0, .int .i64 0, .int .i64 0, .int .i64 0, .int .i64 0, .int .i64 0, .int .i64 0, .int .i64 0, .int .i64 0, .int .i64 0]; simp only [World.size_alloc] at h9; exact h9); refine wpList_store_row rfl 27 (.tmp 8) (.tmp 89) rfl w6.heap.size A rfl rfl 27 #[.int .i64 0, .int .i64 0, .int .i64 0, .int .i64 0, .int .i64 0, .int .i64 0, .int .i64 0, .int .i64 0, .int .i64 0, .int .i64 0, .int .i64 0, .int .i64 0, .int .i64 0] K8.out HSZA.out HN13.out HPXA.out ?_; replace K9 := Lib.hid (K9.out.row_other (g' := w6.heap.size) (by omega) A); replace K8 := Lib.hid (K8.out.row A)) | ((with_reducible refine at_store 27 (.tmp 9) (.tmp 90) ?_); refine wpList_store_row rfl 27 (.tmp 9) (.tmp 90) rfl (w6.heap.size + 1) A rfl rfl 27 #[.int .i64 0, .int .i64 0, .int .i64 0, .int .i64 0, .int .i64 0, .int .i64 0, .int .i64 0, .int .i64 0, .int .i64 0, .int .i64 0, .int .i64 0, .int .i64 0, .int .i64 0] K9.out HSZA.out HN13.out HPXA.out ?_; replace K8 := Lib.hid (K8.out.row_other (g' := w6.heap.size + 1) (by omega) A); replace K9 := Lib.hid (K9.out.row A)))
      have HGS := HW.out.size
      have hb2 := Bw.setRow (Bw.setRow (Bw.alloc (Bw.alloc (Bw.refl w6) (.cells #[.int .i64 0, .int .i64 0, .int .i64 0, .int .i64 0, .int .i64 0, .int .i64 0, .int .i64 0, .int .i64 0, .int .i64 0, .int .i64 0, .int .i64 0, .int .i64 0, .int .i64 0] 27)) (.cells #[.int .i64 0, .int .i64 0, .int .i64 0, .int .i64 0, .int .i64 0, .int .i64 0, .int .i64 0, .int .i64 0, .int .i64 0, .int .i64 0, .int .i64 0, .int .i64 0, .int .i64 0] 27)) (Nat.le_refl _) A) (show w6.heap.size ≤ w6.heap.size + 1 by omega) A
      replace HW := Lib.hid (HW.out.trans hb2)
      obtain ⟨g8, hg8⟩ : ∃ g8, w6.heap.size = g8 := ⟨_, rfl⟩
      rw [hg8] at K8 K9 HW HGS ⊢
      obtain ⟨W6, hW6⟩ : ∃ W6, (((w6.alloc (.cells #[.int .i64 0, .int .i64 0, .int .i64 0, .int .i64 0, .int .i64 0, .int .i64 0, .int .i64 0, .int .i64 0, .int .i64 0, .int .i64 0, .int .i64 0, .int .i64 0, .int .i64 0] 27)).alloc (.cells #[.int .i64 0, .int .i64 0, .int .i64 0, .int .i64 0, .int .i64 0, .int .i64 0, .int .i64 0, .int .i64 0, .int .i64 0, .int .i64 0, .int .i64 0, .int .i64 0, .int .i64 0] 27)).setRow g8 A).setRow (g8 + 1) A = W6 := ⟨_, rfl⟩
      rw [hW6] at K8 K9 HW ⊢
      clear hW6 hg8 hb2
      (try simp only [Act.put])
      have A1 := Lib.hid (show A[1]? = some (.int .i64 600000) by rw [HA.out]; rfl)
      have A2 := Lib.hid (show A[2]? = some (.int .i64 100) by rw [HA.out]; rfl)
      have c1 := K8.out.cell A1.out
      have c2 := K8.out.cell A2.out
      have c3 := K9.out.cell A1.out
      have f1 := K8.out.frozen 1
      have f2 := K8.out.frozen 2
      have f3 := K9.out.frozen 1
      go_upto_region 19 with fail
      have HAY := Lib.hid (show (A.setIfInBounds 1 (.int .i64 0)).setIfInBounds 2 (.int .i64 5) = pgV youX27 by rw [HA.out]; rfl)
      have HAO := Lib.hid (show A.setIfInBounds 1 (.int .i64 599999) = pgV oldX27 by rw [HA.out]; rfl)
      have hb2 := Bw.setCell (Bw.setCell (Bw.setCell HW.out (p := ⟨g8, 1, none⟩) HGS (.int .i64 0)) (p := ⟨g8, 2, none⟩) HGS (.int .i64 5)) (p := ⟨g8 + 1, 1, none⟩) (show w.heap.size ≤ g8 + 1 by omega) (.int .i64 599999)
      have hk8 := ((K8.out.set 1 (.int .i64 0)).set 2 (.int .i64 5)).set_other (b := g8 + 1) (by omega) 1 (.int .i64 599999)
      have hk9 := ((K9.out.set_other (b := g8) (by omega) 1 (.int .i64 0)).set_other (b := g8) (by omega) 2 (.int .i64 5)).set 1 (.int .i64 599999)
      rw [HAY.out] at hk8
      rw [HAO.out] at hk9
      obtain ⟨W7, hW7⟩ : ∃ W7, ((W6.setCell ⟨g8, 1, none⟩ (.int .i64 0)).setCell ⟨g8, 2, none⟩ (.int .i64 5)).setCell ⟨g8 + 1, 1, none⟩ (.int .i64 599999) = W7 := ⟨_, rfl⟩
      rw [hW7] at hk8 hk9 hb2 ⊢
      clear hW7 c1 c2 c3 f1 f2 f3 HAY HAO A1 A2 HGS
      replace K8 := Lib.hid hk8
      replace K9 := Lib.hid hk9
      replace HW := Lib.hid hb2
      clear hk8 hk9 hb2
      generalize g8 + 1 = g9 at *
      have ADA := Lib.hid (fun W h => AlAdd_any [] plX27 [plX27] 0 add27_1 (.slice none 0 0) W h (RdG.nil W))
      have ADB := Lib.hid (fun v W h hv => AlAdd_any [plX27] youX27 [youX27] 0 add27_2 v W h hv)
      have ADC := Lib.hid (fun v W h hv => AlAdd_any [plX27] oldX27 [plX27] 0 add27_3 v W h hv)
      have FA := Lib.hid (fun v W h hv => AlFind_any [plX27] 3 plX27 0 find27_1 v W h hv)
      have FB := Lib.hid (fun v W h hv => AlFind_any [plX27] 4 zrX 18 find27_2 v W h hv)
      have AKA := Lib.hid (fun v W (hv : RdG W v [plX27]) => alikePg_any [plX27] v (.slice (some ⟨W.heap.size, 0, none⟩) 1 1) (W.alloc (.cells (pgV plX27) 27)) (hv.mono (Bw.alloc (Bw.refl W) _)) (lit1G W plX27))
      have AKB := Lib.hid (fun v W (hv : RdG W v [youX27]) => alikePg_any [youX27] v (.slice (some ⟨W.heap.size, 0, none⟩) 1 1) (W.alloc (.cells (pgV youX27) 27)) (hv.mono (Bw.alloc (Bw.refl W) _)) (lit1G W youX27))
      have hfa := fold_pg plX27
      have hfb := fold_pg youX27
      have hsb : (pgV youX27).size = 13 := rfl
      have hsa : (pgV plX27).size = 13 := rfl
      rw [← HA.out] at ADA FA AKA hfa hsa
      have HSZB := Lib.hid (HSZ.out youX27)
      have HSZC := Lib.hid (HSZ.out oldX27)
      generalize pgV youX27 = Y at *
      generalize pgV oldX27 = O at *
      unfold AdR at ADA ADB ADC
      go_upto_region 20 with (first | (go_at_call 32; (with_reducible refine Calls.mono (PLN.out _) ?_); rintro e1 wx ⟨rfl, hb1⟩; replace K8 := Lib.hid (K8.out.bw hb1); replace K9 := Lib.hid (K9.out.bw hb1); replace HW := Lib.hid (HW.out.trans hb1); clear hb1) | (go_at_call 11; (with_reducible refine Calls.mono (ADA.out _ (HWD.out.bw HW.out)) ?_); rintro e1 wx ⟨⟨v10, rfl, ho⟩, hb1⟩; have V10 := Lib.hid (own_rdG ho (by decide)).1; replace K8 := Lib.hid (K8.out.bw hb1); replace K9 := Lib.hid (K9.out.bw hb1); replace HW := Lib.hid (HW.out.trans hb1); clear hb1 ho))
      go_upto_region 21 with (first | ((with_reducible refine at_load 27 (.tmp 8) ?_); refine wpList_load_row rfl 27 _ rfl g8 rfl 27 Y (0, 0) _ K8.out Tryd.underlying27 rfl HSZB.out ?_) | (go_at_call 11; (with_reducible refine Calls.mono (ADB.out _ _ (HWD.out.bw HW.out) V10.out) ?_); rintro e1 wx ⟨⟨v11, rfl, ho⟩, hb1⟩; have V11 := Lib.hid (own_rdG ho (by decide)).1; replace K8 := Lib.hid (K8.out.bw hb1); replace K9 := Lib.hid (K9.out.bw hb1); replace V10 := Lib.hid (V10.out.mono hb1); replace HW := Lib.hid (HW.out.trans hb1); clear hb1 ho))
      go_upto_region 22 with (first | ((with_reducible refine at_load 27 (.tmp 9) ?_); refine wpList_load_row rfl 27 _ rfl g9 rfl 27 O (0, 0) _ K9.out Tryd.underlying27 rfl HSZC.out ?_) | (go_at_call 11; (with_reducible refine Calls.mono (ADC.out _ _ (HWD.out.bw HW.out) V10.out) ?_); rintro e1 wx ⟨⟨v13, rfl, ho⟩, hb1⟩; have V13 := Lib.hid (own_rdG ho (by decide)).1; replace K8 := Lib.hid (K8.out.bw hb1); replace V10 := Lib.hid (V10.out.mono hb1); replace V11 := Lib.hid (V11.out.mono hb1); replace HW := Lib.hid (HW.out.trans hb1); clear hb1 ho))
      clear ADA ADB ADC K9
      obtain ⟨wy, hwy⟩ : ∃ wy, wy = wx := ⟨_, rfl⟩
      subst hwy
      go_upto_region 24 with (first | (go_at_call 32; (with_reducible refine Calls.mono (PLN.out _) ?_); rintro e1 wy ⟨rfl, hb1⟩; replace K8 := Lib.hid (K8.out.bw hb1); replace V10 := Lib.hid (V10.out.mono hb1); replace V11 := Lib.hid (V11.out.mono hb1); replace V13 := Lib.hid (V13.out.mono hb1); replace HW := Lib.hid (HW.out.trans hb1); clear hb1) | ((with_reducible refine at_load 27 (.tmp 8) ?_); refine wpList_load_roww28 27 _ rfl g8 rfl 27 Y (0, 0) _ K8.out Tryd.underlying27 rfl HSZB.out (by rfl) ?_) | (go_at_call 12; (first | ((with_reducible refine Calls.mono (AKA.out v10 wy V10.out) ?_); have hba := Bw.alloc (Bw.refl wy) (.cells A 27)) | ((with_reducible refine Calls.mono (AKB.out v11 wy V11.out) ?_); have hba := Bw.alloc (Bw.refl wy) (.cells Y 27)) | ((with_reducible refine Calls.mono (AKA.out v13 wy V13.out) ?_); have hba := Bw.alloc (Bw.refl wy) (.cells A 27))); rintro e1 wy ⟨rfl, hb1⟩; replace hb1 := hba.trans hb1; clear hba; replace K8 := Lib.hid (K8.out.bw hb1); replace V10 := Lib.hid (V10.out.mono hb1); replace V11 := Lib.hid (V11.out.mono hb1); replace V13 := Lib.hid (V13.out.mono hb1); replace HW := Lib.hid (HW.out.trans hb1); clear hb1))
      clear V11 V13 K8 hfb hsb AKA AKB
      go_upto_region 25 with (first | (go_at_call 13; (with_reducible refine Calls.mono (FA.out _ _ (HWD.out.bw HW.out) V10.out) ?_); rintro e1 wy ⟨rfl, hb1⟩; replace V10 := Lib.hid (V10.out.mono hb1); replace HW := Lib.hid (HW.out.trans hb1); clear hb1) | ((with_reducible refine at_store 27 (.tmp 15) (.tmp 145) ?_); refine wpList_store_row rfl 27 (.tmp 15) (.tmp 145) rfl wy.heap.size A rfl rfl 27 #[.int .i64 0, .int .i64 0, .int .i64 0, .int .i64 0, .int .i64 0, .int .i64 0, .int .i64 0, .int .i64 0, .int .i64 0, .int .i64 0, .int .i64 0, .int .i64 0, .int .i64 0] (Blk.new wy 27 #[.int .i64 0, .int .i64 0, .int .i64 0, .int .i64 0, .int .i64 0, .int .i64 0, .int .i64 0, .int .i64 0, .int .i64 0, .int .i64 0, .int .i64 0, .int .i64 0, .int .i64 0]) HSZA.out HN13.out HPXA.out ?_))
      obtain ⟨g15, hg15⟩ : ∃ g15, wy.heap.size = g15 := ⟨_, rfl⟩
      have hb2 := Bw.setRow (Bw.alloc (Bw.refl wy) (.cells #[.int .i64 0, .int .i64 0, .int .i64 0, .int .i64 0, .int .i64 0, .int .i64 0, .int .i64 0, .int .i64 0, .int .i64 0, .int .i64 0, .int .i64 0, .int .i64 0, .int .i64 0] 27)) (Nat.le_of_eq hg15) A
      have K15 := Lib.hid ((Blk.new wy 27 #[.int .i64 0, .int .i64 0, .int .i64 0, .int .i64 0, .int .i64 0, .int .i64 0, .int .i64 0, .int .i64 0, .int .i64 0, .int .i64 0, .int .i64 0, .int .i64 0, .int .i64 0]).row A)
      rw [hg15] at K15 ⊢
      replace HW := Lib.hid (HW.out.trans hb2)
      replace V10 := Lib.hid (V10.out.mono hb2)
      generalize World.setRow (World.alloc wy _) _ _ = wz at *
      obtain ⟨wy, hwy⟩ : ∃ wy, wy = wz := ⟨_, rfl⟩
      subst hwy
      clear hb2 hg15
      (try simp only [Act.put])
      go_upto_region 26 with (go_at_call 13; (with_reducible refine Calls.mono (FB.out _ _ (HWD.out.bw HW.out) V10.out) ?_); rintro e1 wy ⟨rfl, hb1⟩; replace V10 := Lib.hid (V10.out.mono hb1); replace K15 := Lib.hid (K15.out.bw hb1); replace HW := Lib.hid (HW.out.trans hb1); clear hb1)
      have MSA := Lib.hid (fun v W (hW : WdAt W) (hv : RdG W v [plX27]) => AlMissing_any [plX27] [4, 3, 5] 600000 100 v (.slice (some ⟨W.heap.size, 0, none⟩) 3 3) (W.alloc (.cells #[.int .i64 4, .int .i64 3, .int .i64 5] 3)) (hW.bw (Bw.alloc (Bw.refl W) _)) (hv.mono (Bw.alloc (Bw.refl W) _)) (RdI.lit W #[.int .i64 4, .int .i64 3, .int .i64 5] 3 [4, 3, 5] rfl (by decide)) (by decide))
      have MSB := Lib.hid (fun v W (hW : WdAt W) (hv : RdG W v [plX27]) => AlMissing_any [plX27] [3] 600001 100 v (.slice (some ⟨W.heap.size, 0, none⟩) 1 1) (W.alloc (.cells #[.int .i64 3] 3)) (hW.bw (Bw.alloc (Bw.refl W) _)) (hv.mono (Bw.alloc (Bw.refl W) _)) (RdI.lit W #[.int .i64 3] 3 [3] rfl (by decide)) (by decide))
      unfold LsQ at MSA MSB
      rw [ms27_1, ms27_3] at MSA
      rw [ms27_2, ms27_4] at MSB
      go_upto_region 27 with (go_at_call 14; (with_reducible refine Calls.mono (MSA.out _ wy (HWD.out.bw HW.out) V10.out) ?_); have hba := Bw.alloc (Bw.refl wy) (.cells #[.int .i64 4, .int .i64 3, .int .i64 5] 3); rintro e1 wy ⟨⟨v16, rfl, hrv, _⟩, hb1⟩; have V16 := Lib.hid hrv; replace hb1 := hba.trans hb1; clear hba hrv; replace V10 := Lib.hid (V10.out.mono hb1); replace K15 := Lib.hid (K15.out.bw hb1); replace HW := Lib.hid (HW.out.trans hb1); clear hb1)
      go_upto_region 28 with (go_at_call 14; (with_reducible refine Calls.mono (MSB.out _ wy (HWD.out.bw HW.out) V10.out) ?_); have hba := Bw.alloc (Bw.refl wy) (.cells #[.int .i64 3] 3); rintro e1 wy ⟨⟨v17, rfl, hrv, _⟩, hb1⟩; have V17 := Lib.hid hrv; replace hb1 := hba.trans hb1; clear hba hrv; replace V10 := Lib.hid (V10.out.mono hb1); replace K15 := Lib.hid (K15.out.bw hb1); replace V16 := Lib.hid (V16.out.mono hb1); replace HW := Lib.hid (HW.out.trans hb1); clear hb1)
      clear MSA MSB V10 FA FB
      have hq2 := fun W => eqPg_self plX27 W
      rw [← HA.out] at hq2
      have hgg := fun W a b op p q => eqPg_guard a b op p q W
      obtain ⟨WZ, hWZ⟩ : ∃ WZ, WZ = wy := ⟨_, rfl⟩
      subst hWZ
      refine wp_region_held_drew (S := Bw WZ) (by kernel_rfl) (Bw.drew (Bw.refl _)) (fun hS => ?_)
      generalize World.drew _ = wd at hS ⊢
      refine take1 (i := 0) (some 164) rfl rfl (by kernel_rfl) (by kernel_rfl) (by kernel_rfl) (fun _ _ _ _ h => h) rfl hS ?_
      refine Exists.intro (.agg A) ?_
      apply And.intro
      · intro W9 hW9; skip; exact run_load_row 27 _ rfl g15 rfl 27 A _ (K15.out.bw hW9) Tryd.underlying27 rfl HSZA.out
      simp only [Act.put, List.setIfInBounds_toArray, List.set_cons_zero, List.set_cons_succ]
      refine wpAnyH_ready (rs := [1]) (by kernel_rfl) (by simp) ?_
      refine AllReadyH.cons rfl (fun K hK => ?_) ?_
      go_simp
      go_wp2_with (go_at_call 32; (with_reducible refine Calls.mono (PLN.out _) ?_); rintro e1 wd ⟨rfl, hbw⟩)
      refine hK.out _ _ (hS.trans hbw) (fun hS => ?_)
      clear hK K
      clear hbw
      refine take1 (i := 2) (some 166) rfl rfl (by kernel_rfl) (by kernel_rfl) (by kernel_rfl) (fun _ _ _ _ h => h) rfl hS ?_
      apply Exists.intro
      apply And.intro
      · intro W9 hW9; skip; go_simp; try with_reducible rfl
      simp only [Act.put, List.setIfInBounds_toArray, List.set_cons_zero, List.set_cons_succ]
      refine take1 (i := 3) (some 167) rfl rfl (by kernel_rfl) (by kernel_rfl) (by kernel_rfl) (fun _ _ _ _ h => h) rfl hS ?_
      apply Exists.intro
      apply And.intro
      · intro W9 hW9; skip; go_simp; try with_reducible rfl
      simp only [Act.put, List.setIfInBounds_toArray, List.set_cons_zero, List.set_cons_succ]
      refine take1 (i := 4) (some 168) rfl rfl (by kernel_rfl) (by kernel_rfl) (by kernel_rfl) (fun _ _ _ _ h => h) rfl hS ?_
      apply Exists.intro
      apply And.intro
      · intro W9 hW9; skip; go_simp; try with_reducible rfl
      simp only [Act.put, List.setIfInBounds_toArray, List.set_cons_zero, List.set_cons_succ]
      refine take1 (i := 5) (some 169) rfl rfl (by kernel_rfl) (by kernel_rfl) (by kernel_rfl) (fun _ _ _ _ h => h) rfl hS ?_
      apply Exists.intro
      apply And.intro
      · intro W9 hW9; skip; go_simp; try with_reducible rfl
      simp only [Act.put, List.setIfInBounds_toArray, List.set_cons_zero, List.set_cons_succ]
      refine take1 (i := 6) (some 170) rfl rfl (by kernel_rfl) (by kernel_rfl) (by kernel_rfl) (fun _ _ _ _ h => h) rfl hS ?_
      apply Exists.intro
      apply And.intro
      · intro W9 hW9; skip; go_simp; try with_reducible rfl
      simp only [Act.put, List.setIfInBounds_toArray, List.set_cons_zero, List.set_cons_succ]
      refine take1 (i := 7) (some 171) rfl rfl (by kernel_rfl) (by kernel_rfl) (by kernel_rfl) (fun _ _ _ _ h => h) rfl hS ?_
      apply Exists.intro
      apply And.intro
      · intro W9 hW9; skip; go_simp; try with_reducible rfl
      simp only [Act.put, List.setIfInBounds_toArray, List.set_cons_zero, List.set_cons_succ]
      refine take1 (i := 8) (some 172) rfl rfl (by kernel_rfl) (by kernel_rfl) (by kernel_rfl) (fun _ _ _ _ h => h) rfl hS ?_
      apply Exists.intro
      apply And.intro
      · intro W9 hW9; skip; go_simp; try with_reducible rfl
      simp only [Act.put, List.setIfInBounds_toArray, List.set_cons_zero, List.set_cons_succ]
      refine take1 (i := 9) (some 173) rfl rfl (by kernel_rfl) (by kernel_rfl) (by kernel_rfl) (fun _ _ _ _ h => h) rfl hS ?_
      apply Exists.intro
      apply And.intro
      · intro W9 hW9; skip; go_simp; try with_reducible rfl
      simp only [Act.put, List.setIfInBounds_toArray, List.set_cons_zero, List.set_cons_succ]
      refine take1 (i := 10) (some 174) rfl rfl (by kernel_rfl) (by kernel_rfl) (by kernel_rfl) (fun _ _ _ _ h => h) rfl hS ?_
      apply Exists.intro
      apply And.intro
      · intro W9 hW9; skip; go_simp; try with_reducible rfl
      simp only [Act.put, List.setIfInBounds_toArray, List.set_cons_zero, List.set_cons_succ]
      refine take1 (i := 11) (some 175) rfl rfl (by kernel_rfl) (by kernel_rfl) (by kernel_rfl) (fun _ _ _ _ h => h) rfl hS ?_
      apply Exists.intro
      apply And.intro
      · intro W9 hW9; skip; go_simp; try with_reducible rfl
      simp only [Act.put, List.setIfInBounds_toArray, List.set_cons_zero, List.set_cons_succ]
      refine take1 (i := 12) (some 176) rfl rfl (by kernel_rfl) (by kernel_rfl) (by kernel_rfl) (fun _ _ _ _ h => h) rfl hS ?_
      apply Exists.intro
      apply And.intro
      · intro W9 hW9; skip; go_simp; try with_reducible rfl
      simp only [Act.put, List.setIfInBounds_toArray, List.set_cons_zero, List.set_cons_succ]
      refine take1 (i := 13) (some 177) rfl rfl (by kernel_rfl) (by kernel_rfl) (by kernel_rfl) (fun _ _ _ _ h => h) rfl hS ?_
      apply Exists.intro
      apply And.intro
      · intro W9 hW9; skip; go_simp; try with_reducible rfl
      simp only [Act.put, List.setIfInBounds_toArray, List.set_cons_zero, List.set_cons_succ]
      refine take1 (i := 14) (some 178) rfl rfl (by kernel_rfl) (by kernel_rfl) (by kernel_rfl) (fun _ _ _ _ h => h) rfl hS ?_
      apply Exists.intro
      apply And.intro
      · intro W9 hW9; skip; go_simp; try with_reducible rfl
      simp only [Act.put, List.setIfInBounds_toArray, List.set_cons_zero, List.set_cons_succ]
      refine take1 (i := 15) (some 179) rfl rfl (by kernel_rfl) (by kernel_rfl) (by kernel_rfl) (fun _ _ _ _ h => h) rfl hS ?_
      apply Exists.intro
      apply And.intro
      · intro W9 hW9; skip; go_simp; try with_reducible rfl
      simp only [Act.put, List.setIfInBounds_toArray, List.set_cons_zero, List.set_cons_succ]
      refine take1 (i := 16) (some 180) rfl rfl (by kernel_rfl) (by kernel_rfl) (by kernel_rfl) (fun _ _ _ _ h => h) rfl hS ?_
      apply Exists.intro
      apply And.intro
      · intro W9 hW9; skip; go_simp; try with_reducible rfl
      simp only [Act.put, List.setIfInBounds_toArray, List.set_cons_zero, List.set_cons_succ]
      refine wpAnyH_ready (rs := [17]) (by kernel_rfl) (by simp) ?_
      refine AllReadyH.cons rfl (fun K hK => ?_) ?_
      go_simp
      have hba := Bw.alloc (Bw.refl wd) (.cells #[.int .i64 4, .int .i64 5] 3)
      have RL1 := Lib.hid (show RdI (World.alloc wd (.cells #[.int .i64 4, .int .i64 5] 3)) (.slice (some ⟨wd.heap.size, 0, none⟩) 2 2) [4, 5] from RdI.litN wd #[.int .i64 4, .int .i64 5] 3 [4, 5] wd.heap.size rfl rfl (by decide))
      obtain ⟨gb, hgb⟩ : ∃ gb, wd.heap.size = gb := ⟨_, rfl⟩
      rw [hgb] at RL1
      refine hK.out _ _ (hS.trans hba) (fun hS => ?_)
      clear hK K
      clear hba
      try rw [hgb]
      clear hgb
      generalize World.alloc wd _ = wd2 at hS RL1 ⊢
      refine wpAnyH_ready (rs := [18]) (by kernel_rfl) (by simp) ?_
      refine AllReadyH.cons rfl (fun K hK => ?_) ?_
      go_simp
      go_wp2_with (go_at_call 24; (with_reducible refine Calls.mono (alike_same [4, 5] _ _ _ (V16.out.mono hS) RL1.out) ?_); rintro e1 wd3 ⟨rfl, hbw⟩)
      refine hK.out _ _ (hS.trans hbw) (fun hS => ?_)
      clear hK K
      clear hbw
      refine take1 (i := 19) (some 183) rfl rfl (by kernel_rfl) (by kernel_rfl) (by kernel_rfl) (fun _ _ _ _ h => h) rfl hS ?_
      apply Exists.intro
      apply And.intro
      · intro W9 hW9; skip; go_simp; try with_reducible rfl
      simp only [Act.put, List.setIfInBounds_toArray, List.set_cons_zero, List.set_cons_succ]
      refine take1 (i := 20) (some 184) rfl rfl (by kernel_rfl) (by kernel_rfl) (by kernel_rfl) (fun _ _ _ _ h => h) rfl hS ?_
      apply Exists.intro
      apply And.intro
      · intro W9 hW9; skip; go_simp; try with_reducible rfl
      simp only [Act.put, List.setIfInBounds_toArray, List.set_cons_zero, List.set_cons_succ]
      refine take1 (i := 21) (some 185) rfl rfl (by kernel_rfl) (by kernel_rfl) (by kernel_rfl) (fun _ _ _ _ h => h) rfl hS ?_
      apply Exists.intro
      apply And.intro
      · intro W9 hW9; skip; go_simp; try with_reducible rfl
      simp only [Act.put, List.setIfInBounds_toArray, List.set_cons_zero, List.set_cons_succ]
      refine take1 (i := 22) (some 186) rfl rfl (by kernel_rfl) (by kernel_rfl) (by kernel_rfl) (fun _ _ _ _ h => h) rfl hS ?_
      apply Exists.intro
      apply And.intro
      · intro W9 hW9; skip; go_simp; try with_reducible rfl
      simp only [Act.put, List.setIfInBounds_toArray, List.set_cons_zero, List.set_cons_succ]
      refine take1 (i := 23) (some 187) rfl rfl (by kernel_rfl) (by kernel_rfl) (by kernel_rfl) (fun _ _ _ _ h => h) rfl hS ?_
      apply Exists.intro
      apply And.intro
      · intro W9 hW9; skip; go_simp; try with_reducible rfl
      simp only [Act.put, List.setIfInBounds_toArray, List.set_cons_zero, List.set_cons_succ]
      refine take1 (i := 24) (some 188) rfl rfl (by kernel_rfl) (by kernel_rfl) (by kernel_rfl) (fun _ _ _ _ h => h) rfl hS ?_
      apply Exists.intro
      apply And.intro
      · intro W9 hW9; skip; go_simp; try with_reducible rfl
      simp only [Act.put, List.setIfInBounds_toArray, List.set_cons_zero, List.set_cons_succ]
      refine take1 (i := 25) (some 189) rfl rfl (by kernel_rfl) (by kernel_rfl) (by kernel_rfl) (fun _ _ _ _ h => h) rfl hS ?_
      apply Exists.intro
      apply And.intro
      · intro W9 hW9; skip; go_simp; try with_reducible rfl
      simp only [Act.put, List.setIfInBounds_toArray, List.set_cons_zero, List.set_cons_succ]
      refine take1 (i := 26) (some 190) rfl rfl (by kernel_rfl) (by kernel_rfl) (by kernel_rfl) (fun _ _ _ _ h => h) rfl hS ?_
      apply Exists.intro
      apply And.intro
      · intro W9 hW9; skip; go_simp; try with_reducible rfl
      simp only [Act.put, List.setIfInBounds_toArray, List.set_cons_zero, List.set_cons_succ]
      refine wpAnyH_ready (rs := [27]) (by kernel_rfl) (by simp) ?_
      refine AllReadyH.cons rfl (fun K hK => ?_) ?_
      go_simp
      have hba := Bw.alloc (Bw.refl wd3) (.cells #[.int .i64 3] 3)
      have RL2 := Lib.hid (show RdI (World.alloc wd3 (.cells #[.int .i64 3] 3)) (.slice (some ⟨wd3.heap.size, 0, none⟩) 1 1) [3] from RdI.litN wd3 #[.int .i64 3] 3 [3] wd3.heap.size rfl rfl (by decide))
      obtain ⟨gb, hgb⟩ : ∃ gb, wd3.heap.size = gb := ⟨_, rfl⟩
      rw [hgb] at RL2
      refine hK.out _ _ (hS.trans hba) (fun hS => ?_)
      clear hK K
      clear hba
      try rw [hgb]
      clear hgb
      generalize World.alloc wd3 _ = wd4 at hS RL2 ⊢
      refine wpAnyH_ready (rs := [28]) (by kernel_rfl) (by simp) ?_
      refine AllReadyH.cons rfl (fun K hK => ?_) ?_
      go_simp
      go_wp2_with (go_at_call 24; (with_reducible refine Calls.mono (alike_same [3] _ _ _ (V17.out.mono hS) RL2.out) ?_); rintro e1 wd5 ⟨rfl, hbw⟩)
      refine hK.out _ _ (hS.trans hbw) (fun hS => ?_)
      clear hK K
      clear hbw
      refine take1 (i := 29) (some 193) rfl rfl (by kernel_rfl) (by kernel_rfl) (by kernel_rfl) (fun _ _ _ _ h => h) rfl hS ?_
      apply Exists.intro
      apply And.intro
      · intro W9 hW9; skip; go_simp; try with_reducible rfl
      simp only [Act.put, List.setIfInBounds_toArray, List.set_cons_zero, List.set_cons_succ]
      refine take1 (i := 30) (some 194) rfl rfl (by kernel_rfl) (by kernel_rfl) (by kernel_rfl) (fun _ _ _ _ h => h) rfl hS ?_
      apply Exists.intro
      apply And.intro
      · intro W9 hW9; skip; go_simp; try with_reducible rfl
      simp only [Act.put, List.setIfInBounds_toArray, List.set_cons_zero, List.set_cons_succ]
      refine wpAnyH_done (by kernel_rfl) ?_ _
      rotate_left
      exact AllReadyH.nil
      exact AllReadyH.nil
      exact AllReadyH.nil
      exact AllReadyH.nil
      exact AllReadyH.nil
      all_goals
        replace HW := Lib.hid (HW.out.trans hS)
        clear hS hq2 hgg V16 V17 K15 RL1 RL2
        go_upto_region 30 with fail
        have ADD := Lib.hid (fun v W h hv => AlAdd_any [plX27, plX27] plX27 [] 9 add27_4 v W h hv)
        rw [← HA.out] at ADD
        unfold AdR at ADD
        obtain ⟨wv, hwv⟩ : ∃ wv, wv = wd5 := ⟨_, rfl⟩
        subst hwv
        go_upto_region 31 with (first | (go_at_call 32; (with_reducible refine Calls.mono (PLN.out _) ?_); rintro e1 wv ⟨rfl, hb1⟩; (try replace RD2 := Lib.hid (RD2.out.mono hb1)); replace HW := Lib.hid (HW.out.trans hb1); clear hb1) | ((with_reducible refine at_build2 24 2 #[(0, .tmp 196), (1, .tmp 197)] ?_); refine wpList_plain rfl (fun K hK => wp_build2 24 _ _ rfl (some 198) rfl Tryd.underlying24 plX27 plX27 (show Value.agg A = .agg (pgV plX27) by rw [HA.out]) (show Value.agg A = .agg (pgV plX27) by rw [HA.out]) (hK _ _ ?_)); have RD2 := Lib.hid (lit2G wv plX27 plX27); replace HW := Lib.hid (HW.out.trans (Bw.alloc (Bw.refl wv) (.cells (pgc plX27 ++ pgc plX27).toArray 27)))) | (go_at_call 11; (with_reducible refine Calls.mono (ADD.out _ _ (HWD.out.bw HW.out) RD2.out) ?_); rintro e1 wv ⟨⟨v19, rfl, _⟩, hb1⟩; replace HW := Lib.hid (HW.out.trans hb1); clear hb1))
        clear ADD RD2 hfa hsa
        have hmk := fun W => makePg64 W
        have FL := Lib.hid (fun v W h hv => AlFind_any (List.replicate 64 zrX) 3 zrX 4 find27_3 v W h hv)
        go_upto_region 32 with (go_at_call 13; (with_reducible refine Calls.mono (FL.out _ _ ((HWD.out.bw HW.out).bw (Bw.alloc (Bw.refl wv) _)) (lit64G wv)) ?_); rintro e1 wu ⟨rfl, hb1⟩; replace HW := Lib.hid ((HW.out.trans (Bw.alloc (Bw.refl wv) (.cells mz27 27))).trans hb1); clear hb1)
        clear hmk FL
        have CK0 : Hid (∀ W, WdAt W → Calls Tryd.prog 22 #[.agg #[.int .i64 64, .int .i64 0, .int .i64 0, .int .i64 0, .int .i64 0, .int .i64 0, .int .i64 0, .int .i64 0, .int .i64 0, .int .i64 0, .int .i64 0, .int .i64 0, .int .i64 0]] W fun e w' => e = .returned (.int .i64 2) ∧ Bw W w') := Lib.hid (fun W h => by have h9 := PgCheck_any (big27 0) W h; rw [big27_0] at h9; exact h9)
        have CK1 : Hid (∀ W, WdAt W → Calls Tryd.prog 22 #[.agg #[.int .i64 1, .int .i64 0, .int .i64 0, .int .i64 0, .int .i64 0, .int .i64 8192, .int .i64 0, .int .i64 0, .int .i64 0, .int .i64 0, .int .i64 0, .int .i64 0, .int .i64 0]] W fun e w' => e = .returned (.int .i64 2) ∧ Bw W w') := Lib.hid (fun W h => by have h9 := PgCheck_any (big27 1) W h; rw [big27_1] at h9; exact h9)
        have CK2 : Hid (∀ W, WdAt W → Calls Tryd.prog 22 #[.agg #[.int .i64 1, .int .i64 0, .int .i64 0, .int .i64 0, .int .i64 0, .int .i64 (-8192), .int .i64 0, .int .i64 0, .int .i64 0, .int .i64 0, .int .i64 0, .int .i64 0, .int .i64 0]] W fun e w' => e = .returned (.int .i64 0) ∧ Bw W w') := Lib.hid (fun W h => by have h9 := PgCheck_any (big27 2) W h; rw [big27_2] at h9; exact h9)
        go_wp2_with (first | (go_at_call 22; (first | (with_reducible refine Calls.mono (CK0.out _ (HWD.out.bw HW.out)) ?_) | (with_reducible refine Calls.mono (CK1.out _ (HWD.out.bw HW.out)) ?_) | (with_reducible refine Calls.mono (CK2.out _ (HWD.out.bw HW.out)) ?_)); rintro e1 wu ⟨rfl, hb1⟩; replace HW := Lib.hid (HW.out.trans hb1); clear hb1) | (go_at_call 15; (with_reducible refine Calls.mono (AW.out _ (HWD.out.bw HW.out)) ?_); rintro e1 wu ⟨rfl, hb1⟩; replace HW := Lib.hid (HW.out.trans hb1); clear hb1))
        go_ret
        exact ⟨rfl, HW.out⟩
end Go.Proofs.Sky
