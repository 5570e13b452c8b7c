/-
  lemmas for the theorems of this claim. No conditions beyond those written in the statements.
-/
import Derived.Test.YtmndialneggbjaaPC21
set_option linter.unusedVariables false
set_option linter.unusedSimpArgs false
set_option linter.unnecessarySimpa false
namespace Go.Proofs.Sky
open Go Go.RowKit Go.Shelf
set_option maxHeartbeats 4000000
set_option maxRecDepth 4000
theorem parts_main (m : Nat) (p0 : Int) (hm : bel p0 20 = (m : Int)) (zs ms : List Int) (v1 v2 : Value) (w : World) (hv1 : RdI w v1 zs) (hv2 : RdI w v2 ms) (hl1 : zs.length ≤ 60) (hl2 : ms.length ≤ 60) :
    Calls Try.prog 5 #[.int .i64 p0, v1, v2] w fun r w' => r = .returned (.bool true) ∧ Bw w w' := by
  have HV1 := Lib.hid hv1
  have HV2 := Lib.hid hv2
  obtain ⟨ad1, cap1, rfl⟩ := hv1.form
  obtain ⟨ad2, cap2, rfl⟩ := hv2.form
  clear hv1 hv2
  have hm2 := bel_bd p0 20 (by omega)
  rw [hm] at hm2
  have TU := Lib.hid (fun W => Turn_any p0 20 W (by omega) (by omega))
  rw [hm] at TU
  obtain ⟨n, hn⟩ : ∃ n, n = m + 1 := ⟨_, rfl⟩
  have hn1 : 1 ≤ n := by omega
  have hn2 : n ≤ 20 := by omega
  have NW := Lib.hid (fun W => by have h := New_ok n W hn1 hn2; rw [show (n : Int) = 1 + (m : Int) by omega] at h; unfold SyP at h; exact h)
  have SM1 := Lib.hid (fun W v (hW : RdI W v zs) => sums_any zs v W hW hl1)
  have SM2 := Lib.hid (fun W v (hW : RdI W v ms) => sums_any ms v W hW hl2)
  have hA : ∀ a ∈ zs.map suP, -100 ≤ a.1 ∧ a.1 ≤ 100 ∧ -100 ≤ a.2 ∧ a.2 ≤ 100 := fun a ha => by
    obtain ⟨z, _, rfl⟩ := List.mem_map.1 ha
    have := suP_bd z
    omega
  have hB : ∀ a ∈ ms.map suP, -100 ≤ a.1 ∧ a.1 ≤ 100 ∧ -100 ≤ a.2 ∧ a.2 ≤ 100 := fun a ha => by
    obtain ⟨z, _, rfl⟩ := List.mem_map.1 ha
    have := suP_bd z
    omega
  have hla : (zs.map suP).length ≤ 60 := by rw [List.length_map]; exact hl1
  have hlb : (ms.map suP).length ≤ 60 := by rw [List.length_map]; exact hl2
  have hg1 : ¬ (60 : Int) < zs.length := by omega
  have hg2 : ¬ (60 : Int) < ms.length := by omega
  generalize zs.map suP = A at *
  generalize ms.map suP = B at *
  have hIN : ∀ a : Int × Int, (-100 ≤ a.1 ∧ a.1 ≤ 100 ∧ -100 ≤ a.2 ∧ a.2 ≤ 100) → insP a = true := fun a h => by rw [insP_iff]; omega
  obtain ⟨C1, x1, y1, C2, x2, y2, f1, f2, f3, hc1, hc2, hsum, hpos⟩ := parts_plain n hn1 hn2 A B (fun a h => hIN a (hA a h)) (fun a h => hIN a (hB a h)) hla hlb
  have hL : ∀ a ∈ A ++ B, -100 ≤ a.1 ∧ a.1 ≤ 100 ∧ -100 ≤ a.2 ∧ a.2 ≤ 100 := fun a ha => (List.mem_append.1 ha).elim (hA a) (hB a)
  have hNL : (A ++ B).length = A.length + B.length := List.length_append
  obtain ⟨N, hN⟩ : ∃ N, N = A.length + B.length := ⟨_, rfl⟩
  rw [← hN] at f2 f3 hsum hNL
  have FD1 := Lib.hid (fun W V vl (h1 : RdI W V (List.replicate n 0)) (h2 : RdS W vl A) => by have h := Feed_any (List.replicate n 0) V 0 0 0 A vl W h1 h2; rw [f1] at h; unfold SyP at h; exact h)
  have FD2 := Lib.hid (fun W V vl (h1 : RdI W V C1) (h2 : RdS W vl B) => by have h := Feed_any C1 V A.length x1 y1 B vl W h1 h2; rw [f2] at h; unfold SyP at h; exact h)
  have FD3 := Lib.hid (fun W V vl (h1 : RdI W V (List.replicate n 0)) (h2 : RdS W vl (A ++ B)) => by have h := Feed_any (List.replicate n 0) V 0 0 0 (A ++ B) vl W h1 h2; rw [f3] at h; unfold SyP at h; exact h)
  have HLA := Lib.hid hla; have HLB := Lib.hid hlb; have HNL := Lib.hid hNL; have HSUM := Lib.hid hsum; have HPOS := Lib.hid hpos; have HL := Lib.hid hL
  have HN := Lib.hid hN
  have HC2 := Lib.hid hc2
  have HM := Lib.hid hn
  have hN120 : N ≤ 120 := by omega
  generalize List.replicate n (0 : Int) = C0 at *
  clear f1 f2 f3 hA hB hla hlb hIN hL hNL hN hc1 hc2 hsum hpos hm hn
  have HBW := Lib.hid (Bw.refl w)
  go_enter Try.func5, Try.ntmps5
  go_upto_region 7 with (first | (go_at_call 4; (with_reducible refine Calls.mono (law_known _) ?_); rintro e1 u1 ⟨rfl, hb1⟩; replace HBW := Lib.hid (HBW.out.trans hb1); clear hb1) | (go_at_call 20; (with_reducible refine Calls.mono (SM1.out _ _ ?_) ?_); (focus exact HV1.out.mono HBW.out); rintro e1 u2 ⟨⟨va, rfl, hr, _, _⟩, hb2⟩; obtain ⟨aA, cA, rfl⟩ := hr.form; have SA := Lib.hid hr; replace HBW := Lib.hid (HBW.out.trans hb2); clear hr hb2 SM1) | (go_at_call 20; (with_reducible refine Calls.mono (SM2.out _ _ ?_) ?_); (focus exact HV2.out.mono HBW.out); rintro e1 u3 ⟨⟨vb, rfl, hr, _, _⟩, hb3⟩; obtain ⟨aB, cB, rfl⟩ := hr.form; have SB := Lib.hid hr; replace SA := Lib.hid (SA.out.mono hb3); replace HBW := Lib.hid (HBW.out.trans hb3); clear hr hb3 SM2) | (at_builtin; refine wpList_append_prs rfl (.tmp 37) (.tmp 38) _ rfl u3.heap.size 34 Try.underlying22 infoSam _ [] A rfl (own0P u3 _ rfl) _ _ _ rfl (SA.out.mono (Bw.alloc (Bw.refl u3) _)) (by have := HLA.out; simp; omega) (Bw.alloc (Bw.refl u3) (.cells #[] 34)).size ?_; intro v4 u4 hown hgr; rw [List.nil_append] at hown; have hb4 := Lib.hid (Bw.grownN rfl (Bw.alloc (Bw.refl u3) _) (own0P u3 _ rfl) hgr); have O1 := Lib.hid hown; clear hown hgr) | (at_builtin; refine wpList_append_prs rfl (.tmp 39) (.tmp 40) _ rfl u3.heap.size 34 Try.underlying22 infoSam _ A B rfl O1.out _ _ _ rfl (SB.out.mono hb4.out) (by have := HLA.out; have := HLB.out; omega) hb4.out.size ?_; intro v5 u5 hown hgr; have hb5 := Bw.grownN rfl hb4.out O1.out hgr; have hr5 := (own_rdS2 hown (by rw [List.length_append]; have := HLA.out; have := HLB.out; omega)).1; obtain ⟨aL, cL, rfl⟩ := hr5.form; rw [HNL.out] at hr5 ⊢; have SL := Lib.hid hr5; replace SA := Lib.hid (SA.out.mono hb5); replace SB := Lib.hid (SB.out.mono hb5); replace HBW := Lib.hid (HBW.out.trans hb5); clear hown hgr hb4 O1 hb5 hr5) | (go_at_call 21; (with_reducible refine Calls.mono (TU.out _) ?_); rintro e1 u6 ⟨rfl, hb6⟩; replace SA := Lib.hid (SA.out.mono hb6); replace SB := Lib.hid (SB.out.mono hb6); replace SL := Lib.hid (SL.out.mono hb6); replace HBW := Lib.hid (HBW.out.trans hb6); clear hb6) | (go_at_call 16; (with_reducible refine Calls.mono (NW.out _) ?_); rintro e1 u7 ⟨⟨v7, rfl, hr, _⟩, hb7⟩; obtain ⟨a1, c1, rfl⟩ := hr.form; have R1 := Lib.hid hr; replace SA := Lib.hid (SA.out.mono hb7); replace SB := Lib.hid (SB.out.mono hb7); replace SL := Lib.hid (SL.out.mono hb7); replace HBW := Lib.hid (HBW.out.trans hb7); clear hr hb7 NW))
  have BX1 := Lib.hid (Blk.new u7 36 #[.slice a1 C0.length c1, .int .i64 0, .int .i64 0, .int .i64 0])
  have hba := Bw.alloc (Bw.refl u7) (.cells #[.slice a1 C0.length c1, .int .i64 0, .int .i64 0, .int .i64 0] 36)
  replace R1 := Lib.hid (R1.out.mono hba)
  replace SA := Lib.hid (SA.out.mono hba)
  replace SB := Lib.hid (SB.out.mono hba)
  replace SL := Lib.hid (SL.out.mono hba)
  replace HBW := Lib.hid (HBW.out.trans hba)
  obtain ⟨g1, hg1⟩ : ∃ g1, u7.heap.size = g1 := ⟨_, rfl⟩
  rw [hg1] at BX1 ⊢
  clear hg1 hba
  generalize u7.alloc _ = u8 at BX1 HBW R1 SA SB SL ⊢
  have k0 : u8.cell? ⟨g1, 0, none⟩ = some (.slice a1 C0.length c1) := BX1.out.cell rfl
  have k1 : u8.cell? ⟨g1, 1, none⟩ = some (.int .i64 0) := BX1.out.cell rfl
  have k2 : u8.cell? ⟨g1, 2, none⟩ = some (.int .i64 0) := BX1.out.cell rfl
  have k3 : u8.cell? ⟨g1, 3, none⟩ = some (.int .i64 0) := BX1.out.cell rfl
  have hzk := lt_of_cell k0
  go_upto_region 8 with (go_at_call 18; (with_reducible refine Calls.mono (FD1.out _ _ _ R1.out SA.out) ?_); rintro e1 u9 ⟨⟨v9, rfl, hr, _⟩, hb9⟩; obtain ⟨a2, c2, rfl⟩ := hr.form; have R2 := Lib.hid hr; replace R1 := Lib.hid (R1.out.mono hb9); replace SB := Lib.hid (SB.out.mono hb9); replace SL := Lib.hid (SL.out.mono hb9); replace BX1 := Lib.hid (BX1.out.bw hb9); replace HBW := Lib.hid (HBW.out.trans hb9); clear hr hb9 FD1 SA)
  clear k0 k1 k2 k3 hzk
  have BX2 := Lib.hid (Blk.new u9 36 #[.slice a2 C1.length c2, .int .i64 A.length, .int .i64 x1, .int .i64 y1])
  have hba := Bw.alloc (Bw.refl u9) (.cells #[.slice a2 C1.length c2, .int .i64 A.length, .int .i64 x1, .int .i64 y1] 36)
  replace R1 := Lib.hid (R1.out.mono hba)
  replace R2 := Lib.hid (R2.out.mono hba)
  replace SB := Lib.hid (SB.out.mono hba)
  replace SL := Lib.hid (SL.out.mono hba)
  replace BX1 := Lib.hid (BX1.out.bw hba)
  replace HBW := Lib.hid (HBW.out.trans hba)
  obtain ⟨g2, hg2⟩ : ∃ g2, u9.heap.size = g2 := ⟨_, rfl⟩
  rw [hg2] at BX2 ⊢
  clear hg2 hba
  generalize u9.alloc _ = u10 at BX2 HBW R1 R2 SB SL BX1 ⊢
  have k0 : u10.cell? ⟨g2, 0, none⟩ = some (.slice a2 C1.length c2) := BX2.out.cell rfl
  have k1 : u10.cell? ⟨g2, 1, none⟩ = some (.int .i64 A.length) := BX2.out.cell rfl
  have k2 : u10.cell? ⟨g2, 2, none⟩ = some (.int .i64 x1) := BX2.out.cell rfl
  have k3 : u10.cell? ⟨g2, 3, none⟩ = some (.int .i64 y1) := BX2.out.cell rfl
  have hzk := lt_of_cell k0
  go_upto_region 9 with (go_at_call 18; (with_reducible refine Calls.mono (FD2.out _ _ _ R2.out SB.out) ?_); rintro e1 u11 ⟨⟨v11, rfl, hr, _⟩, hb11⟩; obtain ⟨a3, c3, rfl⟩ := hr.form; have R3 := Lib.hid hr; replace R1 := Lib.hid (R1.out.mono hb11); replace SL := Lib.hid (SL.out.mono hb11); replace BX1 := Lib.hid (BX1.out.bw hb11); replace HBW := Lib.hid (HBW.out.trans hb11); clear hr hb11 FD2 SB R2)
  clear k0 k1 k2 k3 hzk BX2
  have BX3 := Lib.hid (Blk.new u11 36 #[.slice a3 C2.length c3, .int .i64 N, .int .i64 x2, .int .i64 y2])
  have hba := Bw.alloc (Bw.refl u11) (.cells #[.slice a3 C2.length c3, .int .i64 N, .int .i64 x2, .int .i64 y2] 36)
  replace R1 := Lib.hid (R1.out.mono hba)
  replace R3 := Lib.hid (R3.out.mono hba)
  replace SL := Lib.hid (SL.out.mono hba)
  replace BX1 := Lib.hid (BX1.out.bw hba)
  replace HBW := Lib.hid (HBW.out.trans hba)
  obtain ⟨g3, hg3⟩ : ∃ g3, u11.heap.size = g3 := ⟨_, rfl⟩
  rw [hg3] at BX3 ⊢
  clear hg3 hba
  generalize u11.alloc _ = u12 at BX3 HBW R1 R3 SL BX1 ⊢
  have k0 : u12.cell? ⟨g1, 0, none⟩ = some (.slice a1 C0.length c1) := BX1.out.cell rfl
  have k1 : u12.cell? ⟨g1, 1, none⟩ = some (.int .i64 0) := BX1.out.cell rfl
  have k2 : u12.cell? ⟨g1, 2, none⟩ = some (.int .i64 0) := BX1.out.cell rfl
  have k3 : u12.cell? ⟨g1, 3, none⟩ = some (.int .i64 0) := BX1.out.cell rfl
  have hzk := lt_of_cell k0
  go_upto_region 10 with (go_at_call 18; (with_reducible refine Calls.mono (FD3.out _ _ _ R1.out SL.out) ?_); rintro e1 u13 ⟨⟨v13, rfl, hr, _⟩, hb13⟩; obtain ⟨a4, c4, rfl⟩ := hr.form; have R4 := Lib.hid hr; replace R3 := Lib.hid (R3.out.mono hb13); replace SL := Lib.hid (SL.out.mono hb13); replace BX3 := Lib.hid (BX3.out.bw hb13); replace HBW := Lib.hid (HBW.out.trans hb13); clear hr hb13 FD3 R1)
  clear k0 k1 k2 k3 hzk BX1
  have BX4 := Lib.hid (Blk.new u13 36 #[.slice a4 C2.length c4, .int .i64 N, .int .i64 x2, .int .i64 y2])
  have hba := Bw.alloc (Bw.refl u13) (.cells #[.slice a4 C2.length c4, .int .i64 N, .int .i64 x2, .int .i64 y2] 36)
  replace R3 := Lib.hid (R3.out.mono hba)
  replace R4 := Lib.hid (R4.out.mono hba)
  replace SL := Lib.hid (SL.out.mono hba)
  replace BX3 := Lib.hid (BX3.out.bw hba)
  replace HBW := Lib.hid (HBW.out.trans hba)
  obtain ⟨g4, hg4⟩ : ∃ g4, u13.heap.size = g4 := ⟨_, rfl⟩
  rw [hg4] at BX4 ⊢
  clear hg4 hba
  generalize u13.alloc _ = u14 at BX4 HBW R3 R4 SL BX3 ⊢
  have k0 : u14.cell? ⟨g3, 0, none⟩ = some (.slice a3 C2.length c3) := BX3.out.cell rfl
  have k1 : u14.cell? ⟨g3, 1, none⟩ = some (.int .i64 N) := BX3.out.cell rfl
  have k2 : u14.cell? ⟨g3, 2, none⟩ = some (.int .i64 x2) := BX3.out.cell rfl
  have k3 : u14.cell? ⟨g3, 3, none⟩ = some (.int .i64 y2) := BX3.out.cell rfl
  have hzk := lt_of_cell k0
  have m0 : u14.cell? ⟨g4, 0, none⟩ = some (.slice a4 C2.length c4) := BX4.out.cell rfl
  have m1 : u14.cell? ⟨g4, 1, none⟩ = some (.int .i64 N) := BX4.out.cell rfl
  have m2 : u14.cell? ⟨g4, 2, none⟩ = some (.int .i64 x2) := BX4.out.cell rfl
  have m3 : u14.cell? ⟨g4, 3, none⟩ = some (.int .i64 y2) := BX4.out.cell rfl
  have hzm := lt_of_cell m0
  go_wp2_with (go_at_call 22; (with_reducible refine Calls.mono (same_any _ _ _ _ _ _ _ R3.out R4.out) ?_); rintro e1 u15 ⟨rfl, hb15⟩; replace R4 := Lib.hid (R4.out.mono hb15); replace SL := Lib.hid (SL.out.mono hb15); replace BX4 := Lib.hid (BX4.out.bw hb15); replace HBW := Lib.hid (HBW.out.trans hb15); replace m0 := hb15.cell' m0; replace m1 := hb15.cell' m1; replace m2 := hb15.cell' m2; replace m3 := hb15.cell' m3; clear hb15 R3)
  clear k0 k1 k2 k3 hzk BX3
  rw [HC2.out] at R4 m0
  go_loopg [19, 21] 200 (fun gg s19 s21 wr => ∃ j : Nat, (j + 1 ≤ N ∨ j = 0) ∧ N - j ≤ gg ∧ s21 = .int .i64 ((j : Int) + 1) ∧ s19 = .int .i64 (cntTo (A ++ B) (j + 1)) ∧ Hid (Bw u15 wr))
  case atStart => exact ⟨0, .inr rfl, by omega, by go_num, by simp [cntTo], Lib.hid (Bw.refl _)⟩
  case round =>
    obtain ⟨j, hj, hgg, rfl, rfl, HW⟩ := hrel
    have hcl := cntTo_le (A ++ B) (j + 1)
    by_cases hlt : j + 1 < N
    · have hkz : (j : Int) + 1 < N := by omega
      obtain ⟨b1, o1, cc, hv1, hb1, hd1⟩ := SL.out.at (by have := HNL.out; omega)
      injection hv1 with i1 i2 i3; subst i1; clear i2 i3
      have d1 := hd1 j (by have := HNL.out; omega)
      have d2 := hd1 (j + 1) (by have := HNL.out; omega)
      have hb8 := HL.out ((A ++ B).getD j (0, 0)) (getD_mem _ _ _ (by have := HNL.out; omega))
      have hb9 := HL.out ((A ++ B).getD (j + 1) (0, 0)) (getD_mem _ _ _ (by have := HNL.out; omega))
      have HC := Lib.hid (show cntTo (A ++ B) (j + 1 + 1) = cntTo (A ++ B) (j + 1) + (if scl ((A ++ B).getD j (0, 0)) ((A ++ B).getD (j + 1) (0, 0)) < 0 then 1 else 0) by rw [cntTo]; simp)
      have e0 := fun p' : Ext wr => Ext.cell' (HW.out.cell' d1.1) p'
      have e1 := fun p' : Ext wr => Ext.cell' (HW.out.cell' d1.2) p'
      have e2 := fun p' : Ext wr => Ext.cell' (HW.out.cell' d2.1) p'
      have e3 := fun p' : Ext wr => Ext.cell' (HW.out.cell' d2.2) p'
      clear hd1 hb1 d1 d2
      generalize (A ++ B).getD j (0, 0) = P at *
      generalize (A ++ B).getD (j + 1) (0, 0) = Q at *
      generalize cntTo (A ++ B) (j + 1) = cn at *
      obtain ⟨p, q⟩ := P
      obtain ⟨r, s⟩ := Q
      unfold scl at HC
      simp only at e0 e1 e2 e3 hb8 hb9 HC
      obtain ⟨w1, w2, w3, w4⟩ := hb8
      obtain ⟨w5, w6, w7, w8⟩ := hb9
      have ⟨z1, z2⟩ := mul_bd3 p r 100 100 (by omega) (by omega) (by omega) (by omega)
      have ⟨z3, z4⟩ := mul_bd3 q s 100 100 (by omega) (by omega) (by omega) (by omega)
      by_cases hs : p * r + q * s < 0
      · have HC2b := Lib.hid (show cntTo (A ++ B) (j + 1 + 1) = cn + 1 by rw [HC.out, if_pos hs])
        clear HC
        go_wp2
        (refine wp_region_quiet_ext (by kernel_rfl) (by kernel_rfl) ?_; (repeat (go_big_quiet_step ((fail)))); refine wpQuiet_nil ?_; rintro wq ⟨⟨_, hbq⟩, rfl⟩; obtain ⟨hccq, hffq⟩ := Bw.cells hbq; have hszq := Bw.size hbq)
        clear e0 e1 e2 e3
        go_wp2
        go_roundg (N - (j + 1))
        case measure => omega
        case rel => exact ⟨j + 1, .inl (by omega), by omega, by go_num, by rw [HC2b.out]; go_num, Lib.hid (HW.out.trans hbq)⟩
      · have HC2b := Lib.hid (show cntTo (A ++ B) (j + 1 + 1) = cn by rw [HC.out, if_neg hs]; rfl)
        clear HC
        go_wp2
        (refine wp_region_quiet_ext (by kernel_rfl) (by kernel_rfl) ?_; (repeat (go_big_quiet_step ((fail)))); refine wpQuiet_nil ?_; rintro wq ⟨⟨_, hbq⟩, rfl⟩; obtain ⟨hccq, hffq⟩ := Bw.cells hbq; have hszq := Bw.size hbq)
        clear e0 e1 e2 e3
        go_wp2
        go_roundg (N - (j + 1))
        case measure => omega
        case rel => exact ⟨j + 1, .inl (by omega), by omega, by go_num, by rw [HC2b.out], Lib.hid (HW.out.trans hbq)⟩
    · have hkz : ¬ (j : Int) + 1 < N := by omega
      have hJ : cntTo (A ++ B) (j + 1) = cntTo (A ++ B) N := by
        by_cases h9 : N = 0
        · have : j = 0 := by omega
          subst this; rw [h9]; simp [cntTo]
        · rw [show j + 1 = N by omega]
      rw [hJ] at hcl ⊢
      have hSL := HSUM.out
      generalize cntTo (A ++ B) N = cn at hcl hSL ⊢
      have hcn : cn ≤ 120 := by omega
      have HS := Lib.hid hSL
      clear hJ hcl hSL HSUM SL
      go_wp2
      go_loopg [20, 22] 20 (fun gg s20 s22 wr => ∃ k : Nat, k ≤ n ∧ n - k ≤ gg ∧ s22 = .int .i64 k ∧ s20 = .int .i64 (sumL (C2.take k)) ∧ Hid (Bw u15 wr))
      case atStart => exact ⟨0, Nat.zero_le _, by omega, by go_num, by simp [sumL], HW⟩
      case round =>
        obtain ⟨k, hk, hgg, rfl, rfl, HW⟩ := hrel
        have y0 := HW.out.cell' m0
        by_cases hlt : k < n
        · have hkz : (k : Int) < n := by omega
          obtain ⟨b4, o4, cc, hv1, hb1, hd1⟩ := R4.out.at (by have := HC2.out; omega)
          injection hv1 with i1 i2 i3; subst i1; clear i2 i3
          have d1 := HW.out.cell' (hd1 k (by have := HC2.out; omega))
          have q1 := sumL_take C2 HPOS.out k
          have q2 := sumL_take C2 HPOS.out (k + 1)
          rw [HS.out] at q1 q2
          have q3 := sumL_succ C2 k (by have := HC2.out; omega)
          have HQ3 := Lib.hid q3
          rw [q3] at q2
          clear hd1 hb1 q3
          generalize C2.getD k 0 = z at d1 q2 HQ3
          generalize sumL (C2.take k) = t at q1 q2 HQ3 ⊢
          have hz9 : -200 ≤ z ∧ z ≤ 200 := by omega
          go_wp2
          go_roundg (n - (k + 1))
          case measure => omega
          case rel => exact ⟨k + 1, by omega, by omega, by go_num, by rw [HQ3.out], HW⟩
        · obtain rfl : k = n := by omega
          have hkz : ¬ (k : Int) < k := by omega
          rw [List.take_of_length_le (by rw [HC2.out]; exact Nat.le_refl _), HS.out]
          have hn3 : (k : Int) = 1 + (m : Int) := by have := HM.out; omega
          have e0 := fun p' : Ext wr => Ext.cell' y0 p'
          go_wp2
          (refine wp_region_quiet_ext (by kernel_rfl) (by kernel_rfl) ?_; (repeat (go_big_quiet_step ((go_at_call 21; with_reducible refine Calls.ext_of (TU.out _))))); refine wpQuiet_nil ?_; rintro wq ⟨⟨_, hbq⟩, rfl⟩; obtain ⟨hccq, hffq⟩ := Bw.cells hbq; have hszq := Bw.size hbq)
          clear e0
          go_wp2
          go_ret
          exact ⟨rfl, HBW.out.trans (HW.out.trans hbq)⟩
theorem law_parts (p0 : Int) (zs ms : List Int) (v1 v2 : Value) (w : World) (hv1 : RdI w v1 zs) (hv2 : RdI w v2 ms) :
    Calls Try.prog 5 #[.int .i64 p0, v1, v2] w fun r w' => r = .returned (.bool true) ∧ Bw w w' := by
  by_cases hl : zs.length ≤ 60 ∧ ms.length ≤ 60
  · have hm := bel_bd p0 20 (by omega)
    exact parts_main (bel p0 20).toNat p0 (by omega) zs ms v1 v2 w hv1 hv2 hl.1 hl.2
  · obtain ⟨ad1, cap1, rfl⟩ := hv1.form
    obtain ⟨ad2, cap2, rfl⟩ := hv2.form
    clear hv1 hv2
    by_cases h1 : zs.length ≤ 60
    · have g1 : ¬ (60 : Int) < zs.length := by omega
      have g2 : (60 : Int) < ms.length := by omega
      clear hl
      go_enter Try.func5, Try.ntmps5
      go_wp2_with (go_at_call 4; refine (law_known _).mono ?_; rintro e1 u1 ⟨rfl, hb1⟩)
      go_ret
      exact ⟨rfl, hb1⟩
    · have g1 : (60 : Int) < zs.length := by omega
      clear hl
      go_enter Try.func5, Try.ntmps5
      go_wp2_with (go_at_call 4; refine (law_known _).mono ?_; rintro e1 u1 ⟨rfl, hb1⟩)
      go_ret
      exact ⟨rfl, hb1⟩
end Go.Proofs.Sky

