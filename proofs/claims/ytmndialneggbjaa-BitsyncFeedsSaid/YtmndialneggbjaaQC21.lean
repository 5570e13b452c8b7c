/-
  lemmas for the theorems of this claim. No conditions beyond those written in the statements.
-/
import Derived.Test.YtmndialneggbjaaPC21
import Derived.Test.YtmndialneggbjaaQA21
import Derived.Test.YtmndialneggbjaaQB21
set_option linter.unusedVariables false
set_option linter.unusedSimpArgs false
set_option linter.unnecessarySimpa false
namespace Go.Proofs.Sky
open Go Go.RowKit Go.Shelf
set_option maxHeartbeats 4000000
set_option maxRecDepth 4000
theorem turned_main (m t : Nat) (F : Int) (p0 t0 f0 : Int) (hm : bel p0 20 = (m : Int)) (ht : bel t0 (1 + (m : Int)) = (t : Int)) (hF : 1 + bel f0 9 = F) (zs : List Int) (v1 : Value) (w : World) (hv1 : RdI w v1 zs) (hl1 : zs.length ≤ 60) :
    Calls Try.prog 6 #[.int .i64 p0, .int .i64 t0, .int .i64 f0, v1] w fun r w' => r = .returned (.bool true) ∧ Bw w w' := by
  have HV1 := Lib.hid hv1
  obtain ⟨ad1, cap1, rfl⟩ := hv1.form
  clear hv1
  have hm2 := bel_bd p0 20 (by omega)
  rw [hm] at hm2
  have ht2 := bel_bd t0 (1 + (m : Int)) (by omega)
  rw [ht] at ht2
  have hf2 := bel_bd f0 9 (by omega)
  have TU1 := Lib.hid (fun W => Turn_any p0 20 W (by omega) (by omega))
  rw [hm] at TU1
  have TU2 := Lib.hid (fun W => Turn_any t0 (1 + (m : Int)) W (by omega) (by omega))
  rw [ht] at TU2
  have TU3 := Lib.hid (fun W => Turn_any f0 9 W (by omega) (by omega))
  obtain ⟨F0, hF0⟩ : ∃ F0, F0 = bel f0 9 := ⟨_, rfl⟩
  rw [← hF0] at TU3 hF hf2
  subst hF
  obtain ⟨n, hn⟩ : ∃ n, n = m + 1 := ⟨_, rfl⟩
  have hn1 : 1 ≤ n := by omega
  have hn2 : n ≤ 20 := by omega
  have hnz : (n : Int) = 1 + (m : Int) := by omega
  have NW := Lib.hid (fun W => by have h := New_ok n W hn1 hn2; rw [hnz] at h; unfold SyP at h; exact h)
  have SM1 := Lib.hid (fun W v (hW : RdI W v zs) => sums_any zs v W hW hl1)
  have hA : ∀ a ∈ zs.map suP, -100 ≤ a.1 ∧ a.1 ≤ 100 ∧ -100 ≤ a.2 ∧ a.2 ≤ 100 := fun a ha => by
    obtain ⟨z, _, rfl⟩ := List.mem_map.1 ha
    have := suP_bd z
    omega
  have hla : (zs.map suP).length ≤ 60 := by rw [List.length_map]; exact hl1
  have hg1 : ¬ (60 : Int) < zs.length := by omega
  generalize zs.map suP = A at *
  obtain ⟨C1, x1, y1, x2, y2, x3, y3, bl, er, f1, f2, f3, r1, r2, r3, hcase⟩ := turned_plain n t (1 + F0) hn1 hn2 (by omega) (by omega) (by omega) A hA hla
  have FD1 := Lib.hid (fun W V vl (h1 : RdI W V (List.replicate n 0)) (h2 : RdS W vl A) => by have h := Feed_any (List.replicate n 0) V 0 0 0 A vl W h1 h2; rw [f1] at h; unfold SyP at h; exact h)
  have FD2 := Lib.hid (fun W V vl (h1 : RdI W V (List.replicate n 0)) (h2 : RdS W vl (A.map gT)) => by have h := Feed_any (List.replicate n 0) V 0 0 0 (A.map gT) vl W h1 h2; rw [f2] at h; unfold SyP at h; exact h)
  have FD3 := Lib.hid (fun W V vl (h1 : RdI W V (List.replicate n 0)) (h2 : RdS W vl (A.map (gM (1 + F0)))) => by have h := Feed_any (List.replicate n 0) V 0 0 0 (A.map (gM (1 + F0))) vl W h1 h2; rw [f3] at h; unfold SyP at h; exact h)
  have RD1 := Lib.hid (fun W vl (h1 : RdS W vl A) (h2 : Capd vl) => by have h := Read_all A vl n t W h1 h2; rw [r1] at h; unfold ReP at h; rw [hnz] at h; exact h)
  have RD2 := Lib.hid (fun W vl (h1 : RdS W vl (A.map gT)) (h2 : Capd vl) => by have h := Read_all (A.map gT) vl n t W h1 h2; rw [r2] at h; unfold ReP at h; rw [hnz] at h; exact h)
  have RD3 := Lib.hid (fun W vl (h1 : RdS W vl (A.map (gM (1 + F0)))) (h2 : Capd vl) => by have h := Read_all (A.map (gM (1 + F0))) vl n t W h1 h2; rw [r3] at h; unfold ReP at h; rw [hnz] at h; exact h)
  rw [hnz] at hcase
  have HCS := Lib.hid hcase
  have HAA := Lib.hid hA
  obtain ⟨n0, hn0⟩ : ∃ n0, n0 = A.length := ⟨_, rfl⟩
  rw [← hn0] at FD1 FD2 FD3 HCS hla
  have HN0 := Lib.hid hn0
  generalize List.replicate n (0 : Int) = C0 at *
  obtain ⟨F, hF⟩ : ∃ F, F = 1 + F0 := ⟨_, rfl⟩
  have hFb : 1 ≤ F ∧ F ≤ 9 := by omega
  rw [← hF] at FD3 RD3
  have HFF := Lib.hid hF
  clear f1 f2 f3 r1 r2 r3 hcase hA hn0 hm ht hnz hF hF0 hn hn1 hn2
  have HBW := Lib.hid (Bw.refl w)
  go_enter Try.func6, Try.ntmps6
  go_wp2_with (first | (go_at_call 4; (with_reducible refine Calls.mono (law_known _) ?_); rintro e1 u1 ⟨rfl, hb1⟩; replace HBW := Lib.hid (HBW.out.trans hb1); clear hb1) | (go_at_call 21; (with_reducible refine Calls.mono (TU1.out _) ?_); rintro e1 u2 ⟨rfl, hb2⟩; replace HBW := Lib.hid (HBW.out.trans hb2); clear hb2 TU1) | (go_at_call 21; (with_reducible refine Calls.mono (TU2.out _) ?_); rintro e1 u3 ⟨rfl, hb3⟩; replace HBW := Lib.hid (HBW.out.trans hb3); clear hb3 TU2) | (go_at_call 21; (with_reducible refine Calls.mono (TU3.out _) ?_); rintro e1 u4 ⟨rfl, hb4⟩; replace HBW := Lib.hid (HBW.out.trans hb4); clear hb4 TU3) | (go_at_call 20; (with_reducible refine Calls.mono (SM1.out _ _ ?_) ?_); (focus exact HV1.out.mono HBW.out); rintro e1 u5 ⟨⟨va, rfl, hr, _, hcp⟩, hb5⟩; obtain ⟨aA, cA, rfl⟩ := hr.form; have SA := Lib.hid hr; have CA := Lib.hid hcp; replace HBW := Lib.hid (HBW.out.trans hb5); clear hr hcp hb5 SM1))
  obtain ⟨BB, hBB⟩ : ∃ BB, u5.heap.size = BB := ⟨_, rfl⟩
  have HB := Lib.hid hBB
  clear hBB
  rw [← HFF.out]
  rw [← HN0.out] at SA CA ⊢
  go_loopg [11, 12, 13] 60 (fun gg s11 s12 s13 wr => ∃ k : Nat, k ≤ n0 ∧ n0 - k ≤ gg ∧ s13 = .int .i64 k ∧ Hid (Bw u5 wr) ∧ Hid (wr.ownsRow BB 34 2 s11 ((A.take k).map gT).length (flat ((A.take k).map gT))) ∧ Hid (wr.ownsRow BB 34 2 s12 ((A.take k).map (gM F)).length (flat ((A.take k).map (gM F)))) ∧ Hid (Apart s11 s12))
  case atStart => exact ⟨0, Nat.zero_le _, by omega, rfl, Lib.hid (Bw.refl _), Lib.hid (World.ownsRow_nil _ _ _ _), Lib.hid (World.ownsRow_nil _ _ _ _), Lib.hid (fun g h => by cases h)⟩
  case round =>
    obtain ⟨k, hk, hgg, rfl, HW, O1, O2, HP⟩ := hrel
    by_cases hlt : k < n0
    · have hkz : (k : Int) < n0 := by omega
      obtain ⟨b1, o1, cc, hv1, hb1, hd1⟩ := SA.out.at (by have := HN0.out; omega)
      injection hv1 with i1 i2 i3; subst i1; clear i2 i3
      have hd1 := hd1 k (by have := HN0.out; omega)
      have hb8 := HAA.out (A.getD k (0, 0)) (getD_mem _ _ _ (by have := HN0.out; omega))
      have hTK : ∀ g : Int × Int → Int × Int, (A.take (k + 1)).map g = (A.take k).map g ++ [g (A.getD k (0, 0))] := fun g => by
        have hk2 : k < A.length := by have := HN0.out; omega
        rw [List.take_add_one, List.map_append, List.getD_eq_getElem?_getD, List.getElem?_eq_getElem hk2]; rfl
      have HT1 := Lib.hid (hTK gT)
      have HT2 := Lib.hid (hTK (gM F))
      have HLNO1 := Lib.hid (show ((A.take k).map gT).length = k by rw [List.length_map, List.length_take]; have := HN0.out; omega)
      have HLNO2 := Lib.hid (show ((A.take k).map (gM F)).length = k by rw [List.length_map, List.length_take]; have := HN0.out; omega)
      clear hTK hb1
      generalize (A.take k).map gT = l1 at O1 HT1 HLNO1
      generalize (A.take k).map (gM F) = l2 at O2 HT2 HLNO2
      generalize A.getD k (0, 0) = P at hd1 hb8 HT1 HT2
      obtain ⟨p, q⟩ := P
      simp only [gT, gM] at hd1 hb8 HT1 HT2
      obtain ⟨w1, w2, w3, w4⟩ := hb8
      have f1 := Lib.hid hd1.1
      have f2 := Lib.hid hd1.2
      clear hd1
      have ⟨z1, z2⟩ := mul_bd3 (-F) p 9 100 (by omega) (by omega) (by omega) (by omega)
      have ⟨z3, z4⟩ := mul_bd3 (-F) q 9 100 (by omega) (by omega) (by omega) (by omega)
      have e0 := fun p' : Ext wr => Ext.cell' (HW.out.cell' f1.out) p'
      have e1 := fun p' : Ext wr => Ext.cell' (HW.out.cell' f2.out) p'
      go_wp2
      (refine wp_region_ext_float 13 _ rfl rfl (by kernel_rfl) (by kernel_rfl) (fun _ _ _ _ h => h) ?_; simp only [Nat.reduceSub, List.take_succ_cons, List.take_zero, List.drop_succ_cons, List.drop_zero]; go_frame; (repeat (go_big_quiet_step ((fail)))); refine wpQuiet_nil ?_; rintro wa ⟨⟨_, hbq⟩, rfl⟩; obtain ⟨hccq, hffq⟩ := Bw.cells hbq; have hszq := Bw.size hbq)
      replace O1 := Lib.hid (own_bw O1.out hbq)
      replace O2 := Lib.hid (own_bw O2.out hbq)
      replace HW := Lib.hid (HW.out.trans hbq)
      clear e0 e1 hbq hccq hffq hszq
      go_wp2_with (at_builtin; have hba := Bw.alloc (Bw.refl wa) (.cells #[.int .i64 (-q), .int .i64 (p)] 34); have NB := Lib.hid (Blk.new wa 34 #[.int .i64 (-q), .int .i64 (p)]); replace O1 := Lib.hid (own_bw O1.out hba); replace O2 := Lib.hid (own_bw O2.out hba); replace HW := Lib.hid (HW.out.trans hba); clear hba; refine wpList_append_pair_beside rfl (.tmp 47) (.tmp 60) _ rfl BB 34 Try.underlying22 infoSam _ l1 (-q) (p) rfl O1.out _ rfl (NB.out.cell rfl) (NB.out.cell rfl) (by have := HLNO1.out; omega) (by have := HW.out.size; have := HB.out; omega) O2.out HP.out ?_; intro v7 w7 hown hgr hot hap; replace HW := Lib.hid (Bw.grownN HB.out HW.out O1.out hgr); replace O1 := Lib.hid hown; replace O2 := Lib.hid hot; clear hown hgr hot NB; replace HP := Lib.hid hap; clear hap)
      have e0 := fun p' : Ext w7 => Ext.cell' (HW.out.cell' f1.out) p'
      have e1 := fun p' : Ext w7 => Ext.cell' (HW.out.cell' f2.out) p'
      (refine wp_region_ext_float 18 _ rfl rfl (by kernel_rfl) (by kernel_rfl) (fun _ _ _ _ h => h) ?_; simp only [Nat.reduceSub, List.take_succ_cons, List.take_zero, List.drop_succ_cons, List.drop_zero]; go_frame; (repeat (go_big_quiet_step ((fail)))); refine wpQuiet_nil ?_; rintro wb ⟨⟨_, hbq⟩, rfl⟩; obtain ⟨hccq, hffq⟩ := Bw.cells hbq; have hszq := Bw.size hbq)
      replace O1 := Lib.hid (own_bw O1.out hbq)
      replace O2 := Lib.hid (own_bw O2.out hbq)
      replace HW := Lib.hid (HW.out.trans hbq)
      clear e0 e1 hbq hccq hffq hszq
      go_wp2_with (at_builtin; have hba := Bw.alloc (Bw.refl wb) (.cells #[.int .i64 (-F * p), .int .i64 (-F * q)] 34); have NB := Lib.hid (Blk.new wb 34 #[.int .i64 (-F * p), .int .i64 (-F * q)]); replace O1 := Lib.hid (own_bw O1.out hba); replace O2 := Lib.hid (own_bw O2.out hba); replace HW := Lib.hid (HW.out.trans hba); clear hba; refine wpList_append_pair_beside rfl (.tmp 62) (.tmp 80) _ rfl BB 34 Try.underlying22 infoSam _ l2 (-F * p) (-F * q) rfl O2.out _ rfl (NB.out.cell rfl) (NB.out.cell rfl) (by have := HLNO2.out; omega) (by have := HW.out.size; have := HB.out; omega) O1.out (fun g h1 h2 => HP.out g h2 h1) ?_; intro v8 w8 hown hgr hot hap; replace HW := Lib.hid (Bw.grownN HB.out HW.out O2.out hgr); replace O2 := Lib.hid hown; replace O1 := Lib.hid hot; clear hown hgr hot NB; replace HP := Lib.hid hap; clear hap)
      go_roundg (n0 - (k + 1))
      case measure => omega
      case rel => exact ⟨k + 1, by omega, by omega, by go_num, HW, Lib.hid (by rw [HT1.out]; exact O1.out), Lib.hid (by rw [HT2.out]; exact O2.out), Lib.hid (fun g h1 h2 => HP.out g h2 h1)⟩
    · obtain rfl : n0 = k := by omega
      have hkz : ¬ (n0 : Int) < n0 := by omega
      rw [List.take_of_length_le (by have := HN0.out; omega)] at O1 O2
      have hb1 := (own_rdS2 O1.out (by rw [List.length_map]; have := HN0.out; omega)).1
      have hb2 := (own_rdS2 O2.out (by rw [List.length_map]; have := HN0.out; omega)).1
      have CB := Lib.hid (own_capd O1.out)
      have CC := Lib.hid (own_capd O2.out)
      obtain ⟨aB, cB, rfl⟩ := hb1.form
      obtain ⟨aC, cC, rfl⟩ := hb2.form
      rw [List.length_map, ← HN0.out] at hb1 hb2 CB CC ⊢
      have SB := Lib.hid hb1
      have SC := Lib.hid hb2
      replace SA := Lib.hid (SA.out.mono HW.out)
      replace HBW := Lib.hid (HBW.out.trans HW.out)
      clear hb1 hb2 O1 O2 HP HW
      simp only [List.length_map, ← HN0.out]
      go_upto_region 14 with (go_at_call 16; (with_reducible refine Calls.mono (NW.out _) ?_); rintro e1 u7 ⟨⟨v7, rfl, hr, _⟩, hb7⟩; obtain ⟨a1, c1, rfl⟩ := hr.form; have R1 := Lib.hid hr; replace SA := Lib.hid (SA.out.mono hb7); replace SB := Lib.hid (SB.out.mono hb7); replace SC := Lib.hid (SC.out.mono hb7); replace HBW := Lib.hid (HBW.out.trans hb7); clear hr hb7 NW)
      have BX1 := Lib.hid (Blk.new u7 36 #[.slice a1 C0.length c1, .int .i64 0, .int .i64 0, .int .i64 0])
      have hba := Bw.alloc (Bw.refl u7) (.cells #[.slice a1 C0.length c1, .int .i64 0, .int .i64 0, .int .i64 0] 36)
      replace R1 := Lib.hid (R1.out.mono hba)
      replace SA := Lib.hid (SA.out.mono hba)
      replace SB := Lib.hid (SB.out.mono hba)
      replace SC := Lib.hid (SC.out.mono hba)
      replace HBW := Lib.hid (HBW.out.trans hba)
      obtain ⟨g1, hg1⟩ : ∃ g1, u7.heap.size = g1 := ⟨_, rfl⟩
      rw [hg1] at BX1 ⊢
      clear hg1 hba
      generalize u7.alloc _ = u8 at BX1 HBW R1 SA SB SC ⊢
      have k0 : u8.cell? ⟨g1, 0, none⟩ = some (.slice a1 C0.length c1) := BX1.out.cell rfl
      have k1 : u8.cell? ⟨g1, 1, none⟩ = some (.int .i64 0) := BX1.out.cell rfl
      have k2 : u8.cell? ⟨g1, 2, none⟩ = some (.int .i64 0) := BX1.out.cell rfl
      have k3 : u8.cell? ⟨g1, 3, none⟩ = some (.int .i64 0) := BX1.out.cell rfl
      have hzk := lt_of_cell k0
      go_upto_region 15 with (go_at_call 18; (with_reducible refine Calls.mono (FD1.out _ _ _ R1.out SA.out) ?_); rintro e1 u9 ⟨⟨v9, rfl, hr, _⟩, hb9⟩; obtain ⟨a2, c2, rfl⟩ := hr.form; have R2 := Lib.hid hr; replace R1 := Lib.hid (R1.out.mono hb9); replace SA := Lib.hid (SA.out.mono hb9); replace SB := Lib.hid (SB.out.mono hb9); replace SC := Lib.hid (SC.out.mono hb9); replace BX1 := Lib.hid (BX1.out.bw hb9); replace HBW := Lib.hid (HBW.out.trans hb9); clear hr hb9 FD1)
      clear k0 k1 k2 k3 hzk
      have BX2 := Lib.hid (Blk.new u9 36 #[.slice a2 C1.length c2, .int .i64 n0, .int .i64 x1, .int .i64 y1])
      have hba := Bw.alloc (Bw.refl u9) (.cells #[.slice a2 C1.length c2, .int .i64 n0, .int .i64 x1, .int .i64 y1] 36)
      replace R1 := Lib.hid (R1.out.mono hba)
      replace R2 := Lib.hid (R2.out.mono hba)
      replace SA := Lib.hid (SA.out.mono hba)
      replace SB := Lib.hid (SB.out.mono hba)
      replace SC := Lib.hid (SC.out.mono hba)
      replace BX1 := Lib.hid (BX1.out.bw hba)
      replace HBW := Lib.hid (HBW.out.trans hba)
      obtain ⟨g2, hg2⟩ : ∃ g2, u9.heap.size = g2 := ⟨_, rfl⟩
      rw [hg2] at BX2 ⊢
      clear hg2 hba
      generalize u9.alloc _ = u10 at BX2 HBW R1 R2 SA SB SC BX1 ⊢
      have k0 : u10.cell? ⟨g1, 0, none⟩ = some (.slice a1 C0.length c1) := BX1.out.cell rfl
      have k1 : u10.cell? ⟨g1, 1, none⟩ = some (.int .i64 0) := BX1.out.cell rfl
      have k2 : u10.cell? ⟨g1, 2, none⟩ = some (.int .i64 0) := BX1.out.cell rfl
      have k3 : u10.cell? ⟨g1, 3, none⟩ = some (.int .i64 0) := BX1.out.cell rfl
      have hzk := lt_of_cell k0
      go_upto_region 16 with (go_at_call 18; (with_reducible refine Calls.mono (FD2.out _ _ _ R1.out SB.out) ?_); rintro e1 u11 ⟨⟨v9, rfl, hr, _⟩, hb9⟩; obtain ⟨a3, c3, rfl⟩ := hr.form; have R3 := Lib.hid hr; replace R1 := Lib.hid (R1.out.mono hb9); replace R2 := Lib.hid (R2.out.mono hb9); replace SA := Lib.hid (SA.out.mono hb9); replace SB := Lib.hid (SB.out.mono hb9); replace SC := Lib.hid (SC.out.mono hb9); replace BX1 := Lib.hid (BX1.out.bw hb9); replace BX2 := Lib.hid (BX2.out.bw hb9); replace HBW := Lib.hid (HBW.out.trans hb9); clear hr hb9 FD2)
      clear k0 k1 k2 k3 hzk
      have BX3 := Lib.hid (Blk.new u11 36 #[.slice a3 C1.length c3, .int .i64 n0, .int .i64 x2, .int .i64 y2])
      have hba := Bw.alloc (Bw.refl u11) (.cells #[.slice a3 C1.length c3, .int .i64 n0, .int .i64 x2, .int .i64 y2] 36)
      replace R1 := Lib.hid (R1.out.mono hba)
      replace R2 := Lib.hid (R2.out.mono hba)
      replace R3 := Lib.hid (R3.out.mono hba)
      replace SA := Lib.hid (SA.out.mono hba)
      replace SB := Lib.hid (SB.out.mono hba)
      replace SC := Lib.hid (SC.out.mono hba)
      replace BX1 := Lib.hid (BX1.out.bw hba)
      replace BX2 := Lib.hid (BX2.out.bw hba)
      replace HBW := Lib.hid (HBW.out.trans hba)
      obtain ⟨g3, hg3⟩ : ∃ g3, u11.heap.size = g3 := ⟨_, rfl⟩
      rw [hg3] at BX3 ⊢
      clear hg3 hba
      generalize u11.alloc _ = u12 at BX3 HBW R1 R2 R3 SA SB SC BX1 BX2 ⊢
      have k0 : u12.cell? ⟨g1, 0, none⟩ = some (.slice a1 C0.length c1) := BX1.out.cell rfl
      have k1 : u12.cell? ⟨g1, 1, none⟩ = some (.int .i64 0) := BX1.out.cell rfl
      have k2 : u12.cell? ⟨g1, 2, none⟩ = some (.int .i64 0) := BX1.out.cell rfl
      have k3 : u12.cell? ⟨g1, 3, none⟩ = some (.int .i64 0) := BX1.out.cell rfl
      have hzk := lt_of_cell k0
      go_upto_region 17 with (go_at_call 18; (with_reducible refine Calls.mono (FD3.out _ _ _ R1.out SC.out) ?_); rintro e1 u13 ⟨⟨v9, rfl, hr, _⟩, hb9⟩; obtain ⟨a4, c4, rfl⟩ := hr.form; have R4 := Lib.hid hr; replace R2 := Lib.hid (R2.out.mono hb9); replace R3 := Lib.hid (R3.out.mono hb9); replace SA := Lib.hid (SA.out.mono hb9); replace SB := Lib.hid (SB.out.mono hb9); replace SC := Lib.hid (SC.out.mono hb9); replace BX2 := Lib.hid (BX2.out.bw hb9); replace BX3 := Lib.hid (BX3.out.bw hb9); replace HBW := Lib.hid (HBW.out.trans hb9); clear hr hb9 FD3 R1)
      clear k0 k1 k2 k3 hzk BX1
      have BX4 := Lib.hid (Blk.new u13 36 #[.slice a4 C1.length c4, .int .i64 n0, .int .i64 x3, .int .i64 y3])
      have hba := Bw.alloc (Bw.refl u13) (.cells #[.slice a4 C1.length c4, .int .i64 n0, .int .i64 x3, .int .i64 y3] 36)
      replace R2 := Lib.hid (R2.out.mono hba)
      replace R3 := Lib.hid (R3.out.mono hba)
      replace R4 := Lib.hid (R4.out.mono hba)
      replace SA := Lib.hid (SA.out.mono hba)
      replace SB := Lib.hid (SB.out.mono hba)
      replace SC := Lib.hid (SC.out.mono hba)
      replace BX2 := Lib.hid (BX2.out.bw hba)
      replace BX3 := Lib.hid (BX3.out.bw hba)
      replace HBW := Lib.hid (HBW.out.trans hba)
      obtain ⟨g4, hg4⟩ : ∃ g4, u13.heap.size = g4 := ⟨_, rfl⟩
      rw [hg4] at BX4 ⊢
      clear hg4 hba
      generalize u13.alloc _ = u14 at BX4 HBW R2 R3 R4 SA SB SC BX2 BX3 ⊢
      have k0 : u14.cell? ⟨g2, 0, none⟩ = some (.slice a2 C1.length c2) := BX2.out.cell rfl
      have k1 : u14.cell? ⟨g2, 1, none⟩ = some (.int .i64 n0) := BX2.out.cell rfl
      have k2 : u14.cell? ⟨g2, 2, none⟩ = some (.int .i64 x1) := BX2.out.cell rfl
      have k3 : u14.cell? ⟨g2, 3, none⟩ = some (.int .i64 y1) := BX2.out.cell rfl
      have hzk := lt_of_cell k0
      have l0 : u14.cell? ⟨g3, 0, none⟩ = some (.slice a3 C1.length c3) := BX3.out.cell rfl
      have l1 : u14.cell? ⟨g3, 1, none⟩ = some (.int .i64 n0) := BX3.out.cell rfl
      have l2 : u14.cell? ⟨g3, 2, none⟩ = some (.int .i64 x2) := BX3.out.cell rfl
      have l3 : u14.cell? ⟨g3, 3, none⟩ = some (.int .i64 y2) := BX3.out.cell rfl
      have hzl := lt_of_cell l0
      have m0 : u14.cell? ⟨g4, 0, none⟩ = some (.slice a4 C1.length c4) := BX4.out.cell rfl
      have m1 : u14.cell? ⟨g4, 1, none⟩ = some (.int .i64 n0) := BX4.out.cell rfl
      have m2 : u14.cell? ⟨g4, 2, none⟩ = some (.int .i64 x3) := BX4.out.cell rfl
      have m3 : u14.cell? ⟨g4, 3, none⟩ = some (.int .i64 y3) := BX4.out.cell rfl
      have hzm := lt_of_cell m0
      go_upto_region 22 with (first | (go_at_call 15; (with_reducible refine Calls.mono (equal_same C1 _ _ _ R2.out R3.out) ?_); rintro e1 u15 ⟨rfl, hb15⟩; replace R2 := Lib.hid (R2.out.mono hb15); replace R4 := Lib.hid (R4.out.mono hb15); replace SA := Lib.hid (SA.out.mono hb15); replace SB := Lib.hid (SB.out.mono hb15); replace SC := Lib.hid (SC.out.mono hb15); replace HBW := Lib.hid (HBW.out.trans hb15); replace k0 := hb15.cell' k0; replace k1 := hb15.cell' k1; replace k2 := hb15.cell' k2; replace k3 := hb15.cell' k3; replace m0 := hb15.cell' m0; replace m1 := hb15.cell' m1; replace m2 := hb15.cell' m2; replace m3 := hb15.cell' m3; clear hb15 R3) | (go_at_call 15; (with_reducible refine Calls.mono (equal_same C1 _ _ _ R2.out R4.out) ?_); rintro e1 u16 ⟨rfl, hb16⟩; replace SA := Lib.hid (SA.out.mono hb16); replace SB := Lib.hid (SB.out.mono hb16); replace SC := Lib.hid (SC.out.mono hb16); replace HBW := Lib.hid (HBW.out.trans hb16); clear hb16 R2 R4) | (go_at_call 12; (with_reducible refine Calls.mono (RD1.out _ _ SA.out CA.out) ?_); rintro e1 u17 ⟨⟨v9, rfl, hr, _⟩, hb9⟩; obtain ⟨b1, d1, rfl⟩ := hr.form; have L1 := Lib.hid hr; replace SB := Lib.hid (SB.out.mono hb9); replace SC := Lib.hid (SC.out.mono hb9); replace HBW := Lib.hid (HBW.out.trans hb9); clear hr hb9 RD1 SA CA) | (go_at_call 12; (with_reducible refine Calls.mono (RD2.out _ _ SB.out CB.out) ?_); rintro e1 u18 ⟨⟨v9, rfl, hr, _⟩, hb9⟩; obtain ⟨b2, d2, rfl⟩ := hr.form; have L2 := Lib.hid hr; replace L1 := Lib.hid (L1.out.mono hb9); replace SC := Lib.hid (SC.out.mono hb9); replace HBW := Lib.hid (HBW.out.trans hb9); clear hr hb9 RD2 SB CB) | (go_at_call 12; (with_reducible refine Calls.mono (RD3.out _ _ SC.out CC.out) ?_); rintro e1 u19 ⟨⟨v9, rfl, hr, _⟩, hb9⟩; obtain ⟨b3, d3, rfl⟩ := hr.form; have L3 := Lib.hid hr; replace L1 := Lib.hid (L1.out.mono hb9); replace L2 := Lib.hid (L2.out.mono hb9); replace HBW := Lib.hid (HBW.out.trans hb9); clear hr hb9 RD3 SC CC))
      have HAR : t + (1 + m) ≤ 100 := by omega
      rcases HCS.out with ⟨hx1, hx2⟩ | ⟨hx1, hx2⟩
      · subst hx1
        go_wp2_with (first | (go_at_call 15; (with_reducible refine Calls.mono (equal_same bl _ _ _ L1.out L2.out) ?_); rintro e1 u20 ⟨rfl, hb20⟩; replace L1 := Lib.hid (L1.out.mono hb20); replace L3 := Lib.hid (L3.out.mono hb20); replace HBW := Lib.hid (HBW.out.trans hb20); clear hb20 L2) | (go_at_call 15; (with_reducible refine Calls.mono (equal_same bl _ _ _ L1.out L3.out) ?_); rintro e1 u21 ⟨rfl, hb21⟩; replace HBW := Lib.hid (HBW.out.trans hb21); clear hb21 L1 L3))
        go_ret
        exact ⟨rfl, HBW.out⟩
      · subst hx1
        go_wp2_with (first | (go_at_call 15; (with_reducible refine Calls.mono (equal_same bl _ _ _ L1.out L2.out) ?_); rintro e1 u20 ⟨rfl, hb20⟩; replace L1 := Lib.hid (L1.out.mono hb20); replace L3 := Lib.hid (L3.out.mono hb20); replace HBW := Lib.hid (HBW.out.trans hb20); clear hb20 L2) | (go_at_call 15; (with_reducible refine Calls.mono (equal_same bl _ _ _ L1.out L3.out) ?_); rintro e1 u21 ⟨rfl, hb21⟩; replace HBW := Lib.hid (HBW.out.trans hb21); clear hb21 L1 L3))
        go_ret
        exact ⟨by simp [hx2], HBW.out⟩
theorem law_turned (p0 t0 f0 : Int) (zs : List Int) (v1 : Value) (w : World) (hv1 : RdI w v1 zs) :
    Calls Try.prog 6 #[.int .i64 p0, .int .i64 t0, .int .i64 f0, v1] w fun r w' => r = .returned (.bool true) ∧ Bw w w' := by
  by_cases hl : zs.length ≤ 60
  · have hm := bel_bd p0 20 (by omega)
    obtain ⟨m, hm1⟩ := Int.eq_ofNat_of_zero_le hm.1
    have ht := bel_bd t0 (1 + (m : Int)) (by omega)
    obtain ⟨t, ht1⟩ := Int.eq_ofNat_of_zero_le ht.1
    exact turned_main m t _ p0 t0 f0 hm1 ht1 rfl zs v1 w hv1 hl
  · obtain ⟨ad1, cap1, rfl⟩ := hv1.form
    clear hv1
    have g1 : (60 : Int) < zs.length := by omega
    clear hl
    go_enter Try.func6, Try.ntmps6
    go_wp2_with (go_at_call 4; refine (law_known _).mono ?_; rintro e1 u1 ⟨rfl, hb1⟩)
    go_ret
    exact ⟨rfl, hb1⟩
end Go.Proofs.Sky

