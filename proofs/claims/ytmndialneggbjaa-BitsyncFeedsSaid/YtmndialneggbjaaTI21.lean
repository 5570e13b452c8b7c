/-
  lemmas for the theorems of this claim. No conditions beyond those written in the statements.
-/
import Derived.Test.YtmndialneggbjaaTH21
import Derived.Test.YtmndialneggbjaaTE21
import Derived.Deep.Cut
set_option linter.unusedVariables false
set_option linter.unusedSimpArgs false
set_option linter.unnecessarySimpa false
namespace Go.Proofs.Sky
open Go Go.RowKit Go.Shelf
set_option maxHeartbeats 4000000
set_option maxRecDepth 4000
theorem law_feeds (ch : List Int) (v : Value) (S x y : Int) (l : List (Int × Int)) (vl : Value) (p0 t0 : Int) (w : World) (hv : RdI w v ch) (hl : RdS w vl l) :
    Calls Try.prog 8 #[.agg #[v, .int .i64 S, .int .i64 x, .int .i64 y], vl, .int .i64 p0, .int .i64 t0] w fun r w' => r = .returned (.bool true) ∧ Bw w w' := by
  have SV := Lib.hid hv
  have SL := Lib.hid hl
  obtain ⟨ad, cap, rfl⟩ := hv.form
  obtain ⟨al, cpl, rfl⟩ := hl.form
  clear hv hl
  obtain ⟨n, hn⟩ : ∃ n, n = ch.length := ⟨_, rfl⟩
  obtain ⟨m, hm⟩ : ∃ m, m = l.length := ⟨_, rfl⟩
  rw [← hn] at SV ⊢
  rw [← hm] at SL ⊢
  have HN := Lib.hid hn
  have HM := Lib.hid hm
  clear hn hm
  by_cases hbig : 30 < n ∨ 200 < m
  · have KX := Lib.hid (Blk.new w 36 #[.slice ad n cap, .int .i64 S, .int .i64 x, .int .i64 y])
    have HWB := Lib.hid (Bw.alloc (Bw.refl w) (.cells #[.slice ad n cap, .int .i64 S, .int .i64 x, .int .i64 y] 36))
    by_cases q1 : (30 : Int) < n
    · clear hbig
      go_enter Try.func8, Try.ntmps8
      go_wp2_with (go_at_call 9; (with_reducible refine Calls.mono (awake_any _) ?_); rintro e1 u1 ⟨rfl, hb9⟩; replace HWB := Lib.hid (HWB.out.trans hb9); clear hb9)
      go_ret
      exact ⟨rfl, HWB.out⟩
    · have q2 : (200 : Int) < m := by omega
      clear hbig
      go_enter Try.func8, Try.ntmps8
      go_wp2_with (go_at_call 9; (with_reducible refine Calls.mono (awake_any _) ?_); rintro e1 u1 ⟨rfl, hb9⟩; replace HWB := Lib.hid (HWB.out.trans hb9); clear hb9)
      go_ret
      exact ⟨rfl, HWB.out⟩
  have q1 : ¬ (30 : Int) < n := by omega
  have q2 : ¬ (200 : Int) < m := by omega
  have hn30 : n ≤ 30 := by omega
  clear hbig
  have FA := Lib.hid (fun W (h1 : RdI W (.slice ad n cap) ch) (h2 : RdS W (.slice al m cpl) l) => Feed_any ch (.slice ad n cap) S x y l (.slice al m cpl) W h1 h2)
  have FB := Lib.hid (fun W (h1 : RdI W (.slice ad n cap) ch) (h2 : RdS W (.slice al m cpl) l) => rFeed_any ch (.slice ad n cap) S x y l (.slice al m cpl) W h1 h2)
  have EA := Lib.hid (fun W (h1 : RdI W (.slice ad n cap) ch) => Edge_any ch (.slice ad n cap) S x y t0 W h1)
  have EB := Lib.hid (fun W (h1 : RdI W (.slice ad n cap) ch) => rEdge_any ch (.slice ad n cap) S x y t0 W h1)
  have CA1 := Lib.hid (fun W (h1 : RdI W (.slice ad n cap) ch) => Check_any ch (.slice ad n cap) S x y W h1)
  have CB1 := Lib.hid (fun W (h1 : RdI W (.slice ad n cap) ch) => rCheck_any ch (.slice ad n cap) S x y W h1)
  obtain ⟨CN, en, hNA, hNB⟩ := New_all p0
  have NA := Lib.hid hNA
  have NB := Lib.hid hNB
  clear hNA hNB
  obtain ⟨P0, hP0⟩ : ∃ P0, P0 = l.getD 0 (0, 0) := ⟨_, rfl⟩
  have HP0 := Lib.hid hP0
  clear hP0
  obtain ⟨z1, z2⟩ := P0
  have AA := Lib.hid (fun W (h1 : RdI W (.slice ad n cap) ch) => Add_any ch (.slice ad n cap) S x y z1 z2 W h1)
  have AB := Lib.hid (fun W (h1 : RdI W (.slice ad n cap) ch) => rAdd_any ch (.slice ad n cap) S x y z1 z2 W h1)
  unfold SyP at FA FB NA NB AA AB
  unfold EdP at EA EB
  generalize errS ch S (x, y) = eC at CA1 CB1
  generalize edgeR ch S (x, y) t0 = ER at EA EB
  generalize feedR ch S (x, y) l = FR at FA FB
  generalize feedR ch S (x, y) [(z1, z2)] = AR at AA AB
  obtain ⟨xe, ee⟩ := ER
  obtain ⟨⟨CF, sF, xF, yF⟩, eF⟩ := FR
  obtain ⟨⟨CA, sA, xA, yA⟩, eA⟩ := AR
  simp only at FA FB NA NB AA AB EA EB
  go_enter Try.func8, Try.ntmps8
  go_upto_region 1 with fail
  have KX := Lib.hid (Blk.new w 36 #[.slice ad n cap, .int .i64 S, .int .i64 x, .int .i64 y])
  have HWB := Lib.hid (Bw.alloc (Bw.refl w) (.cells #[.slice ad n cap, .int .i64 S, .int .i64 x, .int .i64 y] 36))
  obtain ⟨g0, hg0⟩ : ∃ g0, w.heap.size = g0 := ⟨_, rfl⟩
  rw [hg0] at KX ⊢
  clear hg0
  generalize w.alloc _ = u0 at KX HWB ⊢
  have k0 : u0.cell? ⟨g0, 0, none⟩ = some (.slice ad n cap) := KX.out.cell rfl
  have k1 : u0.cell? ⟨g0, 1, none⟩ = some (.int .i64 S) := KX.out.cell rfl
  have k2 : u0.cell? ⟨g0, 2, none⟩ = some (.int .i64 x) := KX.out.cell rfl
  have k3 : u0.cell? ⟨g0, 3, none⟩ = some (.int .i64 y) := KX.out.cell rfl
  have hzk := lt_of_cell k0
  go_upto_region 4 with (at_builtin; refine wpList_append_int rfl (.tmp 32) (.tmp 34) _ rfl u0.heap.size 3 Try.underlying27 infoInt _ [] ch rfl (own0 (e := 3) u0 u0.heap.size rfl) ad n cap rfl (SV.out.mono (HWB.out.trans (Bw.alloc (Bw.refl u0) _))) (by have := HN.out; simp; omega) (by simp) ?_; intro v0 u1 hown hgr; rw [List.nil_append] at hown; have hb0 : Bw u0 u1 := Bw.grownN rfl (Bw.alloc (Bw.refl _) _) (own0 (e := 3) u0 u0.heap.size rfl) hgr; have hrw := (own_rd hown (by have := HN.out; omega)).1; obtain ⟨aw, cw, rfl⟩ := hrw.form; rw [← HN.out] at hrw ⊢; have WR := Lib.hid hrw; replace KX := Lib.hid (KX.out.bw hb0); have HW1 := Lib.hid (HWB.out.trans hb0); clear hown hgr hrw hb0)
  clear k0 k1 k2 k3 hzk
  clear HWB
  have HWB := Lib.hid (Bw.refl u1)
  have HK0 := Lib.hid KX.out.lt
  have KU := KX
  have k0 : u1.cell? ⟨g0, 0, none⟩ = some (.slice ad n cap) := KX.out.cell rfl
  have k1 : u1.cell? ⟨g0, 1, none⟩ = some (.int .i64 S) := KX.out.cell rfl
  have k2 : u1.cell? ⟨g0, 2, none⟩ = some (.int .i64 x) := KX.out.cell rfl
  have k3 : u1.cell? ⟨g0, 3, none⟩ = some (.int .i64 y) := KX.out.cell rfl
  have hzk := lt_of_cell k0
  go_upto_region 5 with (go_at_call 18; (with_reducible refine Calls.mono (FA.out _ (SV.out.mono (HW1.out.trans HWB.out)) (SL.out.mono (HW1.out.trans HWB.out))) ?_); rintro e1 u2 ⟨⟨v9, rfl, hr, hfr⟩, hb9⟩; obtain ⟨a1, c1, rfl⟩ := hr.form; have R1 := Lib.hid hr; replace KX := Lib.hid (KX.out.bw hb9); replace HWB := Lib.hid (HWB.out.trans hb9); clear hr hfr hb9)
  clear k0 k1 k2 k3 hzk
  have B1 := Lib.hid (Blk.new u2 36 #[.slice a1 CF.length c1, .int .i64 sF, .int .i64 xF, .int .i64 yF])
  have hba := Bw.alloc (Bw.refl u2) (.cells #[.slice a1 CF.length c1, .int .i64 sF, .int .i64 xF, .int .i64 yF] 36)
  have HOg1 := Lib.hid HWB.out.size
  replace R1 := Lib.hid (R1.out.mono hba)
  replace KX := Lib.hid (KX.out.bw hba)
  replace HWB := Lib.hid (HWB.out.trans hba)
  obtain ⟨g1, hg1⟩ : ∃ g1, u2.heap.size = g1 := ⟨_, rfl⟩
  rw [hg1] at B1 HOg1  ⊢
  clear hg1 hba
  generalize u2.alloc _ = u3 at B1 HWB R1 KX ⊢
  have k0 : u3.cell? ⟨g0, 0, none⟩ = some (.slice ad n cap) := KX.out.cell rfl
  have k1 : u3.cell? ⟨g0, 1, none⟩ = some (.int .i64 S) := KX.out.cell rfl
  have k2 : u3.cell? ⟨g0, 2, none⟩ = some (.int .i64 x) := KX.out.cell rfl
  have k3 : u3.cell? ⟨g0, 3, none⟩ = some (.int .i64 y) := KX.out.cell rfl
  have hzk := lt_of_cell k0
  go_upto_region 6 with (go_at_call 23; (with_reducible refine Calls.mono (FB.out _ (SV.out.mono (HW1.out.trans HWB.out)) (SL.out.mono (HW1.out.trans HWB.out))) ?_); rintro e1 u4 ⟨⟨v9, rfl, hr, hfr⟩, hb9⟩; obtain ⟨a2, c2, rfl⟩ := hr.form; have R2 := Lib.hid hr; have HL1 := Lib.hid (B1.out.bw hb9).lt; replace R1 := Lib.hid (R1.out.mono hb9); replace KX := Lib.hid (KX.out.bw hb9); replace B1 := Lib.hid (B1.out.bw hb9); replace HWB := Lib.hid (HWB.out.trans hb9); clear hr hfr hb9)
  clear k0 k1 k2 k3 hzk
  have B2 := Lib.hid (Blk.new u4 36 #[.slice a2 CF.length c2, .int .i64 sF, .int .i64 xF, .int .i64 yF])
  have hba := Bw.alloc (Bw.refl u4) (.cells #[.slice a2 CF.length c2, .int .i64 sF, .int .i64 xF, .int .i64 yF] 36)
  have HOg2 := Lib.hid HWB.out.size
  replace R1 := Lib.hid (R1.out.mono hba)
  replace R2 := Lib.hid (R2.out.mono hba)
  replace KX := Lib.hid (KX.out.bw hba)
  replace B1 := Lib.hid (B1.out.bw hba)
  replace HWB := Lib.hid (HWB.out.trans hba)
  obtain ⟨g2, hg2⟩ : ∃ g2, u4.heap.size = g2 := ⟨_, rfl⟩
  rw [hg2] at B2 HOg2 HL1 ⊢
  clear hg2 hba
  generalize u4.alloc _ = u5 at B2 HWB R1 R2 KX B1 ⊢
  have HG12 := Lib.hid (show g1 ≠ g2 by have := HL1.out; omega)
  go_upto_region 7 with (go_at_call 16; (with_reducible refine Calls.mono (NA.out _) ?_); rintro e1 u6 ⟨⟨v9, rfl, hr, hfr⟩, hb9⟩; obtain ⟨a3, c3, rfl⟩ := hr.form; have R3 := Lib.hid hr; replace R1 := Lib.hid (R1.out.mono hb9); replace R2 := Lib.hid (R2.out.mono hb9); replace KX := Lib.hid (KX.out.bw hb9); replace B1 := Lib.hid (B1.out.bw hb9); replace B2 := Lib.hid (B2.out.bw hb9); replace HWB := Lib.hid (HWB.out.trans hb9); clear hr hfr hb9)
  have B3 := Lib.hid (Blk.new u6 36 #[.slice a3 CN.length c3, .int .i64 0, .int .i64 0, .int .i64 0])
  have hba := Bw.alloc (Bw.refl u6) (.cells #[.slice a3 CN.length c3, .int .i64 0, .int .i64 0, .int .i64 0] 36)
  replace R1 := Lib.hid (R1.out.mono hba)
  replace R2 := Lib.hid (R2.out.mono hba)
  replace R3 := Lib.hid (R3.out.mono hba)
  replace KX := Lib.hid (KX.out.bw hba)
  replace B1 := Lib.hid (B1.out.bw hba)
  replace B2 := Lib.hid (B2.out.bw hba)
  replace HWB := Lib.hid (HWB.out.trans hba)
  obtain ⟨g3, hg3⟩ : ∃ g3, u6.heap.size = g3 := ⟨_, rfl⟩
  rw [hg3] at B3   ⊢
  clear hg3 hba
  generalize u6.alloc _ = u7 at B3 HWB R1 R2 R3 KX B1 B2 ⊢
  go_upto_region 8 with (go_at_call 24; (with_reducible refine Calls.mono (NB.out _) ?_); rintro e1 u8 ⟨⟨v9, rfl, hr, hfr⟩, hb9⟩; obtain ⟨a4, c4, rfl⟩ := hr.form; have R4 := Lib.hid hr; replace R1 := Lib.hid (R1.out.mono hb9); replace R2 := Lib.hid (R2.out.mono hb9); replace R3 := Lib.hid (R3.out.mono hb9); replace KX := Lib.hid (KX.out.bw hb9); replace B1 := Lib.hid (B1.out.bw hb9); replace B2 := Lib.hid (B2.out.bw hb9); replace B3 := Lib.hid (B3.out.bw hb9); replace HWB := Lib.hid (HWB.out.trans hb9); clear hr hfr hb9)
  have B4 := Lib.hid (Blk.new u8 36 #[.slice a4 CN.length c4, .int .i64 0, .int .i64 0, .int .i64 0])
  have hba := Bw.alloc (Bw.refl u8) (.cells #[.slice a4 CN.length c4, .int .i64 0, .int .i64 0, .int .i64 0] 36)
  replace R1 := Lib.hid (R1.out.mono hba)
  replace R2 := Lib.hid (R2.out.mono hba)
  replace R3 := Lib.hid (R3.out.mono hba)
  replace R4 := Lib.hid (R4.out.mono hba)
  replace KX := Lib.hid (KX.out.bw hba)
  replace B1 := Lib.hid (B1.out.bw hba)
  replace B2 := Lib.hid (B2.out.bw hba)
  replace B3 := Lib.hid (B3.out.bw hba)
  replace HWB := Lib.hid (HWB.out.trans hba)
  obtain ⟨g4, hg4⟩ : ∃ g4, u8.heap.size = g4 := ⟨_, rfl⟩
  rw [hg4] at B4   ⊢
  clear hg4 hba
  generalize u8.alloc _ = u9 at B4 HWB R1 R2 R3 R4 KX B1 B2 B3 ⊢
  have k0 : u9.cell? ⟨g0, 0, none⟩ = some (.slice ad n cap) := KX.out.cell rfl
  have k1 : u9.cell? ⟨g0, 1, none⟩ = some (.int .i64 S) := KX.out.cell rfl
  have k2 : u9.cell? ⟨g0, 2, none⟩ = some (.int .i64 x) := KX.out.cell rfl
  have k3 : u9.cell? ⟨g0, 3, none⟩ = some (.int .i64 y) := KX.out.cell rfl
  have hzk := lt_of_cell k0
  go_upto_region 10 with (first | (go_at_call 17; (with_reducible refine Calls.mono (EA.out _ (SV.out.mono (HW1.out.trans HWB.out))) ?_); rintro e1 u10 ⟨rfl, hb9⟩; replace R1 := Lib.hid (R1.out.mono hb9); replace R2 := Lib.hid (R2.out.mono hb9); replace R3 := Lib.hid (R3.out.mono hb9); replace R4 := Lib.hid (R4.out.mono hb9); replace KX := Lib.hid (KX.out.bw hb9); replace B1 := Lib.hid (B1.out.bw hb9); replace B2 := Lib.hid (B2.out.bw hb9); replace B3 := Lib.hid (B3.out.bw hb9); replace B4 := Lib.hid (B4.out.bw hb9); replace HWB := Lib.hid (HWB.out.trans hb9); clear hb9 k0 k1 k2 k3 hzk; have k0 : u10.cell? ⟨g0, 0, none⟩ = some (.slice ad n cap) := KX.out.cell rfl; have k1 : u10.cell? ⟨g0, 1, none⟩ = some (.int .i64 S) := KX.out.cell rfl; have k2 : u10.cell? ⟨g0, 2, none⟩ = some (.int .i64 x) := KX.out.cell rfl; have k3 : u10.cell? ⟨g0, 3, none⟩ = some (.int .i64 y) := KX.out.cell rfl; have hzk := lt_of_cell k0) | (go_at_call 25; (with_reducible refine Calls.mono (EB.out _ (SV.out.mono (HW1.out.trans HWB.out))) ?_); rintro e1 u11 ⟨rfl, hb9⟩; replace R1 := Lib.hid (R1.out.mono hb9); replace R2 := Lib.hid (R2.out.mono hb9); replace R3 := Lib.hid (R3.out.mono hb9); replace R4 := Lib.hid (R4.out.mono hb9); replace KX := Lib.hid (KX.out.bw hb9); replace B1 := Lib.hid (B1.out.bw hb9); replace B2 := Lib.hid (B2.out.bw hb9); replace B3 := Lib.hid (B3.out.bw hb9); replace B4 := Lib.hid (B4.out.bw hb9); replace HWB := Lib.hid (HWB.out.trans hb9); clear hb9 k0 k1 k2 k3 hzk; have k0 : u11.cell? ⟨g0, 0, none⟩ = some (.slice ad n cap) := KX.out.cell rfl; have k1 : u11.cell? ⟨g0, 1, none⟩ = some (.int .i64 S) := KX.out.cell rfl; have k2 : u11.cell? ⟨g0, 2, none⟩ = some (.int .i64 x) := KX.out.cell rfl; have k3 : u11.cell? ⟨g0, 3, none⟩ = some (.int .i64 y) := KX.out.cell rfl; have hzk := lt_of_cell k0))
  have p0 : u11.cell? ⟨g1, 0, none⟩ = some (.slice a1 CF.length c1) := B1.out.cell rfl
  have p1 : u11.cell? ⟨g1, 1, none⟩ = some (.int .i64 sF) := B1.out.cell rfl
  have p2 : u11.cell? ⟨g1, 2, none⟩ = some (.int .i64 xF) := B1.out.cell rfl
  have p3 : u11.cell? ⟨g1, 3, none⟩ = some (.int .i64 yF) := B1.out.cell rfl
  have hzp := lt_of_cell p0
  have q0 : u11.cell? ⟨g2, 0, none⟩ = some (.slice a2 CF.length c2) := B2.out.cell rfl
  have q1 : u11.cell? ⟨g2, 1, none⟩ = some (.int .i64 sF) := B2.out.cell rfl
  have q2 : u11.cell? ⟨g2, 2, none⟩ = some (.int .i64 xF) := B2.out.cell rfl
  have q3 : u11.cell? ⟨g2, 3, none⟩ = some (.int .i64 yF) := B2.out.cell rfl
  have hzq := lt_of_cell q0
  have r0 : u11.cell? ⟨g3, 0, none⟩ = some (.slice a3 CN.length c3) := B3.out.cell rfl
  have r1 : u11.cell? ⟨g3, 1, none⟩ = some (.int .i64 0) := B3.out.cell rfl
  have r2 : u11.cell? ⟨g3, 2, none⟩ = some (.int .i64 0) := B3.out.cell rfl
  have r3 : u11.cell? ⟨g3, 3, none⟩ = some (.int .i64 0) := B3.out.cell rfl
  have hzr := lt_of_cell r0
  have s0 : u11.cell? ⟨g4, 0, none⟩ = some (.slice a4 CN.length c4) := B4.out.cell rfl
  have s1 : u11.cell? ⟨g4, 1, none⟩ = some (.int .i64 0) := B4.out.cell rfl
  have s2 : u11.cell? ⟨g4, 2, none⟩ = some (.int .i64 0) := B4.out.cell rfl
  have s3 : u11.cell? ⟨g4, 3, none⟩ = some (.int .i64 0) := B4.out.cell rfl
  have hzs := lt_of_cell s0
  have ek0 := fun p' : Ext u11 => Ext.cell' k0 p'
  have ek1 := fun p' : Ext u11 => Ext.cell' k1 p'
  have ek2 := fun p' : Ext u11 => Ext.cell' k2 p'
  have ek3 := fun p' : Ext u11 => Ext.cell' k3 p'
  clear k0 k1 k2 k3 hzk
  have ep0 := fun p' : Ext u11 => Ext.cell' p0 p'
  have ep1 := fun p' : Ext u11 => Ext.cell' p1 p'
  have ep2 := fun p' : Ext u11 => Ext.cell' p2 p'
  have ep3 := fun p' : Ext u11 => Ext.cell' p3 p'
  clear p0 p1 p2 p3 hzp
  have eq0 := fun p' : Ext u11 => Ext.cell' q0 p'
  have eq1 := fun p' : Ext u11 => Ext.cell' q1 p'
  have eq2 := fun p' : Ext u11 => Ext.cell' q2 p'
  have eq3 := fun p' : Ext u11 => Ext.cell' q3 p'
  clear q0 q1 q2 q3 hzq
  have er0 := fun p' : Ext u11 => Ext.cell' r0 p'
  have er1 := fun p' : Ext u11 => Ext.cell' r1 p'
  have er2 := fun p' : Ext u11 => Ext.cell' r2 p'
  have er3 := fun p' : Ext u11 => Ext.cell' r3 p'
  clear r0 r1 r2 r3 hzr
  have es0 := fun p' : Ext u11 => Ext.cell' s0 p'
  have es1 := fun p' : Ext u11 => Ext.cell' s1 p'
  have es2 := fun p' : Ext u11 => Ext.cell' s2 p'
  have es3 := fun p' : Ext u11 => Ext.cell' s3 p'
  clear s0 s1 s2 s3 hzs
  (refine wp_region_quiet_ext (by kernel_rfl) (by kernel_rfl) ?_; (repeat (go_big_quiet_step ((first | (go_at_call 26; with_reducible refine Calls.ext_of (CA1.out _ (SV.out.mono (HW1.out.trans (HWB.out.trans (Ext.b _)))))) | (go_at_call 27; with_reducible refine Calls.ext_of (CB1.out _ (SV.out.mono (HW1.out.trans (HWB.out.trans (Ext.b _)))))) | (go_at_call 22; with_reducible refine Calls.ext_of (same_any CF sF xF yF _ _ _ (R1.out.mono (Ext.b _)) (R2.out.mono (Ext.b _)))) | (go_at_call 22; with_reducible refine Calls.ext_of (same_any CN 0 0 0 _ _ _ (R3.out.mono (Ext.b _)) (R4.out.mono (Ext.b _)))))))); refine wpQuiet_nil ?_; rintro u12 ⟨⟨_, hbq⟩, rfl⟩; obtain ⟨hccq, hffq⟩ := Bw.cells hbq; have hszq := Bw.size hbq)
  clear ek0 ek1 ek2 ek3 ep0 ep1 ep2 ep3 eq0 eq1 eq2 eq3 er0 er1 er2 er3 es0 es1 es2 es3 R3 R4 B3 B4
  replace KX := Lib.hid (KX.out.bw hbq)
  replace B1 := Lib.hid (B1.out.bw hbq)
  replace B2 := Lib.hid (B2.out.bw hbq)
  replace HWB := Lib.hid (HWB.out.trans hbq)
  clear hbq hccq hffq hszq R1 R2
  by_cases hm0 : 0 < m
  · have hm1 : (0 : Int) < m := by omega
    obtain ⟨b4, o4, cc4, hv4, hb4, hd4⟩ := SL.out.at (by have := HM.out; omega)
    injection hv4 with i1 i2 i3; subst i1; clear i2 i3 hb4
    have D0 := Lib.hid (hd4 0 (by have := HM.out; omega)).1
    have D1 := Lib.hid (hd4 0 (by have := HM.out; omega)).2
    clear hd4
    simp only [Nat.zero_mul, Nat.add_zero] at D0 D1
    rw [← HP0.out] at D0 D1
    simp only at D0 D1
    go_upto_region 13 with fail
    have hdr := Bw.drew (Bw.refl u12)
    replace B1 := Lib.hid (B1.out.bw hdr)
    replace B2 := Lib.hid (B2.out.bw hdr)
    clear hdr
    refine wp_region_held_drew (S := Bw u1) (by kernel_rfl) (HWB.out.trans (Bw.drew (Bw.refl _))) (fun hS => ?_)
    generalize World.drew _ = wd111 at hS B1 B2  ⊢
    clear HWB
    have HLA := Lib.hid B1.out.lt
    have HLC111 := Lib.hid B2.out.lt
    refine take1 (i := 0) (some 111) rfl rfl (by kernel_rfl) (by kernel_rfl) (by kernel_rfl) (fun _ _ _ _ h => h) rfl hS ?_
    apply Exists.intro
    apply And.intro
    · intro W9 hW9; skip; exact run_load_row 36 _ rfl g0 rfl 36 _ _ (KU.out.bw hW9) Try.underlying36 rfl (by kernel_rfl)
    simp only [Act.put, List.setIfInBounds_toArray, List.set_cons_zero, List.set_cons_succ]
    refine take1 (i := 1) (some 112) rfl rfl (by kernel_rfl) (by kernel_rfl) (by kernel_rfl) (fun _ _ _ _ h => h) rfl hS ?_
    apply Exists.intro
    apply And.intro
    · intro W9 hW9; skip; go_simp; try with_reducible rfl
    simp only [Act.put, List.setIfInBounds_toArray, List.set_cons_zero, List.set_cons_succ]
    refine take1 (i := 2) (some 113) rfl rfl (by kernel_rfl) (by kernel_rfl) (by kernel_rfl) (fun _ _ _ _ h => h) rfl hS ?_
    apply Exists.intro
    apply And.intro
    · intro W9 hW9; skip; go_simp; try with_reducible rfl
    simp only [Act.put, List.setIfInBounds_toArray, List.set_cons_zero, List.set_cons_succ]
    refine take1 (i := 3) (some 114) rfl rfl (by kernel_rfl) (by kernel_rfl) (by kernel_rfl) (fun _ _ _ _ h => h) rfl hS ?_
    apply Exists.intro
    apply And.intro
    · intro W9 hW9; skip; have y0 := (HW1.out.trans hW9).cell' D0.out; have y1 := (HW1.out.trans hW9).cell' D1.out; go_simp; try with_reducible rfl
    simp only [Act.put, List.setIfInBounds_toArray, List.set_cons_zero, List.set_cons_succ]
    refine wpAnyH_ready (rs := [4]) (by kernel_rfl) (by simp) ?_
    refine AllReadyH.cons rfl (fun K hK => ?_) ?_
    go_simp
    go_wp2_with (go_at_call 28; (with_reducible refine Calls.mono (AA.out _ (SV.out.mono (HW1.out.trans hS))) ?_); rintro e1 w111 ⟨⟨v15, rfl, hr, hfr⟩, hb15⟩)
    obtain ⟨a5, ca5, rfl⟩ := hr.form
    have R5 := Lib.hid hr
    have F5 := Lib.hid hfr
    clear hr hfr
    replace B1 := Lib.hid (B1.out.bw hb15)
    replace B2 := Lib.hid (B2.out.bw hb15)
    refine hK.out _ _ (hS.trans hb15) (fun hS => ?_)
    clear hK K
    refine take1 (i := 5) (some 110) rfl rfl (by kernel_rfl) (by kernel_rfl) (by kernel_rfl) (fun _ _ _ _ h => h) rfl hS ?_
    apply Exists.intro
    apply And.intro
    · intro W9 hW9; skip; go_simp; try with_reducible rfl
    simp only [Act.put, List.setIfInBounds_toArray, List.set_cons_zero, List.set_cons_succ]
    refine take1 (i := 6) (some 116) rfl rfl (by kernel_rfl) (by kernel_rfl) (by kernel_rfl) (fun _ _ _ _ h => h) rfl hS ?_
    apply Exists.intro
    apply And.intro
    · intro W9 hW9; skip; go_simp; try with_reducible rfl
    simp only [Act.put, List.setIfInBounds_toArray, List.set_cons_zero, List.set_cons_succ]
    refine take1 (i := 7) (some 117) rfl rfl (by kernel_rfl) (by kernel_rfl) (by kernel_rfl) (fun _ _ _ _ h => h) rfl hS ?_
    apply Exists.intro
    apply And.intro
    · intro W9 hW9; skip; go_simp; try with_reducible rfl
    simp only [Act.put, List.setIfInBounds_toArray, List.set_cons_zero, List.set_cons_succ]
    refine wpAnyH_ready (rs := [8]) (by kernel_rfl) (by simp) ?_
    refine AllReadyH.cons rfl (fun K hK => ?_) ?_
    rw [if_pos (by rfl)]
    refine wp_store_row0 36 _ _ rfl rfl g1 #[.slice a5 CA.length ca5, .int .i64 sA, .int .i64 xA, .int .i64 yA] rfl rfl 36 #[.slice a1 CF.length c1, .int .i64 sF, .int .i64 xF, .int .i64 yF] B1.out (by kernel_rfl) rfl (by simp [Value.oneCell']) ?_
    replace R5 := Lib.hid (R5.out.rowOff (F5.out.off HLA.out CA) #[.slice a5 CA.length ca5, .int .i64 sA, .int .i64 xA, .int .i64 yA])
    replace B2 := Lib.hid (B2.out.row_other HG12.out.symm #[.slice a5 CA.length ca5, .int .i64 sA, .int .i64 xA, .int .i64 yA])
    replace B1 := Lib.hid (B1.out.row #[.slice a5 CA.length ca5, .int .i64 sA, .int .i64 xA, .int .i64 yA])
    refine hK.out _ _ (Bw.setRow hS HOg1.out #[.slice a5 CA.length ca5, .int .i64 sA, .int .i64 xA, .int .i64 yA]) (fun hS => ?_)
    clear hK K
    refine take1 (i := 9) (some 11) rfl rfl (by kernel_rfl) (by kernel_rfl) (by kernel_rfl) (fun _ _ _ _ h => h) rfl hS ?_
    apply Exists.intro
    apply And.intro
    · intro W9 hW9; skip; go_simp; try with_reducible rfl
    simp only [Act.put, List.setIfInBounds_toArray, List.set_cons_zero, List.set_cons_succ]
    refine wpAnyH_done (by kernel_rfl) ?_ _
    rotate_left
    exact AllReadyH.nil
    exact AllReadyH.nil
    have HWB := Lib.hid hS
    clear hS
    generalize World.setRow _ _ _ = u15 at B1 B2 R5  HWB ⊢
    go_upto_region 14 with fail
    have hdr := Bw.drew (Bw.refl u15)
    replace B1 := Lib.hid (B1.out.bw hdr)
    replace B2 := Lib.hid (B2.out.bw hdr)
    replace R5 := Lib.hid (R5.out.mono hdr)
    clear hdr
    refine wp_region_held_drew (S := Bw u1) (by kernel_rfl) (HWB.out.trans (Bw.drew (Bw.refl _))) (fun hS => ?_)
    generalize World.drew _ = wd119 at hS B1 B2 R5 ⊢
    clear HWB
    have HLA := Lib.hid B2.out.lt
    have HLC119 := Lib.hid B2.out.lt
    refine take1 (i := 0) (some 119) rfl rfl (by kernel_rfl) (by kernel_rfl) (by kernel_rfl) (fun _ _ _ _ h => h) rfl hS ?_
    apply Exists.intro
    apply And.intro
    · intro W9 hW9; skip; exact run_load_row 36 _ rfl g0 rfl 36 _ _ (KU.out.bw hW9) Try.underlying36 rfl (by kernel_rfl)
    simp only [Act.put, List.setIfInBounds_toArray, List.set_cons_zero, List.set_cons_succ]
    refine take1 (i := 1) (some 120) rfl rfl (by kernel_rfl) (by kernel_rfl) (by kernel_rfl) (fun _ _ _ _ h => h) rfl hS ?_
    apply Exists.intro
    apply And.intro
    · intro W9 hW9; skip; go_simp; try with_reducible rfl
    simp only [Act.put, List.setIfInBounds_toArray, List.set_cons_zero, List.set_cons_succ]
    refine take1 (i := 2) (some 121) rfl rfl (by kernel_rfl) (by kernel_rfl) (by kernel_rfl) (fun _ _ _ _ h => h) rfl hS ?_
    apply Exists.intro
    apply And.intro
    · intro W9 hW9; skip; go_simp; try with_reducible rfl
    simp only [Act.put, List.setIfInBounds_toArray, List.set_cons_zero, List.set_cons_succ]
    refine take1 (i := 3) (some 122) rfl rfl (by kernel_rfl) (by kernel_rfl) (by kernel_rfl) (fun _ _ _ _ h => h) rfl hS ?_
    apply Exists.intro
    apply And.intro
    · intro W9 hW9; skip; have y0 := (HW1.out.trans hW9).cell' D0.out; have y1 := (HW1.out.trans hW9).cell' D1.out; go_simp; try with_reducible rfl
    simp only [Act.put, List.setIfInBounds_toArray, List.set_cons_zero, List.set_cons_succ]
    refine wpAnyH_ready (rs := [4]) (by kernel_rfl) (by simp) ?_
    refine AllReadyH.cons rfl (fun K hK => ?_) ?_
    go_simp
    go_wp2_with (go_at_call 29; (with_reducible refine Calls.mono (AB.out _ (SV.out.mono (HW1.out.trans hS))) ?_); rintro e1 w119 ⟨⟨v15, rfl, hr, hfr⟩, hb15⟩)
    obtain ⟨a6, ca6, rfl⟩ := hr.form
    have R6 := Lib.hid hr
    have F6 := Lib.hid hfr
    clear hr hfr
    replace B1 := Lib.hid (B1.out.bw hb15)
    replace B2 := Lib.hid (B2.out.bw hb15)
    replace R5 := Lib.hid (R5.out.mono hb15)
    refine hK.out _ _ (hS.trans hb15) (fun hS => ?_)
    clear hK K
    refine take1 (i := 5) (some 118) rfl rfl (by kernel_rfl) (by kernel_rfl) (by kernel_rfl) (fun _ _ _ _ h => h) rfl hS ?_
    apply Exists.intro
    apply And.intro
    · intro W9 hW9; skip; go_simp; try with_reducible rfl
    simp only [Act.put, List.setIfInBounds_toArray, List.set_cons_zero, List.set_cons_succ]
    refine take1 (i := 6) (some 124) rfl rfl (by kernel_rfl) (by kernel_rfl) (by kernel_rfl) (fun _ _ _ _ h => h) rfl hS ?_
    apply Exists.intro
    apply And.intro
    · intro W9 hW9; skip; go_simp; try with_reducible rfl
    simp only [Act.put, List.setIfInBounds_toArray, List.set_cons_zero, List.set_cons_succ]
    refine take1 (i := 7) (some 125) rfl rfl (by kernel_rfl) (by kernel_rfl) (by kernel_rfl) (fun _ _ _ _ h => h) rfl hS ?_
    apply Exists.intro
    apply And.intro
    · intro W9 hW9; skip; go_simp; try with_reducible rfl
    simp only [Act.put, List.setIfInBounds_toArray, List.set_cons_zero, List.set_cons_succ]
    refine wpAnyH_ready (rs := [8]) (by kernel_rfl) (by simp) ?_
    refine AllReadyH.cons rfl (fun K hK => ?_) ?_
    rw [if_pos (by rfl)]
    refine wp_store_row0 36 _ _ rfl rfl g2 #[.slice a6 CA.length ca6, .int .i64 sA, .int .i64 xA, .int .i64 yA] rfl rfl 36 #[.slice a2 CF.length c2, .int .i64 sF, .int .i64 xF, .int .i64 yF] B2.out (by kernel_rfl) rfl (by simp [Value.oneCell']) ?_
    replace R6 := Lib.hid (R6.out.rowOff (F6.out.off HLA.out CA) #[.slice a6 CA.length ca6, .int .i64 sA, .int .i64 xA, .int .i64 yA])
    replace R5 := Lib.hid (R5.out.rowOff (F5.out.off HLC111.out CA) #[.slice a6 CA.length ca6, .int .i64 sA, .int .i64 xA, .int .i64 yA])
    replace B1 := Lib.hid (B1.out.row_other HG12.out #[.slice a6 CA.length ca6, .int .i64 sA, .int .i64 xA, .int .i64 yA])
    replace B2 := Lib.hid (B2.out.row #[.slice a6 CA.length ca6, .int .i64 sA, .int .i64 xA, .int .i64 yA])
    refine hK.out _ _ (Bw.setRow hS HOg2.out #[.slice a6 CA.length ca6, .int .i64 sA, .int .i64 xA, .int .i64 yA]) (fun hS => ?_)
    clear hK K
    refine take1 (i := 9) (some 13) rfl rfl (by kernel_rfl) (by kernel_rfl) (by kernel_rfl) (fun _ _ _ _ h => h) rfl hS ?_
    apply Exists.intro
    apply And.intro
    · intro W9 hW9; skip; go_simp; try with_reducible rfl
    simp only [Act.put, List.setIfInBounds_toArray, List.set_cons_zero, List.set_cons_succ]
    refine wpAnyH_done (by kernel_rfl) ?_ _
    rotate_left
    exact AllReadyH.nil
    exact AllReadyH.nil
    have HWB := Lib.hid hS
    clear hS
    generalize World.setRow _ _ _ = u18 at B1 B2 R6 R5 HWB ⊢
    go_upto_region 15 with fail
    have p0 : u18.cell? ⟨g1, 0, none⟩ = some (.slice a5 CA.length ca5) := B1.out.cell rfl
    have p1 : u18.cell? ⟨g1, 1, none⟩ = some (.int .i64 sA) := B1.out.cell rfl
    have p2 : u18.cell? ⟨g1, 2, none⟩ = some (.int .i64 xA) := B1.out.cell rfl
    have p3 : u18.cell? ⟨g1, 3, none⟩ = some (.int .i64 yA) := B1.out.cell rfl
    have hzp := lt_of_cell p0
    have q0 : u18.cell? ⟨g2, 0, none⟩ = some (.slice a6 CA.length ca6) := B2.out.cell rfl
    have q1 : u18.cell? ⟨g2, 1, none⟩ = some (.int .i64 sA) := B2.out.cell rfl
    have q2 : u18.cell? ⟨g2, 2, none⟩ = some (.int .i64 xA) := B2.out.cell rfl
    have q3 : u18.cell? ⟨g2, 3, none⟩ = some (.int .i64 yA) := B2.out.cell rfl
    have hzq := lt_of_cell q0
    go_upto_region 17 with (go_at_call 22; (with_reducible refine Calls.mono (same_any CA sA xA yA _ _ _ R5.out R6.out) ?_); rintro e1 u19 ⟨rfl, hb9⟩; replace HWB := Lib.hid (HWB.out.trans hb9); clear hb9 R5 R6)
    clear p0 p1 p2 p3 hzp
    clear q0 q1 q2 q3 hzq
    have KX := Lib.hid (KU.out.bw HWB.out)
    have k0 : u19.cell? ⟨g0, 0, none⟩ = some (.slice ad n cap) := KX.out.cell rfl
    have k1 : u19.cell? ⟨g0, 1, none⟩ = some (.int .i64 S) := KX.out.cell rfl
    have k2 : u19.cell? ⟨g0, 2, none⟩ = some (.int .i64 x) := KX.out.cell rfl
    have k3 : u19.cell? ⟨g0, 3, none⟩ = some (.int .i64 y) := KX.out.cell rfl
    have hzk := lt_of_cell k0
    go_wp2_with (first | (go_at_call 15; (with_reducible refine Calls.mono (equal_same ch _ _ _ (SV.out.mono (HW1.out.trans HWB.out)) (WR.out.mono HWB.out)) ?_); rintro e1 u20 ⟨rfl, hb9⟩; replace HWB := Lib.hid (HWB.out.trans hb9); clear hb9) | (go_at_call 9; (with_reducible refine Calls.mono (awake_any _) ?_); rintro e1 u21 ⟨rfl, hb9⟩; replace HWB := Lib.hid (HWB.out.trans hb9); clear hb9))
    go_ret
    exact ⟨rfl, HW1.out.trans HWB.out⟩
  · have hm1 : ¬ (0 : Int) < m := by omega
    have KX := Lib.hid (KU.out.bw HWB.out)
    have k0 : u12.cell? ⟨g0, 0, none⟩ = some (.slice ad n cap) := KX.out.cell rfl
    have k1 : u12.cell? ⟨g0, 1, none⟩ = some (.int .i64 S) := KX.out.cell rfl
    have k2 : u12.cell? ⟨g0, 2, none⟩ = some (.int .i64 x) := KX.out.cell rfl
    have k3 : u12.cell? ⟨g0, 3, none⟩ = some (.int .i64 y) := KX.out.cell rfl
    have hzk := lt_of_cell k0
    go_wp2_with (first | (go_at_call 15; (with_reducible refine Calls.mono (equal_same ch _ _ _ (SV.out.mono (HW1.out.trans HWB.out)) (WR.out.mono HWB.out)) ?_); rintro e1 u20 ⟨rfl, hb9⟩; replace HWB := Lib.hid (HWB.out.trans hb9); clear hb9) | (go_at_call 9; (with_reducible refine Calls.mono (awake_any _) ?_); rintro e1 u21 ⟨rfl, hb9⟩; replace HWB := Lib.hid (HWB.out.trans hb9); clear hb9))
    go_ret
    exact ⟨rfl, HW1.out.trans HWB.out⟩
end Go.Proofs.Sky
