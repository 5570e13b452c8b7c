/-
  lemmas for the theorems of this claim. No conditions beyond those written in the statements.
-/
import Derived.Test.YtcmjcobhobfloaaDoorLA27
set_option linter.unusedVariables false
set_option linter.unusedSimpArgs false
set_option linter.unnecessarySimpa false
namespace Go.Proofs.Sky
open Go Go.RowKit Go.Shelf
attribute [local go_sem] Oper.semAt_some
set_option maxHeartbeats 4000000
set_option maxRecDepth 8000
/-! chapter 27: AlmanacLists -/
theorem addQ_len {ps : List (Nat → Int)} {x : Nat → Int} {L : List (Nat → Int)} {E : Int} (h : AddQ ps x L E) : L.length ≤ ps.length + 1 := by
  rcases h with ⟨_, rfl, _⟩ | ⟨_, _, rfl, _⟩ | ⟨_, _, _, i, _, rfl⟩
  · simp
  · simp
  · unfold addL
    split
    · split
      · rw [List.length_set]; omega
      · omega
    · rw [insL_len]; omega
theorem law_lists27 (ps : List (Nat → Int)) (v : Value) (x : Nat → Int) (zs : List Int) (vz : Value) (t most : Int) (w : World) (hv : RdG w v ps) (hz : RdI w vz zs) (hw : WdAt w) : Calls Tryd.prog 7 #[v, .agg (pgV x), vz, .int .i64 t, .int .i64 most] w fun e w' => e = .returned (.bool true) ∧ Bw w w' := by
  have AW := Lib.hid (fun W h => awake27_any W h)
  have HSZ : Hid ((Tryd.prog.info? 27).map (·.size) = some (pgV x).size) := Lib.hid (by kernel_rfl)
  have HB0 := Bw.alloc (Bw.refl w) (.cells (pgV x) 27)
  have KX0 := Blk.new w 27 (pgV x)
  obtain ⟨g, hg⟩ : ∃ g, w.heap.size = g := ⟨_, rfl⟩
  have HG := Lib.hid hg
  obtain ⟨a0, c0, rfl⟩ := hv.form
  obtain ⟨az, cz, rfl⟩ := hz.form
  have hv63 := hv.1
  have hz63 := hz.1
  obtain ⟨W0, hW0⟩ : ∃ W0, w.alloc (.cells (pgV x) 27) = W0 := ⟨_, rfl⟩
  have HWD := Lib.hid (hw.bw HB0)
  have V0 := Lib.hid (hv.mono HB0)
  have ZV := Lib.hid (hz.mono HB0)
  rw [hW0] at HB0 KX0 HWD V0 ZV
  rw [hg] at KX0
  have HBW := Lib.hid HB0
  have HW := Lib.hid (Bw.refl W0)
  have KX := Lib.hid KX0
  clear HB0 KX0 hv hw hz
  obtain ⟨L, E, hadd⟩ := addQ_ex ps x
  obtain ⟨X, F, hfnd⟩ := findQ_ex ps (x 0)
  have hlen := addQ_len hadd
  have AD := Lib.hid (fun v W h hv => AlAdd_any ps x L E hadd v W h hv)
  have RAD := Lib.hid (fun v W hv => RAlAdd_any ps x L E hadd v W hv)
  have FD := Lib.hid (fun v W h hv => AlFind_any ps (x 0) X F hfnd v W h hv)
  have RFD := Lib.hid (fun v W hv => RAlFind_any ps (x 0) X F hfnd v W hv)
  have MS := Lib.hid (fun v vz W h hv hz hl => AlMissing_any ps zs t most v vz W h hv hz hl)
  have RMS := Lib.hid (fun v vz W hv hz hl => RAlMissing_any ps zs t most v vz W hv hz hl)
  unfold AdR at AD RAD
  unfold LsQ at MS RMS
  have HPX0 := Lib.hid (pgV_at x 0 (by omega))
  have HSX : Hid ((Tryd.prog.info? 27).map (·.size) = some (pgV X).size) := Lib.hid (by kernel_rfl)
  have HPX9 : Hid ((pgV X).all (·.oneCell') = true) := Lib.hid (by simp [Value.oneCell', pgV])
  have HN13 : Hid ((#[.int .i64 0, .int .i64 0, .int .i64 0, .int .i64 0, .int .i64 0, .int .i64 0, .int .i64 0, .int .i64 0, .int .i64 0, .int .i64 0, .int .i64 0, .int .i64 0, .int .i64 0] : Array Value).size = (pgV X).size) := Lib.hid rfl
  have hq2 := fun W => eqPg_self X W
  have hgg := fun W a b op p q => eqPg_guard a b op p q W
  have AKL := Lib.hid (fun va vb W h1 h2 => alikePg_any L va vb W h1 h2)
  have AKP := Lib.hid (fun va vb W h1 h2 => alikePg_any ps va vb W h1 h2)
  have AKI := Lib.hid (fun va vb W h1 h2 => alike_same (msR ps t most zs) va vb W h1 h2)
  clear hadd hfnd
  obtain ⟨A, hA⟩ : ∃ A, A = pgV x := ⟨_, rfl⟩
  obtain ⟨XA, hXA⟩ : ∃ XA, XA = pgV X := ⟨_, rfl⟩
  rw [← hA] at KX hW0 AD RAD HSZ HPX0 ⊢
  rw [← hXA] at FD RFD HSX HPX9 HN13 hq2
  clear hA hXA
  generalize x 0 = xn at *
  generalize msR ps t most zs = M at *
  generalize errMs ps t = ME at *
  obtain ⟨n, hn⟩ : ∃ n, ps.length = n := ⟨_, rfl⟩
  obtain ⟨m, hm⟩ : ∃ m, zs.length = m := ⟨_, rfl⟩
  rw [hn] at V0 hlen hv63 ⊢
  rw [hm] at ZV MS RMS hz63 ⊢
  have HN := Lib.hid hn
  clear hn hm
  go_enter Tryd.func7, Tryd.ntmps7
  go_upto_region 1 with fail
  clear hW0
  by_cases hl : 70 < n ∨ 70 < m
  · rcases hl with hl | hl
    · have hlz : (70 : Int) < n := by omega
      clear hl
      go_wp2_with (go_at_call 15; (with_reducible refine Calls.mono (AW.out _ HWD.out) ?_); rintro e1 w1 ⟨rfl, hb1⟩)
      go_ret
      exact ⟨rfl, HBW.out.trans hb1⟩
    · have hlz : (70 : Int) < m := by omega
      clear hl
      by_cases hl2 : (70 : Int) < n
      · go_wp2_with (go_at_call 15; (with_reducible refine Calls.mono (AW.out _ HWD.out) ?_); rintro e1 w1 ⟨rfl, hb1⟩)
        go_ret
        exact ⟨rfl, HBW.out.trans hb1⟩
      · go_wp2_with (go_at_call 15; (with_reducible refine Calls.mono (AW.out _ HWD.out) ?_); rintro e1 w1 ⟨rfl, hb1⟩)
        go_ret
        exact ⟨rfl, HBW.out.trans hb1⟩
  have hl1 : ¬ (70 : Int) < n := by omega
  have hl2 : ¬ (70 : Int) < m := by omega
  have hn70 : n ≤ 70 := by omega
  have hm70 : m ≤ 1000 := by omega
  clear hl
  have OE := Lib.hid (own_empty W0 27)
  have hbe := Bw.alloc (Bw.refl W0) (.cells #[] 27)
  have VA := Lib.hid (V0.out.mono hbe)
  have HWA := Lib.hid hbe
  clear hbe
  go_upto_region 4 with (at_builtin; refine wpList_append_rdG rfl (.tmp 33) (.tmp 34) _ rfl W0.heap.size Tryd.underlying24 _ [] ps rfl OE.out _ rfl VA.out (by have := HN.out; simp; omega) (by simp only [World.size_alloc]; omega) ?_; intro v11 w8 hown hgr; have hgw := bw_grownN rfl HWA.out OE.out hgr; have V1 := Lib.hid (own_rdG hown (by have := HN.out; simp; omega)).1; clear hown hgr)
  rw [List.nil_append] at V1
  replace KX := Lib.hid (KX.out.bw hgw); replace V0 := Lib.hid (V0.out.mono hgw); replace ZV := Lib.hid (ZV.out.mono hgw)
  replace HW := Lib.hid (HW.out.trans hgw)
  clear hgw VA HWA OE hl1 hl2
  go_upto_region 5 with (first | ((with_reducible refine at_load 27 (.tmp 6) ?_); refine wpList_load_row rfl 27 _ rfl g (by simp [Act.eval, Act.put, HG.out]) 27 A (0, 0) _ KX.out Tryd.underlying27 rfl HSZ.out ?_) | (go_at_call 11; (with_reducible refine Calls.mono (AD.out _ _ (HWD.out.bw HW.out) V1.out) ?_); rintro e1 w9 ⟨⟨v12, rfl, ho⟩, hb1⟩; have V12 := Lib.hid (own_rdG ho (by omega)).1; clear ho; replace KX := Lib.hid (KX.out.bw hb1); replace V0 := Lib.hid (V0.out.mono hb1); replace ZV := Lib.hid (ZV.out.mono hb1); replace V1 := Lib.hid (V1.out.mono hb1); replace HW := Lib.hid (HW.out.trans hb1); clear hb1))
  go_upto_region 6 with (first | ((with_reducible refine at_load 27 (.tmp 6) ?_); refine wpList_load_row rfl 27 _ rfl g (by simp [Act.eval, Act.put, HG.out]) 27 A (0, 0) _ KX.out Tryd.underlying27 rfl HSZ.out ?_) | (go_at_call 27; (with_reducible refine Calls.mono (RAD.out _ _ V0.out) ?_); rintro e1 w10 ⟨⟨v14, rfl, ho⟩, hb1⟩; have V14 := Lib.hid (own_rdG ho (by omega)).1; clear ho; replace KX := Lib.hid (KX.out.bw hb1); replace V0 := Lib.hid (V0.out.mono hb1); replace ZV := Lib.hid (ZV.out.mono hb1); replace V1 := Lib.hid (V1.out.mono hb1); replace V12 := Lib.hid (V12.out.mono hb1); replace HW := Lib.hid (HW.out.trans hb1); clear hb1))
  have d0 := KX.out.cell HPX0.out
  go_upto_region 7 with (first | (go_at_call 13; (with_reducible refine Calls.mono (FD.out _ _ (HWD.out.bw HW.out) V1.out) ?_); rintro e1 w11 ⟨rfl, hb1⟩; replace KX := Lib.hid (KX.out.bw hb1); replace V0 := Lib.hid (V0.out.mono hb1); replace ZV := Lib.hid (ZV.out.mono hb1); replace V1 := Lib.hid (V1.out.mono hb1); replace V12 := Lib.hid (V12.out.mono hb1); replace V14 := Lib.hid (V14.out.mono hb1); replace HW := Lib.hid (HW.out.trans hb1); clear hb1) | ((with_reducible refine at_store 27 (.tmp 16) (.tmp 53) ?_); refine wpList_store_row rfl 27 (.tmp 16) (.tmp 53) rfl w11.heap.size XA rfl rfl 27 #[.int .i64 0, .int .i64 0, .int .i64 0, .int .i64 0, .int .i64 0, .int .i64 0, .int .i64 0, .int .i64 0, .int .i64 0, .int .i64 0, .int .i64 0, .int .i64 0, .int .i64 0] (Blk.new w11 27 #[.int .i64 0, .int .i64 0, .int .i64 0, .int .i64 0, .int .i64 0, .int .i64 0, .int .i64 0, .int .i64 0, .int .i64 0, .int .i64 0, .int .i64 0, .int .i64 0, .int .i64 0]) HSX.out HN13.out HPX9.out ?_))
  obtain ⟨g16, hg16⟩ : ∃ g16, w11.heap.size = g16 := ⟨_, rfl⟩
  have hb2 := Bw.setRow (Bw.alloc (Bw.refl w11) (.cells #[.int .i64 0, .int .i64 0, .int .i64 0, .int .i64 0, .int .i64 0, .int .i64 0, .int .i64 0, .int .i64 0, .int .i64 0, .int .i64 0, .int .i64 0, .int .i64 0, .int .i64 0] 27)) (Nat.le_of_eq hg16) XA
  have K16 := Lib.hid ((Blk.new w11 27 #[.int .i64 0, .int .i64 0, .int .i64 0, .int .i64 0, .int .i64 0, .int .i64 0, .int .i64 0, .int .i64 0, .int .i64 0, .int .i64 0, .int .i64 0, .int .i64 0, .int .i64 0]).row XA)
  rw [hg16] at K16 ⊢
  replace HW := Lib.hid (HW.out.trans hb2)
  replace KX := Lib.hid (KX.out.bw hb2); replace V0 := Lib.hid (V0.out.mono hb2); replace ZV := Lib.hid (ZV.out.mono hb2); replace V1 := Lib.hid (V1.out.mono hb2); replace V12 := Lib.hid (V12.out.mono hb2); replace V14 := Lib.hid (V14.out.mono hb2)
  generalize World.setRow (World.alloc w11 _) _ _ = z11 at *
  clear hb2 hg16 d0
  (try simp only [Act.put])
  have d0 := KX.out.cell HPX0.out
  go_upto_region 8 with (first | (go_at_call 28; (with_reducible refine Calls.mono (RFD.out _ _ V0.out) ?_); rintro e1 w12 ⟨rfl, hb1⟩; replace KX := Lib.hid (KX.out.bw hb1); replace V0 := Lib.hid (V0.out.mono hb1); replace ZV := Lib.hid (ZV.out.mono hb1); replace V1 := Lib.hid (V1.out.mono hb1); replace V12 := Lib.hid (V12.out.mono hb1); replace V14 := Lib.hid (V14.out.mono hb1); replace K16 := Lib.hid (K16.out.bw hb1); replace HW := Lib.hid (HW.out.trans hb1); clear hb1) | ((with_reducible refine at_store 27 (.tmp 18) (.tmp 60) ?_); refine wpList_store_row rfl 27 (.tmp 18) (.tmp 60) rfl w12.heap.size XA rfl rfl 27 #[.int .i64 0, .int .i64 0, .int .i64 0, .int .i64 0, .int .i64 0, .int .i64 0, .int .i64 0, .int .i64 0, .int .i64 0, .int .i64 0, .int .i64 0, .int .i64 0, .int .i64 0] (Blk.new w12 27 #[.int .i64 0, .int .i64 0, .int .i64 0, .int .i64 0, .int .i64 0, .int .i64 0, .int .i64 0, .int .i64 0, .int .i64 0, .int .i64 0, .int .i64 0, .int .i64 0, .int .i64 0]) HSX.out HN13.out HPX9.out ?_))
  obtain ⟨g18, hg18⟩ : ∃ g18, w12.heap.size = g18 := ⟨_, rfl⟩
  have hb2 := Bw.setRow (Bw.alloc (Bw.refl w12) (.cells #[.int .i64 0, .int .i64 0, .int .i64 0, .int .i64 0, .int .i64 0, .int .i64 0, .int .i64 0, .int .i64 0, .int .i64 0, .int .i64 0, .int .i64 0, .int .i64 0, .int .i64 0] 27)) (Nat.le_of_eq hg18) XA
  have K18 := Lib.hid ((Blk.new w12 27 #[.int .i64 0, .int .i64 0, .int .i64 0, .int .i64 0, .int .i64 0, .int .i64 0, .int .i64 0, .int .i64 0, .int .i64 0, .int .i64 0, .int .i64 0, .int .i64 0, .int .i64 0]).row XA)
  rw [hg18] at K18 ⊢
  replace HW := Lib.hid (HW.out.trans hb2)
  replace KX := Lib.hid (KX.out.bw hb2); replace V0 := Lib.hid (V0.out.mono hb2); replace ZV := Lib.hid (ZV.out.mono hb2); replace V1 := Lib.hid (V1.out.mono hb2); replace V12 := Lib.hid (V12.out.mono hb2); replace V14 := Lib.hid (V14.out.mono hb2); replace K16 := Lib.hid (K16.out.bw hb2)
  generalize World.setRow (World.alloc w12 _) _ _ = z12 at *
  clear hb2 hg18 d0
  (try simp only [Act.put])
  go_upto_region 9 with (go_at_call 14; (with_reducible refine Calls.mono (MS.out _ _ _ (HWD.out.bw HW.out) V1.out ZV.out hm70) ?_); rintro e1 w13 ⟨⟨v20, rfl, hr, _⟩, hb1⟩; have V20 := Lib.hid hr; clear hr; replace KX := Lib.hid (KX.out.bw hb1); replace V0 := Lib.hid (V0.out.mono hb1); replace ZV := Lib.hid (ZV.out.mono hb1); replace V1 := Lib.hid (V1.out.mono hb1); replace V12 := Lib.hid (V12.out.mono hb1); replace V14 := Lib.hid (V14.out.mono hb1); replace K16 := Lib.hid (K16.out.bw hb1); replace K18 := Lib.hid (K18.out.bw hb1); replace HW := Lib.hid (HW.out.trans hb1); clear hb1)
  go_upto_region 10 with (go_at_call 29; (with_reducible refine Calls.mono (RMS.out _ _ _ V0.out ZV.out hm70) ?_); rintro e1 w14 ⟨⟨v22, rfl, hr, _⟩, hb1⟩; have V22 := Lib.hid hr; clear hr; replace KX := Lib.hid (KX.out.bw hb1); replace V0 := Lib.hid (V0.out.mono hb1); replace ZV := Lib.hid (ZV.out.mono hb1); replace V1 := Lib.hid (V1.out.mono hb1); replace V12 := Lib.hid (V12.out.mono hb1); replace V14 := Lib.hid (V14.out.mono hb1); replace K16 := Lib.hid (K16.out.bw hb1); replace K18 := Lib.hid (K18.out.bw hb1); replace V20 := Lib.hid (V20.out.mono hb1); replace HW := Lib.hid (HW.out.trans hb1); clear hb1)
  go_wp2_with (first | (go_at_call 12; (first | (with_reducible refine Calls.mono (AKL.out _ _ _ V12.out V14.out) ?_) | (with_reducible refine Calls.mono (AKP.out _ _ _ V1.out V0.out) ?_)); rintro e1 w15 ⟨rfl, hb1⟩; (try replace V0 := Lib.hid (V0.out.mono hb1)); (try replace V1 := Lib.hid (V1.out.mono hb1)); (try replace K16 := Lib.hid (K16.out.bw hb1)); (try replace K18 := Lib.hid (K18.out.bw hb1)); (try replace V20 := Lib.hid (V20.out.mono hb1)); (try replace V22 := Lib.hid (V22.out.mono hb1)); replace HW := Lib.hid (HW.out.trans hb1); clear hb1) | ((with_reducible refine at_load 27 (.tmp 16) ?_); refine wpList_load_roww28 27 _ rfl g16 rfl 27 XA (0, 0) _ K16.out Tryd.underlying27 rfl HSX.out (by rfl) ?_) | ((with_reducible refine at_load 27 (.tmp 18) ?_); refine wpList_load_roww28 27 _ rfl g18 rfl 27 XA (0, 0) _ K18.out Tryd.underlying27 rfl HSX.out (by rfl) ?_) | (go_at_call 24; (with_reducible refine Calls.mono (AKI.out _ _ _ V20.out V22.out) ?_); rintro e1 w16 ⟨rfl, hb1⟩; replace V0 := Lib.hid (V0.out.mono hb1); replace V1 := Lib.hid (V1.out.mono hb1); replace HW := Lib.hid (HW.out.trans hb1); clear hb1) | (go_at_call 15; (with_reducible refine Calls.mono (AW.out _ (HWD.out.bw HW.out)) ?_); rintro e1 w17 ⟨rfl, hb1⟩; replace V0 := Lib.hid (V0.out.mono hb1); replace HW := Lib.hid (HW.out.trans hb1); clear hb1))
  go_ret
  exact ⟨rfl, HBW.out.trans HW.out⟩
end Go.Proofs.Sky
