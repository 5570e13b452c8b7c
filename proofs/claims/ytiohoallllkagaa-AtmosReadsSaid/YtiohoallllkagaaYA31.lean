/-
  lemmas for the theorems of this claim. No conditions beyond those written in the statements.
-/
import Derived.Test.YtiohoallllkagaaXA31
import Derived.Deep.Cut
set_option linter.unusedVariables false
set_option linter.unusedSimpArgs false
set_option linter.unnecessarySimpa false
namespace Go.Proofs.Sky
open Go Go.RowKit Go.Shelf
set_option maxHeartbeats 4000000
set_option maxRecDepth 4000
/-! chapter 31: AtmosReads -/
theorem frames_both (x : Nat → Int) (tow : Int) : ∃ (T K E : Int) (L : List Int), (∀ W, Calls Try.prog 18 #[.agg (atV x), .int .i64 tow] W fun e w' => FrP W.heap.size T K L E e w' ∧ Bw W w') ∧ (∀ W, Calls Try.prog 19 #[.agg (atV x), .int .i64 tow] W fun e w' => FrP W.heap.size T K L E e w' ∧ Bw W w') := by
  by_cases h : errA x = 0
  · by_cases h1 : 0 ≤ tow ∧ tow < 131072
    · exact ⟨_, _, _, _, fun W => Frame_any x tow W h h1.1 h1.2, fun W => RFrame_ok x tow W h h1⟩
    · exact ⟨_, _, _, _, fun W => Frame_range x tow W h (by omega), fun W => RFrame_range x tow W h (by omega)⟩
  · exact ⟨_, _, _, _, fun W => Frame_bad x tow W h, fun W => RFrame_bad x tow W h⟩
theorem reads_both (t k : Int) (zs : List Int) (a : Option Addr) (c : Nat) (hc : zs.length ≤ c ∧ c ≤ 9223372036854775807) : ∃ (RX : Nat → Int) (RE : Int), (∀ W, RdI W (.slice a zs.length c) zs → Calls Try.prog 20 #[.agg #[.int .i64 t, .int .i64 k, .slice a zs.length c]] W fun e w' => e = .returned (.tuple #[.agg (atV RX), .int .i64 RE]) ∧ Bw W w') ∧ (∀ W, RdI W (.slice a zs.length c) zs → Calls Try.prog 21 #[.agg #[.int .i64 t, .int .i64 k, .slice a zs.length c]] W fun e w' => e = .returned (.tuple #[.agg (atV RX), .int .i64 RE]) ∧ Bw W w') := by
  by_cases h : rdGood t k zs
  · exact ⟨_, _, fun W hv => Read_good t k zs a c W h hv hc, fun W hv => RRead_main t k zs a c W _ _ hv hc (.inl ⟨h, rfl, rfl⟩)⟩
  · exact ⟨_, _, fun W hv => Read_no t k zs a c W h hv hc, fun W hv => RRead_main t k zs a c W _ _ hv hc (.inr ⟨h, rfl, rfl⟩)⟩
theorem law_reads (x : Nat → Int) (tow t k : Int) (zs : List Int) (v : Value) (w : World) (hv : RdI w v zs) (hc : Capd v) :
    Calls Try.prog 5 #[.agg (atV x), .int .i64 tow, .agg #[.int .i64 t, .int .i64 k, v]] w fun e w' => e = .returned (.bool true) ∧ Bw w w' := by
  have HV := Lib.hid hv
  obtain ⟨a, c, rfl⟩ := hv.form
  obtain ⟨T, K, E, L, hPF, hRF⟩ := frames_both x tow
  obtain ⟨RX, RE, hPR, hRR⟩ := reads_both t k zs a c (hc _ _ _ rfl)
  have hq := fun w => eqAt_self RX w
  have hle := hv.1
  clear hv hc
  have PF := Lib.hid hPF
  have RF := Lib.hid hRF
  have PR := Lib.hid hPR
  have RR := Lib.hid hRR
  clear hPF hRF hPR hRR
  have AW := Lib.hid (fun W => awake_any W)
  have AL := Lib.hid (fun W v1 v2 h1 h2 => alike_same L v1 v2 W h1 h2)
  unfold FrP at PF RF
  unfold atV at PF RF PR RR hq ⊢
  have HBW := Lib.hid (Bw.alloc (Bw.alloc (Bw.refl w) (.cells #[.int .i64 (x 0), .int .i64 (x 1), .int .i64 (x 2), .int .i64 (x 3), .int .i64 (x 4), .int .i64 (x 5), .int .i64 (x 6), .int .i64 (x 7), .int .i64 (x 8)] 25)) (.cells #[.int .i64 t, .int .i64 k, .slice a zs.length c] 38))
  have KM := Lib.hid ((Blk.new w 25 #[.int .i64 (x 0), .int .i64 (x 1), .int .i64 (x 2), .int .i64 (x 3), .int .i64 (x 4), .int .i64 (x 5), .int .i64 (x 6), .int .i64 (x 7), .int .i64 (x 8)]).alloc (.cells #[.int .i64 t, .int .i64 k, .slice a zs.length c] 38))
  have KF : Hid (Blk ((w.alloc (.cells #[.int .i64 (x 0), .int .i64 (x 1), .int .i64 (x 2), .int .i64 (x 3), .int .i64 (x 4), .int .i64 (x 5), .int .i64 (x 6), .int .i64 (x 7), .int .i64 (x 8)] 25)).alloc (.cells #[.int .i64 t, .int .i64 k, .slice a zs.length c] 38)) (w.heap.size + 1) 38 #[.int .i64 t, .int .i64 k, .slice a zs.length c]) := Lib.hid (by have h9 := Blk.new (w.alloc (.cells #[.int .i64 (x 0), .int .i64 (x 1), .int .i64 (x 2), .int .i64 (x 3), .int .i64 (x 4), .int .i64 (x 5), .int .i64 (x 6), .int .i64 (x 7), .int .i64 (x 8)] 25)) 38 #[.int .i64 t, .int .i64 k, .slice a zs.length c]; simpa using h9)
  go_enter Try.func5, Try.ntmps5
  go_upto_region 1 with fail
  obtain ⟨W0, hW0⟩ : ∃ W0, ((w.alloc (.cells #[.int .i64 (x 0), .int .i64 (x 1), .int .i64 (x 2), .int .i64 (x 3), .int .i64 (x 4), .int .i64 (x 5), .int .i64 (x 6), .int .i64 (x 7), .int .i64 (x 8)] 25)).alloc (.cells #[.int .i64 t, .int .i64 k, .slice a zs.length c] 38)) = W0 := ⟨_, rfl⟩
  rw [hW0] at HBW KM KF ⊢
  clear hW0
  have c0 : W0.cell? ⟨w.heap.size + 1, 0, none⟩ = some (.int .i64 t) := KF.out.cell rfl
  have c1 : W0.cell? ⟨w.heap.size + 1, 1, none⟩ = some (.int .i64 k) := KF.out.cell rfl
  have c2 : W0.cell? ⟨w.heap.size + 1, 2, none⟩ = some (.slice a zs.length c) := KF.out.cell rfl
  by_cases hl : 300 < zs.length
  · have hlz : (300 : Int) < zs.length := by omega
    go_wp2_with (go_at_call 15; (with_reducible refine Calls.mono (AW.out _) ?_); rintro e1 w1 ⟨rfl, hb9⟩)
    go_ret
    exact ⟨rfl, HBW.out.trans hb9⟩
  have hlz : ¬ (300 : Int) < zs.length := by omega
  have HLZ := Lib.hid hlz
  clear hl hlz
  have m0 : W0.cell? ⟨w.heap.size, 0, none⟩ = some (.int .i64 (x 0)) := KM.out.cell rfl
  have m1 : W0.cell? ⟨w.heap.size, 1, none⟩ = some (.int .i64 (x 1)) := KM.out.cell rfl
  have m2 : W0.cell? ⟨w.heap.size, 2, none⟩ = some (.int .i64 (x 2)) := KM.out.cell rfl
  have m3 : W0.cell? ⟨w.heap.size, 3, none⟩ = some (.int .i64 (x 3)) := KM.out.cell rfl
  have m4 : W0.cell? ⟨w.heap.size, 4, none⟩ = some (.int .i64 (x 4)) := KM.out.cell rfl
  have m5 : W0.cell? ⟨w.heap.size, 5, none⟩ = some (.int .i64 (x 5)) := KM.out.cell rfl
  have m6 : W0.cell? ⟨w.heap.size, 6, none⟩ = some (.int .i64 (x 6)) := KM.out.cell rfl
  have m7 : W0.cell? ⟨w.heap.size, 7, none⟩ = some (.int .i64 (x 7)) := KM.out.cell rfl
  have m8 : W0.cell? ⟨w.heap.size, 8, none⟩ = some (.int .i64 (x 8)) := KM.out.cell rfl
  go_upto_region 4 with (go_at_call 18; (with_reducible refine Calls.mono (PF.out _) ?_); rintro e1 w1 ⟨⟨v1, rfl, hr1, _, hc1⟩, hb1⟩; obtain ⟨a1, c1', rfl⟩ := hr1.form)
  clear m0 m1 m2 m3 m4 m5 m6 m7 m8
  clear c0 c1 c2
  have HB1 := Lib.hid (Bw.alloc hb1 (.cells #[.int .i64 T, .int .i64 K, .slice a1 L.length c1'] 38))
  have B1 := Lib.hid (Blk.new w1 38 #[.int .i64 T, .int .i64 K, .slice a1 L.length c1'])
  have R1 := Lib.hid (hr1.mono (Bw.alloc (Bw.refl w1) (.cells #[.int .i64 T, .int .i64 K, .slice a1 L.length c1'] 38)))
  clear hr1 hc1
  clear hb1
  obtain ⟨g1, hg1⟩ : ∃ g1, w1.heap.size = g1 := ⟨_, rfl⟩
  rw [hg1] at B1 ⊢
  clear hg1
  obtain ⟨W1, hW⟩ : ∃ W1, w1.alloc (.cells #[.int .i64 T, .int .i64 K, .slice a1 L.length c1'] 38) = W1 := ⟨_, rfl⟩
  rw [hW] at HB1 B1 R1 ⊢
  clear hW
  replace HBW := Lib.hid (HBW.out.trans HB1.out)
  replace KM := Lib.hid (KM.out.bw HB1.out)
  replace KF := Lib.hid (KF.out.bw HB1.out)
  clear HB1
  have m0 : W1.cell? ⟨w.heap.size, 0, none⟩ = some (.int .i64 (x 0)) := KM.out.cell rfl
  have m1 : W1.cell? ⟨w.heap.size, 1, none⟩ = some (.int .i64 (x 1)) := KM.out.cell rfl
  have m2 : W1.cell? ⟨w.heap.size, 2, none⟩ = some (.int .i64 (x 2)) := KM.out.cell rfl
  have m3 : W1.cell? ⟨w.heap.size, 3, none⟩ = some (.int .i64 (x 3)) := KM.out.cell rfl
  have m4 : W1.cell? ⟨w.heap.size, 4, none⟩ = some (.int .i64 (x 4)) := KM.out.cell rfl
  have m5 : W1.cell? ⟨w.heap.size, 5, none⟩ = some (.int .i64 (x 5)) := KM.out.cell rfl
  have m6 : W1.cell? ⟨w.heap.size, 6, none⟩ = some (.int .i64 (x 6)) := KM.out.cell rfl
  have m7 : W1.cell? ⟨w.heap.size, 7, none⟩ = some (.int .i64 (x 7)) := KM.out.cell rfl
  have m8 : W1.cell? ⟨w.heap.size, 8, none⟩ = some (.int .i64 (x 8)) := KM.out.cell rfl
  have c0 : W1.cell? ⟨w.heap.size + 1, 0, none⟩ = some (.int .i64 t) := KF.out.cell rfl
  have c1 : W1.cell? ⟨w.heap.size + 1, 1, none⟩ = some (.int .i64 k) := KF.out.cell rfl
  have c2 : W1.cell? ⟨w.heap.size + 1, 2, none⟩ = some (.slice a zs.length c) := KF.out.cell rfl
  go_upto_region 5 with (go_at_call 19; (with_reducible refine Calls.mono (RF.out _) ?_); rintro e1 w1 ⟨⟨v1, rfl, hr1, _, hc1⟩, hb1⟩; obtain ⟨a2, c2', rfl⟩ := hr1.form)
  clear m0 m1 m2 m3 m4 m5 m6 m7 m8
  clear c0 c1 c2
  have HB1 := Lib.hid (Bw.alloc hb1 (.cells #[.int .i64 T, .int .i64 K, .slice a2 L.length c2'] 38))
  have B2 := Lib.hid (Blk.new w1 38 #[.int .i64 T, .int .i64 K, .slice a2 L.length c2'])
  have R2 := Lib.hid (hr1.mono (Bw.alloc (Bw.refl w1) (.cells #[.int .i64 T, .int .i64 K, .slice a2 L.length c2'] 38)))
  clear hr1 hc1
  clear hb1
  obtain ⟨g2, hg2⟩ : ∃ g2, w1.heap.size = g2 := ⟨_, rfl⟩
  rw [hg2] at B2 ⊢
  clear hg2
  obtain ⟨W2, hW⟩ : ∃ W2, w1.alloc (.cells #[.int .i64 T, .int .i64 K, .slice a2 L.length c2'] 38) = W2 := ⟨_, rfl⟩
  rw [hW] at HB1 B2 R2 ⊢
  clear hW
  replace HBW := Lib.hid (HBW.out.trans HB1.out)
  replace KM := Lib.hid (KM.out.bw HB1.out)
  replace KF := Lib.hid (KF.out.bw HB1.out)
  replace B1 := Lib.hid (B1.out.bw HB1.out)
  replace R1 := Lib.hid (R1.out.mono HB1.out)
  clear HB1
  have m0 : W2.cell? ⟨w.heap.size, 0, none⟩ = some (.int .i64 (x 0)) := KM.out.cell rfl
  have m1 : W2.cell? ⟨w.heap.size, 1, none⟩ = some (.int .i64 (x 1)) := KM.out.cell rfl
  have m2 : W2.cell? ⟨w.heap.size, 2, none⟩ = some (.int .i64 (x 2)) := KM.out.cell rfl
  have m3 : W2.cell? ⟨w.heap.size, 3, none⟩ = some (.int .i64 (x 3)) := KM.out.cell rfl
  have m4 : W2.cell? ⟨w.heap.size, 4, none⟩ = some (.int .i64 (x 4)) := KM.out.cell rfl
  have m5 : W2.cell? ⟨w.heap.size, 5, none⟩ = some (.int .i64 (x 5)) := KM.out.cell rfl
  have m6 : W2.cell? ⟨w.heap.size, 6, none⟩ = some (.int .i64 (x 6)) := KM.out.cell rfl
  have m7 : W2.cell? ⟨w.heap.size, 7, none⟩ = some (.int .i64 (x 7)) := KM.out.cell rfl
  have m8 : W2.cell? ⟨w.heap.size, 8, none⟩ = some (.int .i64 (x 8)) := KM.out.cell rfl
  have c0 : W2.cell? ⟨w.heap.size + 1, 0, none⟩ = some (.int .i64 t) := KF.out.cell rfl
  have c1 : W2.cell? ⟨w.heap.size + 1, 1, none⟩ = some (.int .i64 k) := KF.out.cell rfl
  have c2 : W2.cell? ⟨w.heap.size + 1, 2, none⟩ = some (.slice a zs.length c) := KF.out.cell rfl
  go_upto_region 6 with (go_at_call 20; (with_reducible refine Calls.mono (PR.out _ ?_) ?_); (focus exact (HV.out.mono HBW.out)); rintro e1 w1 ⟨rfl, hb1⟩)
  clear m0 m1 m2 m3 m4 m5 m6 m7 m8
  clear c0 c1 c2
  have HB1 := Lib.hid (Bw.alloc hb1 (.cells #[.int .i64 (RX 0), .int .i64 (RX 1), .int .i64 (RX 2), .int .i64 (RX 3), .int .i64 (RX 4), .int .i64 (RX 5), .int .i64 (RX 6), .int .i64 (RX 7), .int .i64 (RX 8)] 25))
  have B3 := Lib.hid (Blk.new w1 25 #[.int .i64 (RX 0), .int .i64 (RX 1), .int .i64 (RX 2), .int .i64 (RX 3), .int .i64 (RX 4), .int .i64 (RX 5), .int .i64 (RX 6), .int .i64 (RX 7), .int .i64 (RX 8)])
  clear hb1
  obtain ⟨g3, hg3⟩ : ∃ g3, w1.heap.size = g3 := ⟨_, rfl⟩
  rw [hg3] at B3 ⊢
  clear hg3
  obtain ⟨W3, hW⟩ : ∃ W3, w1.alloc (.cells #[.int .i64 (RX 0), .int .i64 (RX 1), .int .i64 (RX 2), .int .i64 (RX 3), .int .i64 (RX 4), .int .i64 (RX 5), .int .i64 (RX 6), .int .i64 (RX 7), .int .i64 (RX 8)] 25) = W3 := ⟨_, rfl⟩
  rw [hW] at HB1 B3  ⊢
  clear hW
  replace HBW := Lib.hid (HBW.out.trans HB1.out)
  replace KM := Lib.hid (KM.out.bw HB1.out)
  replace KF := Lib.hid (KF.out.bw HB1.out)
  replace B1 := Lib.hid (B1.out.bw HB1.out)
  replace R1 := Lib.hid (R1.out.mono HB1.out)
  replace B2 := Lib.hid (B2.out.bw HB1.out)
  replace R2 := Lib.hid (R2.out.mono HB1.out)
  clear HB1
  have m0 : W3.cell? ⟨w.heap.size, 0, none⟩ = some (.int .i64 (x 0)) := KM.out.cell rfl
  have m1 : W3.cell? ⟨w.heap.size, 1, none⟩ = some (.int .i64 (x 1)) := KM.out.cell rfl
  have m2 : W3.cell? ⟨w.heap.size, 2, none⟩ = some (.int .i64 (x 2)) := KM.out.cell rfl
  have m3 : W3.cell? ⟨w.heap.size, 3, none⟩ = some (.int .i64 (x 3)) := KM.out.cell rfl
  have m4 : W3.cell? ⟨w.heap.size, 4, none⟩ = some (.int .i64 (x 4)) := KM.out.cell rfl
  have m5 : W3.cell? ⟨w.heap.size, 5, none⟩ = some (.int .i64 (x 5)) := KM.out.cell rfl
  have m6 : W3.cell? ⟨w.heap.size, 6, none⟩ = some (.int .i64 (x 6)) := KM.out.cell rfl
  have m7 : W3.cell? ⟨w.heap.size, 7, none⟩ = some (.int .i64 (x 7)) := KM.out.cell rfl
  have m8 : W3.cell? ⟨w.heap.size, 8, none⟩ = some (.int .i64 (x 8)) := KM.out.cell rfl
  have c0 : W3.cell? ⟨w.heap.size + 1, 0, none⟩ = some (.int .i64 t) := KF.out.cell rfl
  have c1 : W3.cell? ⟨w.heap.size + 1, 1, none⟩ = some (.int .i64 k) := KF.out.cell rfl
  have c2 : W3.cell? ⟨w.heap.size + 1, 2, none⟩ = some (.slice a zs.length c) := KF.out.cell rfl
  go_upto_region 7 with (go_at_call 21; (with_reducible refine Calls.mono (RR.out _ ?_) ?_); (focus exact (HV.out.mono HBW.out)); rintro e1 w1 ⟨rfl, hb1⟩)
  clear m0 m1 m2 m3 m4 m5 m6 m7 m8
  clear c0 c1 c2
  have HB1 := Lib.hid (Bw.alloc hb1 (.cells #[.int .i64 (RX 0), .int .i64 (RX 1), .int .i64 (RX 2), .int .i64 (RX 3), .int .i64 (RX 4), .int .i64 (RX 5), .int .i64 (RX 6), .int .i64 (RX 7), .int .i64 (RX 8)] 25))
  have B4 := Lib.hid (Blk.new w1 25 #[.int .i64 (RX 0), .int .i64 (RX 1), .int .i64 (RX 2), .int .i64 (RX 3), .int .i64 (RX 4), .int .i64 (RX 5), .int .i64 (RX 6), .int .i64 (RX 7), .int .i64 (RX 8)])
  clear hb1
  obtain ⟨g4, hg4⟩ : ∃ g4, w1.heap.size = g4 := ⟨_, rfl⟩
  rw [hg4] at B4 ⊢
  clear hg4
  obtain ⟨W4, hW⟩ : ∃ W4, w1.alloc (.cells #[.int .i64 (RX 0), .int .i64 (RX 1), .int .i64 (RX 2), .int .i64 (RX 3), .int .i64 (RX 4), .int .i64 (RX 5), .int .i64 (RX 6), .int .i64 (RX 7), .int .i64 (RX 8)] 25) = W4 := ⟨_, rfl⟩
  rw [hW] at HB1 B4  ⊢
  clear hW
  replace HBW := Lib.hid (HBW.out.trans HB1.out)
  replace KM := Lib.hid (KM.out.bw HB1.out)
  replace KF := Lib.hid (KF.out.bw HB1.out)
  replace B1 := Lib.hid (B1.out.bw HB1.out)
  replace R1 := Lib.hid (R1.out.mono HB1.out)
  replace B2 := Lib.hid (B2.out.bw HB1.out)
  replace R2 := Lib.hid (R2.out.mono HB1.out)
  replace B3 := Lib.hid (B3.out.bw HB1.out)
  clear HB1
  have m0 : W4.cell? ⟨w.heap.size, 0, none⟩ = some (.int .i64 (x 0)) := KM.out.cell rfl
  have m1 : W4.cell? ⟨w.heap.size, 1, none⟩ = some (.int .i64 (x 1)) := KM.out.cell rfl
  have m2 : W4.cell? ⟨w.heap.size, 2, none⟩ = some (.int .i64 (x 2)) := KM.out.cell rfl
  have m3 : W4.cell? ⟨w.heap.size, 3, none⟩ = some (.int .i64 (x 3)) := KM.out.cell rfl
  have m4 : W4.cell? ⟨w.heap.size, 4, none⟩ = some (.int .i64 (x 4)) := KM.out.cell rfl
  have m5 : W4.cell? ⟨w.heap.size, 5, none⟩ = some (.int .i64 (x 5)) := KM.out.cell rfl
  have m6 : W4.cell? ⟨w.heap.size, 6, none⟩ = some (.int .i64 (x 6)) := KM.out.cell rfl
  have m7 : W4.cell? ⟨w.heap.size, 7, none⟩ = some (.int .i64 (x 7)) := KM.out.cell rfl
  have m8 : W4.cell? ⟨w.heap.size, 8, none⟩ = some (.int .i64 (x 8)) := KM.out.cell rfl
  have c0 : W4.cell? ⟨w.heap.size + 1, 0, none⟩ = some (.int .i64 t) := KF.out.cell rfl
  have c1 : W4.cell? ⟨w.heap.size + 1, 1, none⟩ = some (.int .i64 k) := KF.out.cell rfl
  have c2 : W4.cell? ⟨w.heap.size + 1, 2, none⟩ = some (.slice a zs.length c) := KF.out.cell rfl
  clear m0 m1 m2 m3 m4 m5 m6 m7 m8
  clear c0 c1 c2
  have n1_0 : W4.cell? ⟨g1, 0, none⟩ = some (.int .i64 T) := B1.out.cell rfl
  have n1_1 : W4.cell? ⟨g1, 1, none⟩ = some (.int .i64 K) := B1.out.cell rfl
  have n1_2 : W4.cell? ⟨g1, 2, none⟩ = some (.slice a1 L.length c1') := B1.out.cell rfl
  have n2_0 : W4.cell? ⟨g2, 0, none⟩ = some (.int .i64 T) := B2.out.cell rfl
  have n2_1 : W4.cell? ⟨g2, 1, none⟩ = some (.int .i64 K) := B2.out.cell rfl
  have n2_2 : W4.cell? ⟨g2, 2, none⟩ = some (.slice a2 L.length c2') := B2.out.cell rfl
  have n3_0 : W4.cell? ⟨g3, 0, none⟩ = some (.int .i64 (RX 0)) := B3.out.cell rfl
  have n3_1 : W4.cell? ⟨g3, 1, none⟩ = some (.int .i64 (RX 1)) := B3.out.cell rfl
  have n3_2 : W4.cell? ⟨g3, 2, none⟩ = some (.int .i64 (RX 2)) := B3.out.cell rfl
  have n3_3 : W4.cell? ⟨g3, 3, none⟩ = some (.int .i64 (RX 3)) := B3.out.cell rfl
  have n3_4 : W4.cell? ⟨g3, 4, none⟩ = some (.int .i64 (RX 4)) := B3.out.cell rfl
  have n3_5 : W4.cell? ⟨g3, 5, none⟩ = some (.int .i64 (RX 5)) := B3.out.cell rfl
  have n3_6 : W4.cell? ⟨g3, 6, none⟩ = some (.int .i64 (RX 6)) := B3.out.cell rfl
  have n3_7 : W4.cell? ⟨g3, 7, none⟩ = some (.int .i64 (RX 7)) := B3.out.cell rfl
  have n3_8 : W4.cell? ⟨g3, 8, none⟩ = some (.int .i64 (RX 8)) := B3.out.cell rfl
  have n4_0 : W4.cell? ⟨g4, 0, none⟩ = some (.int .i64 (RX 0)) := B4.out.cell rfl
  have n4_1 : W4.cell? ⟨g4, 1, none⟩ = some (.int .i64 (RX 1)) := B4.out.cell rfl
  have n4_2 : W4.cell? ⟨g4, 2, none⟩ = some (.int .i64 (RX 2)) := B4.out.cell rfl
  have n4_3 : W4.cell? ⟨g4, 3, none⟩ = some (.int .i64 (RX 3)) := B4.out.cell rfl
  have n4_4 : W4.cell? ⟨g4, 4, none⟩ = some (.int .i64 (RX 4)) := B4.out.cell rfl
  have n4_5 : W4.cell? ⟨g4, 5, none⟩ = some (.int .i64 (RX 5)) := B4.out.cell rfl
  have n4_6 : W4.cell? ⟨g4, 6, none⟩ = some (.int .i64 (RX 6)) := B4.out.cell rfl
  have n4_7 : W4.cell? ⟨g4, 7, none⟩ = some (.int .i64 (RX 7)) := B4.out.cell rfl
  have n4_8 : W4.cell? ⟨g4, 8, none⟩ = some (.int .i64 (RX 8)) := B4.out.cell rfl
  go_wp2_with (first | (go_at_call 22; (with_reducible refine Calls.mono (AL.out _ _ _ R1.out R2.out) ?_); rintro e1 w5 ⟨rfl, hb5⟩; clear n1_0 n1_1 n1_2 n2_0 n2_1 n2_2 n3_0 n3_1 n3_2 n3_3 n3_4 n3_5 n3_6 n3_7 n3_8 n4_0 n4_1 n4_2 n4_3 n4_4 n4_5 n4_6 n4_7 n4_8; replace B3 := Lib.hid (B3.out.bw hb5); replace B4 := Lib.hid (B4.out.bw hb5); replace HBW := Lib.hid (HBW.out.trans hb5); clear hb5; have n3_0 : w5.cell? ⟨g3, 0, none⟩ = some (.int .i64 (RX 0)) := B3.out.cell rfl; have n3_1 : w5.cell? ⟨g3, 1, none⟩ = some (.int .i64 (RX 1)) := B3.out.cell rfl; have n3_2 : w5.cell? ⟨g3, 2, none⟩ = some (.int .i64 (RX 2)) := B3.out.cell rfl; have n3_3 : w5.cell? ⟨g3, 3, none⟩ = some (.int .i64 (RX 3)) := B3.out.cell rfl; have n3_4 : w5.cell? ⟨g3, 4, none⟩ = some (.int .i64 (RX 4)) := B3.out.cell rfl; have n3_5 : w5.cell? ⟨g3, 5, none⟩ = some (.int .i64 (RX 5)) := B3.out.cell rfl; have n3_6 : w5.cell? ⟨g3, 6, none⟩ = some (.int .i64 (RX 6)) := B3.out.cell rfl; have n3_7 : w5.cell? ⟨g3, 7, none⟩ = some (.int .i64 (RX 7)) := B3.out.cell rfl; have n3_8 : w5.cell? ⟨g3, 8, none⟩ = some (.int .i64 (RX 8)) := B3.out.cell rfl; have n4_0 : w5.cell? ⟨g4, 0, none⟩ = some (.int .i64 (RX 0)) := B4.out.cell rfl; have n4_1 : w5.cell? ⟨g4, 1, none⟩ = some (.int .i64 (RX 1)) := B4.out.cell rfl; have n4_2 : w5.cell? ⟨g4, 2, none⟩ = some (.int .i64 (RX 2)) := B4.out.cell rfl; have n4_3 : w5.cell? ⟨g4, 3, none⟩ = some (.int .i64 (RX 3)) := B4.out.cell rfl; have n4_4 : w5.cell? ⟨g4, 4, none⟩ = some (.int .i64 (RX 4)) := B4.out.cell rfl; have n4_5 : w5.cell? ⟨g4, 5, none⟩ = some (.int .i64 (RX 5)) := B4.out.cell rfl; have n4_6 : w5.cell? ⟨g4, 6, none⟩ = some (.int .i64 (RX 6)) := B4.out.cell rfl; have n4_7 : w5.cell? ⟨g4, 7, none⟩ = some (.int .i64 (RX 7)) := B4.out.cell rfl; have n4_8 : w5.cell? ⟨g4, 8, none⟩ = some (.int .i64 (RX 8)) := B4.out.cell rfl) | (go_at_call 15; (with_reducible refine Calls.mono (AW.out _) ?_); rintro e1 w6 ⟨rfl, hb6⟩; replace HBW := Lib.hid (HBW.out.trans hb6); clear hb6))
  go_ret
  exact ⟨rfl, HBW.out⟩
end Go.Proofs.Sky
