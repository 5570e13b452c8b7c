/-
  lemmas for the theorems of this claim. No conditions beyond those written in the statements.
-/
import Derived.Test.YtiohoallllkagaaXA31
import Derived.Deep.Cut
import Derived.Test.YtiohoallllkagaaD25
set_option linter.unusedVariables false
set_option linter.unusedSimpArgs false
set_option linter.unnecessarySimpa false
namespace Go.Proofs.Sky
open Go Go.RowKit Go.Shelf
set_option maxHeartbeats 4000000
set_option maxRecDepth 4000
/-! chapter 31: AtmosReads -/
theorem frames_both (x : Nat → Int) (tow : Int) : ∃ (T K E : Int) (L : List Int), (∀ W, Calls Try.prog 18 #[.agg (atV x), .int .i64 tow] W fun e w' => FrP W.heap.size T K L E e w' ∧ Bw W w') ∧ (∀ W, Calls Try.prog 19 #[.agg (atV x), .int .i64 tow] W fun e w' => FrP W.heap.size T K L E e w' ∧ Bw W w') := by
  by_cases h : errA x = 0
  · by_cases h1 : 0 ≤ tow ∧ tow < 131072
    · exact ⟨_, _, _, _, fun W => Frame_any x tow W h h1.1 h1.2, fun W => RFrame_ok x tow W h h1⟩
    · exact ⟨_, _, _, _, fun W => Frame_range x tow W h (by omega), fun W => RFrame_range x tow W h (by omega)⟩
  · exact ⟨_, _, _, _, fun W => Frame_bad x tow W h, fun W => RFrame_bad x tow W h⟩
theorem reads_both (t k : Int) (zs : List Int) (a : Option Addr) (c : Nat) (hc : zs.length ≤ c ∧ c ≤ 9223372036854775807) : ∃ (RX : Nat → Int) (RE : Int), (∀ W, RdI W (.slice a zs.length c) zs → Calls Try.prog 20 #[.agg #[.int .i64 t, .int .i64 k, .slice a zs.length c]] W fun e w' => e = .returned (.tuple #[.agg (atV RX), .int .i64 RE]) ∧ Bw W w') ∧ (∀ W, RdI W (.slice a zs.length c) zs → Calls Try.prog 21 #[.agg #[.int .i64 t, .int .i64 k, .slice a zs.length c]] W fun e w' => e = .returned (.tuple #[.agg (atV RX), .int .i64 RE]) ∧ Bw W w') := by
  by_cases h : rdGood t k zs
  · exact ⟨_, _, fun W hv => Read_good t k zs a c W h hv hc, fun W hv => RRead_main t k zs a c W _ _ hv hc (.inl ⟨h, rfl, rfl⟩)⟩
  · exact ⟨_, _, fun W hv => Read_no t k zs a c W h hv hc, fun W hv => RRead_main t k zs a c W _ _ hv hc (.inr ⟨h, rfl, rfl⟩)⟩
theorem law_reads (x : Nat → Int) (tow t k : Int) (zs : List Int) (v : Value) (w : World) (hv : RdI w v zs) (hc : Capd v) :
    Calls Try.prog 5 #[.agg (atV x), .int .i64 tow, .agg #[.int .i64 t, .int .i64 k, v]] w fun e w' => e = .returned (.bool true) ∧ Bw w w' := by
  have HV := Lib.hid hv
  obtain ⟨a, c, rfl⟩ := hv.form
  obtain ⟨T, K, E, L, hPF, hRF⟩ := frames_both x tow
  obtain ⟨RX, RE, hPR, hRR⟩ := reads_both t k zs a c (hc _ _ _ rfl)
  have hq := fun w => eqAt_self RX w
  have hle := hv.1
  clear hv hc
  have PF := Lib.hid hPF
  have RF := Lib.hid hRF
  have PR := Lib.hid hPR
  have RR := Lib.hid hRR
  clear hPF hRF hPR hRR
  have AW := Lib.hid (fun W => awake_any W)
  have AL := Lib.hid (fun W v1 v2 h1 h2 => alike_same L v1 v2 W h1 h2)
  unfold FrP at PF RF
  unfold atV at PF RF PR RR hq ⊢
  have HBW := Lib.hid (Bw.alloc (Bw.alloc (Bw.refl w) (.cells #[.int .i64 (x 0), .int .i64 (x 1), .int .i64 (x 2), .int .i64 (x 3), .int .i64 (x 4), .int .i64 (x 5), .int .i64 (x 6), .int .i64 (x 7), .int .i64 (x 8)] 25)) (.cells #[.int .i64 t, .int .i64 k, .slice a zs.length c] 38))
  have KM := Lib.hid ((Blk.new w 25 #[.int .i64 (x 0), .int .i64 (x 1), .int .i64 (x 2), .int .i64 (x 3), .int .i64 (x 4), .int .i64 (x 5), .int .i64 (x 6), .int .i64 (x 7), .int .i64 (x 8)]).alloc (.cells #[.int .i64 t, .int .i64 k, .slice a zs.length c] 38))
  have KF : Hid (Blk ((w.alloc (.cells #[.int .i64 (x 0), .int .i64 (x 1), .int .i64 (x 2), .int .i64 (x 3), .int .i64 (x 4), .int .i64 (x 5), .int .i64 (x 6), .int .i64 (x 7), .int .i64 (x 8)] 25)).alloc (.cells #[.int .i64 t, .int .i64 k, .slice a zs.length c] 38)) (w.heap.size + 1) 38 #[.int .i64 t, .int .i64 k, .slice a zs.length c]) := Lib.hid (by have h9 := Blk.new (w.alloc (.cells #[.int .i64 (x 0), .int .i64 (x 1), .int .i64 (x 2), .int .i64 (x 3), .int .i64 (x 4), .int .i64 (x 5), .int .i64 (x 6), .int .i64 (x 7), .int .i64 (x 8)] 25)) 38 #[.int .i64 t, .int .i64 k, .slice a zs.length c]; simpa using h9)
  go_enter Try.func5, Try.ntmps5
  go_upto_region 1 with fail
  obtain ⟨W0, hW0⟩ : ∃ W0, ((w.alloc (.cells #[.int .i64 (x 0), .int .i64 (x 1), .int .i64 (x 2), .int .i64 (x 3), .int .i64 (x 4), .int .i64 (x 5), .int .i64 (x 6), .int .i64 (x 7), .int .i64 (x 8)] 25)).alloc (.cells #[.int .i64 t, .int .i64 k, .slice a zs.length c] 38)) = W0 := ⟨_, rfl⟩
  rw [hW0] at HBW KM KF ⊢
  clear hW0
  have c0 : W0.cell? ⟨w.heap.size + 1, 0, none⟩ = some (.int .i64 t) := KF.out.cell rfl
  have c1 : W0.cell? ⟨w.heap.size + 1, 1, none⟩ = some (.int .i64 k) := KF.out.cell rfl
  have c2 : W0.cell? ⟨w.heap.size + 1, 2, none⟩ = some (.slice a zs.length c) := KF.out.cell rfl
  by_cases hl : 300 < zs.length
  · have hlz : (300 : Int) < zs.length := by omega
    go_wp2_with (go_at_call 15; (with_reducible refine Calls.mono (AW.out _) ?_); rintro e1 w1 ⟨rfl, hb9⟩)
    go_ret
    exact ⟨rfl, HBW.out.trans hb9⟩
  have hlz : ¬ (300 : Int) < zs.length := by omega
  have HLZ := Lib.hid hlz
  clear hl hlz
  have m0 : W0.cell? ⟨w.heap.size, 0, none⟩ = some (.int .i64 (x 0)) := KM.out.cell rfl
  have m1 : W0.cell? ⟨w.heap.size, 1, none⟩ = some (.int .i64 (x 1)) := KM.out.cell rfl
  have m2 : W0.cell? ⟨w.heap.size, 2, none⟩ = some (.int .i64 (x 2)) := KM.out.cell rfl
  have m3 : W0.cell? ⟨w.heap.size, 3, none⟩ = some (.int .i64 (x 3)) := KM.out.cell rfl
  have m4 : W0.cell? ⟨w.heap.size, 4, none⟩ = some (.int .i64 (x 4)) := KM.out.cell rfl
  have m5 : W0.cell? ⟨w.heap.size, 5, none⟩ = some (.int .i64 (x 5)) := KM.out.cell rfl
  have m6 : W0.cell? ⟨w.heap.size, 6, none⟩ = some (.int .i64 (x 6)) := KM.out.cell rfl
  have m7 : W0.cell? ⟨w.heap.size, 7, none⟩ = some (.int .i64 (x 7)) := KM.out.cell rfl
  have m8 : W0.cell? ⟨w.heap.size, 8, none⟩ = some (.int .i64 (x 8)) := KM.out.cell rfl
  go_upto_region 4 with (go_at_call 18; (with_reducible refine Calls.mono (PF.out _) ?_); rintro e1 w1 ⟨⟨v1, rfl, hr1, _, hc1⟩, hb1⟩; obtain ⟨a1, c1', rfl⟩ := hr1.form)
  clear m0 m1 m2 m3 m4 m5 m6 m7 m8
  clear c0 c1 c2
  have HB1 := Lib.hid (Bw.alloc hb1 (.cells #[.int .i64 T, .int .i64 K, .slice a1 L.length c1'] 38))
  have B1 := Lib.hid (Blk.new w1 38 #[.int .i64 T, .int .i64 K, .slice a1 L.length c1'])
  have R1 := Lib.hid (hr1.mono (Bw.alloc (Bw.refl w1) (.cells #[.int .i64 T, .int .i64 K, .slice a1 L.length c1'] 38)))
  clear hr1 hc1
  clear hb1
  obtain ⟨g1, hg1⟩ : ∃ g1, w1.heap.size = g1 := ⟨_, rfl⟩
  rw [hg1] at B1 ⊢
  clear hg1
  obtain ⟨W1, hW⟩ : ∃ W1, w1.alloc (.cells #[.int .i64 T, .int .i64 K, .slice a1 L.length c1'] 38) = W1 := ⟨_, rfl⟩
  rw [hW] at HB1 B1 R1 ⊢
  clear hW
  replace HBW := Lib.hid (HBW.out.trans HB1.out)
  replace KM := Lib.hid (KM.out.bw HB1.out)
  replace KF := Lib.hid (KF.out.bw HB1.out)
  clear HB1
  have m0 : W1.cell? ⟨w.heap.size, 0, none⟩ = some (.int .i64 (x 0)) := KM.out.cell rfl
  have m1 : W1.cell? ⟨w.heap.size, 1, none⟩ = some (.int .i64 (x 1)) := KM.out.cell rfl
  have m2 : W1.cell? ⟨w.heap.size, 2, none⟩ = some (.int .i64 (x 2)) := KM.out.cell rfl
  have m3 : W1.cell? ⟨w.heap.size, 3, none⟩ = some (.int .i64 (x 3)) := KM.out.cell rfl
  have m4 : W1.cell? ⟨w.heap.size, 4, none⟩ = some (.int .i64 (x 4)) := KM.out.cell rfl
  have m5 : W1.cell? ⟨w.heap.size, 5, none⟩ = some (.int .i64 (x 5)) := KM.out.cell rfl
  have m6 : W1.cell? ⟨w.heap.size, 6, none⟩ = some (.int .i64 (x 6)) := KM.out.cell rfl
  have m7 : W1.cell? ⟨w.heap.size, 7, none⟩ = some (.int .i64 (x 7)) := KM.out.cell rfl
  have m8 : W1.cell? ⟨w.heap.size, 8, none⟩ = some (.int .i64 (x 8)) := KM.out.cell rfl
  have c0 : W1.cell? ⟨w.heap.size + 1, 0, none⟩ = some (.int .i64 t) := KF.out.cell rfl
  have c1 : W1.cell? ⟨w.heap.size + 1, 1, none⟩ = some (.int .i64 k) := KF.out.cell rfl
  have c2 : W1.cell? ⟨w.heap.size + 1, 2, none⟩ = some (.slice a zs.length c) := KF.out.cell rfl
  go_upto_region 5 with (go_at_call 19; (with_reducible refine Calls.mono (RF.out _) ?_); rintro e1 w1 ⟨⟨v1, rfl, hr1, _, hc1⟩, hb1⟩; obtain ⟨a2, c2', rfl⟩ := hr1.form)
  clear m0 m1 m2 m3 m4 m5 m6 m7 m8
  clear c0 c1 c2
  have HB1 := Lib.hid (Bw.alloc hb1 (.cells #[.int .i64 T, .int .i64 K, .slice a2 L.length c2'] 38))
  have B2 := Lib.hid (Blk.new w1 38 #[.int .i64 T, .int .i64 K, .slice a2 L.length c2'])
  have R2 := Lib.hid (hr1.mono (Bw.alloc (Bw.refl w1) (.cells #[.int .i64 T, .int .i64 K, .slice a2 L.length c2'] 38)))
  clear hr1 hc1
  clear hb1
  obtain ⟨g2, hg2⟩ : ∃ g2, w1.heap.size = g2 := ⟨_, rfl⟩
  rw [hg2] at B2 ⊢
  clear hg2
  obtain ⟨W2, hW⟩ : ∃ W2, w1.alloc (.cells #[.int .i64 T, .int .i64 K, .slice a2 L.length c2'] 38) = W2 := ⟨_, rfl⟩
  rw [hW] at HB1 B2 R2 ⊢
  clear hW
  replace HBW := Lib.hid (HBW.out.trans HB1.out)
  replace KM := Lib.hid (KM.out.bw HB1.out)
  replace KF := Lib.hid (KF.out.bw HB1.out)
  replace B1 := Lib.hid (B1.out.bw HB1.out)
  replace R1 := Lib.hid (R1.out.mono HB1.out)
  clear HB1
  have m0 : W2.cell? ⟨w.heap.size, 0, none⟩ = some (.int .i64 (x 0)) := KM.out.cell rfl
  have m1 : W2.cell? ⟨w.heap.size, 1, none⟩ = some (.int .i64 (x 1)) := KM.out.cell rfl
  have m2 : W2.cell? ⟨w.heap.size, 2, none⟩ = some (.int .i64 (x 2)) := KM.out.cell rfl
  have m3 : W2.cell? ⟨w.heap.size, 3, none⟩ = some (.int .i64 (x 3)) := KM.out.cell rfl
  have m4 : W2.cell? ⟨w.heap.size, 4, none⟩ = some (.int .i64 (x 4)) := KM.out.cell rfl
  have m5 : W2.cell? ⟨w.heap.size, 5, none⟩ = some (.int .i64 (x 5)) := KM.out.cell rfl
  have m6 : W2.cell? ⟨w.heap.size, 6, none⟩ = some (.int .i64 (x 6)) := KM.out.cell rfl
  have m7 : W2.cell? ⟨w.heap.size, 7, none⟩ = some (.int .i64 (x 7)) := KM.out.cell rfl
  have m8 : W2.cell? ⟨w.heap.size, 8, none⟩ = some (.int .i64 (x 8)) := KM.out.cell rfl
  have c0 : W2.cell? ⟨w.heap.size + 1, 0, none⟩ = some (.int .i64 t) := KF.out.cell rfl
  have c1 : W2.cell? ⟨w.heap.size + 1, 1, none⟩ = some (.int .i64 k) := KF.out.cell rfl
  have c2 : W2.cell? ⟨w.heap.size + 1, 2, none⟩ = some (.slice a zs.length c) := KF.out.cell rfl
  go_upto_region 6 with (go_at_call 20; (with_reducible refine Calls.mono (PR.out _ ?_) ?_); (focus exact (HV.out.mono HBW.out)); rintro e1 w1 ⟨rfl, hb1⟩)
  clear m0 m1 m2 m3 m4 m5 m6 m7 m8
  clear c0 c1 c2
  have HB1 := Lib.hid (Bw.alloc hb1 (.cells #[.int .i64 (RX 0), .int .i64 (RX 1), .int .i64 (RX 2), .int .i64 (RX 3), .int .i64 (RX 4), .int .i64 (RX 5), .int .i64 (RX 6), .int .i64 (RX 7), .int .i64 (RX 8)] 25))
  have B3 := Lib.hid (Blk.new w1 25 #[.int .i64 (RX 0), .int .i64 (RX 1), .int .i64 (RX 2), .int .i64 (RX 3), .int .i64 (RX 4), .int .i64 (RX 5), .int .i64 (RX 6), .int .i64 (RX 7), .int .i64 (RX 8)])
  clear hb1
  obtain ⟨g3, hg3⟩ : ∃ g3, w1.heap.size = g3 := ⟨_, rfl⟩
  rw [hg3] at B3 ⊢
  clear hg3
  obtain ⟨W3, hW⟩ : ∃ W3, w1.alloc (.cells #[.int .i64 (RX 0), .int .i64 (RX 1), .int .i64 (RX 2), .int .i64 (RX 3), .int .i64 (RX 4), .int .i64 (RX 5), .int .i64 (RX 6), .int .i64 (RX 7), .int .i64 (RX 8)] 25) = W3 := ⟨_, rfl⟩
  rw [hW] at HB1 B3  ⊢
  clear hW
  replace HBW := Lib.hid (HBW.out.trans HB1.out)
  replace KM := Lib.hid (KM.out.bw HB1.out)
  replace KF := Lib.hid (KF.out.bw HB1.out)
  replace B1 := Lib.hid (B1.out.bw HB1.out)
  replace R1 := Lib.hid (R1.out.mono HB1.out)
  replace B2 := Lib.hid (B2.out.bw HB1.out)
  replace R2 := Lib.hid (R2.out.mono HB1.out)
  clear HB1
  have m0 : W3.cell? ⟨w.heap.size, 0, none⟩ = some (.int .i64 (x 0)) := KM.out.cell rfl
  have m1 : W3.cell? ⟨w.heap.size, 1, none⟩ = some (.int .i64 (x 1)) := KM.out.cell rfl
  have m2 : W3.cell? ⟨w.heap.size, 2, none⟩ = some (.int .i64 (x 2)) := KM.out.cell rfl
  have m3 : W3.cell? ⟨w.heap.size, 3, none⟩ = some (.int .i64 (x 3)) := KM.out.cell rfl
  have m4 : W3.cell? ⟨w.heap.size, 4, none⟩ = some (.int .i64 (x 4)) := KM.out.cell rfl
  have m5 : W3.cell? ⟨w.heap.size, 5, none⟩ = some (.int .i64 (x 5)) := KM.out.cell rfl
  have m6 : W3.cell? ⟨w.heap.size, 6, none⟩ = some (.int .i64 (x 6)) := KM.out.cell rfl
  have m7 : W3.cell? ⟨w.heap.size, 7, none⟩ = some (.int .i64 (x 7)) := KM.out.cell rfl
  have m8 : W3.cell? ⟨w.heap.size, 8, none⟩ = some (.int .i64 (x 8)) := KM.out.cell rfl
  have c0 : W3.cell? ⟨w.heap.size + 1, 0, none⟩ = some (.int .i64 t) := KF.out.cell rfl
  have c1 : W3.cell? ⟨w.heap.size + 1, 1, none⟩ = some (.int .i64 k) := KF.out.cell rfl
  have c2 : W3.cell? ⟨w.heap.size + 1, 2, none⟩ = some (.slice a zs.length c) := KF.out.cell rfl
  go_upto_region 7 with (go_at_call 21; (with_reducible refine Calls.mono (RR.out _ ?_) ?_); (focus exact (HV.out.mono HBW.out)); rintro e1 w1 ⟨rfl, hb1⟩)
  clear m0 m1 m2 m3 m4 m5 m6 m7 m8
  clear c0 c1 c2
  have HB1 := Lib.hid (Bw.alloc hb1 (.cells #[.int .i64 (RX 0), .int .i64 (RX 1), .int .i64 (RX 2), .int .i64 (RX 3), .int .i64 (RX 4), .int .i64 (RX 5), .int .i64 (RX 6), .int .i64 (RX 7), .int .i64 (RX 8)] 25))
  have B4 := Lib.hid (Blk.new w1 25 #[.int .i64 (RX 0), .int .i64 (RX 1), .int .i64 (RX 2), .int .i64 (RX 3), .int .i64 (RX 4), .int .i64 (RX 5), .int .i64 (RX 6), .int .i64 (RX 7), .int .i64 (RX 8)])
  clear hb1
  obtain ⟨g4, hg4⟩ : ∃ g4, w1.heap.size = g4 := ⟨_, rfl⟩
  rw [hg4] at B4 ⊢
  clear hg4
  obtain ⟨W4, hW⟩ : ∃ W4, w1.alloc (.cells #[.int .i64 (RX 0), .int .i64 (RX 1), .int .i64 (RX 2), .int .i64 (RX 3), .int .i64 (RX 4), .int .i64 (RX 5), .int .i64 (RX 6), .int .i64 (RX 7), .int .i64 (RX 8)] 25) = W4 := ⟨_, rfl⟩
  rw [hW] at HB1 B4  ⊢
  clear hW
  replace HBW := Lib.hid (HBW.out.trans HB1.out)
  replace KM := Lib.hid (KM.out.bw HB1.out)
  replace KF := Lib.hid (KF.out.bw HB1.out)
  replace B1 := Lib.hid (B1.out.bw HB1.out)
  replace R1 := Lib.hid (R1.out.mono HB1.out)
  replace B2 := Lib.hid (B2.out.bw HB1.out)
  replace R2 := Lib.hid (R2.out.mono HB1.out)
  replace B3 := Lib.hid (B3.out.bw HB1.out)
  clear HB1
  have m0 : W4.cell? ⟨w.heap.size, 0, none⟩ = some (.int .i64 (x 0)) := KM.out.cell rfl
  have m1 : W4.cell? ⟨w.heap.size, 1, none⟩ = some (.int .i64 (x 1)) := KM.out.cell rfl
  have m2 : W4.cell? ⟨w.heap.size, 2, none⟩ = some (.int .i64 (x 2)) := KM.out.cell rfl
  have m3 : W4.cell? ⟨w.heap.size, 3, none⟩ = some (.int .i64 (x 3)) := KM.out.cell rfl
  have m4 : W4.cell? ⟨w.heap.size, 4, none⟩ = some (.int .i64 (x 4)) := KM.out.cell rfl
  have m5 : W4.cell? ⟨w.heap.size, 5, none⟩ = some (.int .i64 (x 5)) := KM.out.cell rfl
  have m6 : W4.cell? ⟨w.heap.size, 6, none⟩ = some (.int .i64 (x 6)) := KM.out.cell rfl
  have m7 : W4.cell? ⟨w.heap.size, 7, none⟩ = some (.int .i64 (x 7)) := KM.out.cell rfl
  have m8 : W4.cell? ⟨w.heap.size, 8, none⟩ = some (.int .i64 (x 8)) := KM.out.cell rfl
  have c0 : W4.cell? ⟨w.heap.size + 1, 0, none⟩ = some (.int .i64 t) := KF.out.cell rfl
  have c1 : W4.cell? ⟨w.heap.size + 1, 1, none⟩ = some (.int .i64 k) := KF.out.cell rfl
  have c2 : W4.cell? ⟨w.heap.size + 1, 2, none⟩ = some (.slice a zs.length c) := KF.out.cell rfl
  clear m0 m1 m2 m3 m4 m5 m6 m7 m8
  clear c0 c1 c2
  have n1_0 : W4.cell? ⟨g1, 0, none⟩ = some (.int .i64 T) := B1.out.cell rfl
  have n1_1 : W4.cell? ⟨g1, 1, none⟩ = some (.int .i64 K) := B1.out.cell rfl
  have n1_2 : W4.cell? ⟨g1, 2, none⟩ = some (.slice a1 L.length c1') := B1.out.cell rfl
  have n2_0 : W4.cell? ⟨g2, 0, none⟩ = some (.int .i64 T) := B2.out.cell rfl
  have n2_1 : W4.cell? ⟨g2, 1, none⟩ = some (.int .i64 K) := B2.out.cell rfl
  have n2_2 : W4.cell? ⟨g2, 2, none⟩ = some (.slice a2 L.length c2') := B2.out.cell rfl
  have n3_0 : W4.cell? ⟨g3, 0, none⟩ = some (.int .i64 (RX 0)) := B3.out.cell rfl
  have n3_1 : W4.cell? ⟨g3, 1, none⟩ = some (.int .i64 (RX 1)) := B3.out.cell rfl
  have n3_2 : W4.cell? ⟨g3, 2, none⟩ = some (.int .i64 (RX 2)) := B3.out.cell rfl
  have n3_3 : W4.cell? ⟨g3, 3, none⟩ = some (.int .i64 (RX 3)) := B3.out.cell rfl
  have n3_4 : W4.cell? ⟨g3, 4, none⟩ = some (.int .i64 (RX 4)) := B3.out.cell rfl
  have n3_5 : W4.cell? ⟨g3, 5, none⟩ = some (.int .i64 (RX 5)) := B3.out.cell rfl
  have n3_6 : W4.cell? ⟨g3, 6, none⟩ = some (.int .i64 (RX 6)) := B3.out.cell rfl
  have n3_7 : W4.cell? ⟨g3, 7, none⟩ = some (.int .i64 (RX 7)) := B3.out.cell rfl
  have n3_8 : W4.cell? ⟨g3, 8, none⟩ = some (.int .i64 (RX 8)) := B3.out.cell rfl
  have n4_0 : W4.cell? ⟨g4, 0, none⟩ = some (.int .i64 (RX 0)) := B4.out.cell rfl
  have n4_1 : W4.cell? ⟨g4, 1, none⟩ = some (.int .i64 (RX 1)) := B4.out.cell rfl
  have n4_2 : W4.cell? ⟨g4, 2, none⟩ = some (.int .i64 (RX 2)) := B4.out.cell rfl
  have n4_3 : W4.cell? ⟨g4, 3, none⟩ = some (.int .i64 (RX 3)) := B4.out.cell rfl
  have n4_4 : W4.cell? ⟨g4, 4, none⟩ = some (.int .i64 (RX 4)) := B4.out.cell rfl
  have n4_5 : W4.cell? ⟨g4, 5, none⟩ = some (.int .i64 (RX 5)) := B4.out.cell rfl
  have n4_6 : W4.cell? ⟨g4, 6, none⟩ = some (.int .i64 (RX 6)) := B4.out.cell rfl
  have n4_7 : W4.cell? ⟨g4, 7, none⟩ = some (.int .i64 (RX 7)) := B4.out.cell rfl
  have n4_8 : W4.cell? ⟨g4, 8, none⟩ = some (.int .i64 (RX 8)) := B4.out.cell rfl
  go_wp2_with (first | (go_at_call 22; (with_reducible refine Calls.mono (AL.out _ _ _ R1.out R2.out) ?_); rintro e1 w5 ⟨rfl, hb5⟩; clear n1_0 n1_1 n1_2 n2_0 n2_1 n2_2 n3_0 n3_1 n3_2 n3_3 n3_4 n3_5 n3_6 n3_7 n3_8 n4_0 n4_1 n4_2 n4_3 n4_4 n4_5 n4_6 n4_7 n4_8; replace B3 := Lib.hid (B3.out.bw hb5); replace B4 := Lib.hid (B4.out.bw hb5); replace HBW := Lib.hid (HBW.out.trans hb5); clear hb5; have n3_0 : w5.cell? ⟨g3, 0, none⟩ = some (.int .i64 (RX 0)) := B3.out.cell rfl; have n3_1 : w5.cell? ⟨g3, 1, none⟩ = some (.int .i64 (RX 1)) := B3.out.cell rfl; have n3_2 : w5.cell? ⟨g3, 2, none⟩ = some (.int .i64 (RX 2)) := B3.out.cell rfl; have n3_3 : w5.cell? ⟨g3, 3, none⟩ = some (.int .i64 (RX 3)) := B3.out.cell rfl; have n3_4 : w5.cell? ⟨g3, 4, none⟩ = some (.int .i64 (RX 4)) := B3.out.cell rfl; have n3_5 : w5.cell? ⟨g3, 5, none⟩ = some (.int .i64 (RX 5)) := B3.out.cell rfl; have n3_6 : w5.cell? ⟨g3, 6, none⟩ = some (.int .i64 (RX 6)) := B3.out.cell rfl; have n3_7 : w5.cell? ⟨g3, 7, none⟩ = some (.int .i64 (RX 7)) := B3.out.cell rfl; have n3_8 : w5.cell? ⟨g3, 8, none⟩ = some (.int .i64 (RX 8)) := B3.out.cell rfl; have n4_0 : w5.cell? ⟨g4, 0, none⟩ = some (.int .i64 (RX 0)) := B4.out.cell rfl; have n4_1 : w5.cell? ⟨g4, 1, none⟩ = some (.int .i64 (RX 1)) := B4.out.cell rfl; have n4_2 : w5.cell? ⟨g4, 2, none⟩ = some (.int .i64 (RX 2)) := B4.out.cell rfl; have n4_3 : w5.cell? ⟨g4, 3, none⟩ = some (.int .i64 (RX 3)) := B4.out.cell rfl; have n4_4 : w5.cell? ⟨g4, 4, none⟩ = some (.int .i64 (RX 4)) := B4.out.cell rfl; have n4_5 : w5.cell? ⟨g4, 5, none⟩ = some (.int .i64 (RX 5)) := B4.out.cell rfl; have n4_6 : w5.cell? ⟨g4, 6, none⟩ = some (.int .i64 (RX 6)) := B4.out.cell rfl; have n4_7 : w5.cell? ⟨g4, 7, none⟩ = some (.int .i64 (RX 7)) := B4.out.cell rfl; have n4_8 : w5.cell? ⟨g4, 8, none⟩ = some (.int .i64 (RX 8)) := B4.out.cell rfl) | (go_at_call 15; (with_reducible refine Calls.mono (AW.out _) ?_); rintro e1 w6 ⟨rfl, hb6⟩; replace HBW := Lib.hid (HBW.out.trans hb6); clear hb6))
  go_ret
  exact ⟨rfl, HBW.out⟩
end Go.Proofs.Sky

namespace Go.Proofs.Sky
open Go Go.RowKit Go.Shelf
set_option maxHeartbeats 4000000
set_option maxRecDepth 4000
/-! chapter 31: the reference's Delay -/
theorem rndQ_90 (S : Int) : rndQ S 1237940039285380274899124224 = rndH S 90 := by
  have e1 : (2 : Int) ^ (90 - 1) = 618970019642690137449562112 := by decide
  have e2 : (2 : Int) ^ 90 = 1237940039285380274899124224 := by decide
  unfold rndQ rndH
  rw [e1, e2]
  split <;> omega
theorem rndQ_60 (S : Int) : rndQ S 1152921504606846976 = rndH S 60 := by
  have e1 : (2 : Int) ^ (60 - 1) = 576460752303423488 := by decide
  have e2 : (2 : Int) ^ 60 = 1152921504606846976 := by decide
  unfold rndQ rndH
  rw [e1, e2]
  split <;> omega
theorem pr4 (a b c d : Int) : prodI [a, b, c, d] = a * b * c * d := by simp [prodI]
theorem pr3 (a b c : Int) : prodI [a, b, c] = a * b * c := by simp [prodI]
theorem iono_sum (x : Nat → Int) (z : Nat) : prodI [x 0, 1073741824, 1073741824, 1073741824] + prodI [x 1, z, 1073741824, 1073741824] + prodI [x 2, z, z, 1073741824] + prodI [x 3, z, z, z] = hsum x z 4 4 := by
  rw [hsum4, pr4, pr4, pr4, pr4, Int.mul_assoc (x 2) z z, Int.mul_assoc (x 3 * z) z z, Int.mul_assoc (x 3) z (z * z)]
  omega
theorem tropo_sum (x : Nat → Int) (z : Nat) : prodI [x 4, 1073741824, 1073741824] + prodI [x 5, z, 1073741824] + prodI [x 6, z, z] = hsum (fun i => x (4 + i)) z 3 3 := by
  rw [hsum3, pr3, pr3, pr3, Int.mul_assoc (x 6) z z]
  show _ = x 6 * (z * z) + x 5 * z * 1073741824 + x 4 * 1152921504606846976
  omega
theorem prod_ab (ls : List Int) (h : ∀ y ∈ ls, -4611686018427387904 ≤ y ∧ y ≤ 4611686018427387904) (hn : ls.length ≤ 6) : ((prodI ls).natAbs : Int) ≤ 1000000000000000000000000000000000000000000000000000000000000000000000000000000000000000000000000000000000000000000000000 := by
  have h9 := prod_bd6 ls h hn ls.length
  rw [List.take_length] at h9
  omega
theorem RDelay_bad (x : Nat → Int) (up : Int) (w : World) (h : errA x ≠ 0) :
    Calls Try.prog 10 #[.agg #[.int .i64 (x 0), .int .i64 (x 1), .int .i64 (x 2), .int .i64 (x 3), .int .i64 (x 4), .int .i64 (x 5), .int .i64 (x 6), .int .i64 (x 7), .int .i64 (x 8)], .int .i64 up] w fun e w' => e = .returned (.tuple #[.int .i64 0, .int .i64 0, .int .i64 (errA x)]) ∧ Bw w w' := by
  have CK := Lib.hid (fun W => rCheck_any x W)
  have hne : (errA x != 0) = true := by simpa using h
  have HBW := Lib.hid (Bw.alloc (Bw.refl w) (.cells #[.int .i64 (x 0), .int .i64 (x 1), .int .i64 (x 2), .int .i64 (x 3), .int .i64 (x 4), .int .i64 (x 5), .int .i64 (x 6), .int .i64 (x 7), .int .i64 (x 8)] 25))
  have KX := Lib.hid (Blk.new w 25 #[.int .i64 (x 0), .int .i64 (x 1), .int .i64 (x 2), .int .i64 (x 3), .int .i64 (x 4), .int .i64 (x 5), .int .i64 (x 6), .int .i64 (x 7), .int .i64 (x 8)])
  generalize errA x = er at *
  go_enter Try.func10, Try.ntmps10
  go_upto_region 1 with fail
  obtain ⟨W0, hW0⟩ : ∃ W0, (w.alloc (.cells #[.int .i64 (x 0), .int .i64 (x 1), .int .i64 (x 2), .int .i64 (x 3), .int .i64 (x 4), .int .i64 (x 5), .int .i64 (x 6), .int .i64 (x 7), .int .i64 (x 8)] 25)) = W0 := ⟨_, rfl⟩
  rw [hW0] at HBW KX ⊢
  clear hW0
  have k0 : W0.cell? ⟨w.heap.size, 0, none⟩ = some (.int .i64 (x 0)) := KX.out.cell rfl
  have k1 : W0.cell? ⟨w.heap.size, 1, none⟩ = some (.int .i64 (x 1)) := KX.out.cell rfl
  have k2 : W0.cell? ⟨w.heap.size, 2, none⟩ = some (.int .i64 (x 2)) := KX.out.cell rfl
  have k3 : W0.cell? ⟨w.heap.size, 3, none⟩ = some (.int .i64 (x 3)) := KX.out.cell rfl
  have k4 : W0.cell? ⟨w.heap.size, 4, none⟩ = some (.int .i64 (x 4)) := KX.out.cell rfl
  have k5 : W0.cell? ⟨w.heap.size, 5, none⟩ = some (.int .i64 (x 5)) := KX.out.cell rfl
  have k6 : W0.cell? ⟨w.heap.size, 6, none⟩ = some (.int .i64 (x 6)) := KX.out.cell rfl
  have k7 : W0.cell? ⟨w.heap.size, 7, none⟩ = some (.int .i64 (x 7)) := KX.out.cell rfl
  have k8 : W0.cell? ⟨w.heap.size, 8, none⟩ = some (.int .i64 (x 8)) := KX.out.cell rfl
  go_wp2_with (go_at_call 14; (with_reducible refine Calls.mono (CK.out _) ?_); rintro e1 w1 ⟨rfl, hb9⟩; replace HBW := Lib.hid (HBW.out.trans hb9); replace KX := Lib.hid (KX.out.bw hb9); clear hb9; clear k0 k1 k2 k3 k4 k5 k6 k7 k8; have k0 : w1.cell? ⟨w.heap.size, 0, none⟩ = some (.int .i64 (x 0)) := KX.out.cell rfl; have k1 : w1.cell? ⟨w.heap.size, 1, none⟩ = some (.int .i64 (x 1)) := KX.out.cell rfl; have k2 : w1.cell? ⟨w.heap.size, 2, none⟩ = some (.int .i64 (x 2)) := KX.out.cell rfl; have k3 : w1.cell? ⟨w.heap.size, 3, none⟩ = some (.int .i64 (x 3)) := KX.out.cell rfl; have k4 : w1.cell? ⟨w.heap.size, 4, none⟩ = some (.int .i64 (x 4)) := KX.out.cell rfl; have k5 : w1.cell? ⟨w.heap.size, 5, none⟩ = some (.int .i64 (x 5)) := KX.out.cell rfl; have k6 : w1.cell? ⟨w.heap.size, 6, none⟩ = some (.int .i64 (x 6)) := KX.out.cell rfl; have k7 : w1.cell? ⟨w.heap.size, 7, none⟩ = some (.int .i64 (x 7)) := KX.out.cell rfl; have k8 : w1.cell? ⟨w.heap.size, 8, none⟩ = some (.int .i64 (x 8)) := KX.out.cell rfl)
  refine bodyPost_ret (v := .tuple #[.int .i64 0, .int .i64 0, .int .i64 er]) ?_ rfl ⟨rfl, HBW.out⟩
  simp [results, Try.results10, go_sem]
theorem RDelay_range (x : Nat → Int) (up : Int) (w : World) (h : errA x = 0) (hu : up < 0 ∨ 1073741824 < up) :
    Calls Try.prog 10 #[.agg #[.int .i64 (x 0), .int .i64 (x 1), .int .i64 (x 2), .int .i64 (x 3), .int .i64 (x 4), .int .i64 (x 5), .int .i64 (x 6), .int .i64 (x 7), .int .i64 (x 8)], .int .i64 up] w fun e w' => e = .returned (.tuple #[.int .i64 0, .int .i64 0, .int .i64 2]) ∧ Bw w w' := by
  have CK := Lib.hid (fun W => rCheck_any x W)
  rw [h] at CK
  have WN := Lib.hid (fun W v h => rwithin_any 0 1073741824 [up] v W h)
  rw [show [up].all (inR 0 1073741824) = false by simp [inR]; omega] at WN
  have HBW := Lib.hid (Bw.alloc (Bw.refl w) (.cells #[.int .i64 (x 0), .int .i64 (x 1), .int .i64 (x 2), .int .i64 (x 3), .int .i64 (x 4), .int .i64 (x 5), .int .i64 (x 6), .int .i64 (x 7), .int .i64 (x 8)] 25))
  have KX := Lib.hid (Blk.new w 25 #[.int .i64 (x 0), .int .i64 (x 1), .int .i64 (x 2), .int .i64 (x 3), .int .i64 (x 4), .int .i64 (x 5), .int .i64 (x 6), .int .i64 (x 7), .int .i64 (x 8)])
  go_enter Try.func10, Try.ntmps10
  go_upto_region 1 with fail
  obtain ⟨W0, hW0⟩ : ∃ W0, (w.alloc (.cells #[.int .i64 (x 0), .int .i64 (x 1), .int .i64 (x 2), .int .i64 (x 3), .int .i64 (x 4), .int .i64 (x 5), .int .i64 (x 6), .int .i64 (x 7), .int .i64 (x 8)] 25)) = W0 := ⟨_, rfl⟩
  rw [hW0] at HBW KX ⊢
  clear hW0
  have k0 : W0.cell? ⟨w.heap.size, 0, none⟩ = some (.int .i64 (x 0)) := KX.out.cell rfl
  have k1 : W0.cell? ⟨w.heap.size, 1, none⟩ = some (.int .i64 (x 1)) := KX.out.cell rfl
  have k2 : W0.cell? ⟨w.heap.size, 2, none⟩ = some (.int .i64 (x 2)) := KX.out.cell rfl
  have k3 : W0.cell? ⟨w.heap.size, 3, none⟩ = some (.int .i64 (x 3)) := KX.out.cell rfl
  have k4 : W0.cell? ⟨w.heap.size, 4, none⟩ = some (.int .i64 (x 4)) := KX.out.cell rfl
  have k5 : W0.cell? ⟨w.heap.size, 5, none⟩ = some (.int .i64 (x 5)) := KX.out.cell rfl
  have k6 : W0.cell? ⟨w.heap.size, 6, none⟩ = some (.int .i64 (x 6)) := KX.out.cell rfl
  have k7 : W0.cell? ⟨w.heap.size, 7, none⟩ = some (.int .i64 (x 7)) := KX.out.cell rfl
  have k8 : W0.cell? ⟨w.heap.size, 8, none⟩ = some (.int .i64 (x 8)) := KX.out.cell rfl
  go_wp2_with (first | (go_at_call 14; (with_reducible refine Calls.mono (CK.out _) ?_); rintro e1 w1 ⟨rfl, hb9⟩; replace HBW := Lib.hid (HBW.out.trans hb9); replace KX := Lib.hid (KX.out.bw hb9); clear hb9; clear k0 k1 k2 k3 k4 k5 k6 k7 k8; have k0 : w1.cell? ⟨w.heap.size, 0, none⟩ = some (.int .i64 (x 0)) := KX.out.cell rfl; have k1 : w1.cell? ⟨w.heap.size, 1, none⟩ = some (.int .i64 (x 1)) := KX.out.cell rfl; have k2 : w1.cell? ⟨w.heap.size, 2, none⟩ = some (.int .i64 (x 2)) := KX.out.cell rfl; have k3 : w1.cell? ⟨w.heap.size, 3, none⟩ = some (.int .i64 (x 3)) := KX.out.cell rfl; have k4 : w1.cell? ⟨w.heap.size, 4, none⟩ = some (.int .i64 (x 4)) := KX.out.cell rfl; have k5 : w1.cell? ⟨w.heap.size, 5, none⟩ = some (.int .i64 (x 5)) := KX.out.cell rfl; have k6 : w1.cell? ⟨w.heap.size, 6, none⟩ = some (.int .i64 (x 6)) := KX.out.cell rfl; have k7 : w1.cell? ⟨w.heap.size, 7, none⟩ = some (.int .i64 (x 7)) := KX.out.cell rfl; have k8 : w1.cell? ⟨w.heap.size, 8, none⟩ = some (.int .i64 (x 8)) := KX.out.cell rfl) | (go_at_call 32; (with_reducible refine Calls.mono (WN.out _ _ ?_) ?_); (focus exact RdI.litN _ _ _ [up] _ (by simp) (by rfl) (by simp)); rintro e2 w2 ⟨rfl, hb9⟩; replace hb9 := (Bw.alloc (Bw.refl w1) (.cells #[.int .i64 up] 3)).trans hb9; replace HBW := Lib.hid (HBW.out.trans hb9); replace KX := Lib.hid (KX.out.bw hb9); clear hb9; clear k0 k1 k2 k3 k4 k5 k6 k7 k8; have k0 : w2.cell? ⟨w.heap.size, 0, none⟩ = some (.int .i64 (x 0)) := KX.out.cell rfl; have k1 : w2.cell? ⟨w.heap.size, 1, none⟩ = some (.int .i64 (x 1)) := KX.out.cell rfl; have k2 : w2.cell? ⟨w.heap.size, 2, none⟩ = some (.int .i64 (x 2)) := KX.out.cell rfl; have k3 : w2.cell? ⟨w.heap.size, 3, none⟩ = some (.int .i64 (x 3)) := KX.out.cell rfl; have k4 : w2.cell? ⟨w.heap.size, 4, none⟩ = some (.int .i64 (x 4)) := KX.out.cell rfl; have k5 : w2.cell? ⟨w.heap.size, 5, none⟩ = some (.int .i64 (x 5)) := KX.out.cell rfl; have k6 : w2.cell? ⟨w.heap.size, 6, none⟩ = some (.int .i64 (x 6)) := KX.out.cell rfl; have k7 : w2.cell? ⟨w.heap.size, 7, none⟩ = some (.int .i64 (x 7)) := KX.out.cell rfl; have k8 : w2.cell? ⟨w.heap.size, 8, none⟩ = some (.int .i64 (x 8)) := KX.out.cell rfl))
  refine bodyPost_ret (v := .tuple #[.int .i64 0, .int .i64 0, .int .i64 2]) ?_ rfl ⟨rfl, HBW.out⟩
  simp [results, Try.results10, go_sem]
theorem RDelay_ok (x : Nat → Int) (up : Int) (w : World) (h : errA x = 0) (h1 : 0 ≤ up) (h2 : up ≤ 1073741824) :
    Calls Try.prog 10 #[.agg #[.int .i64 (x 0), .int .i64 (x 1), .int .i64 (x 2), .int .i64 (x 3), .int .i64 (x 4), .int .i64 (x 5), .int .i64 (x 6), .int .i64 (x 7), .int .i64 (x 8)], .int .i64 up] w fun e w' => e = .returned (.tuple #[.int .i64 (rndH (hsum x (zD up) 4 4) 90), .int .i64 (rndH (hsum (fun i => x (4 + i)) (zD up) 3 3) 60), .int .i64 0]) ∧ Bw w w' := by
  have CK := Lib.hid (fun W => rCheck_any x W)
  rw [h] at CK
  have WN := Lib.hid (fun W v h => rwithin_any 0 1073741824 [up] v W h)
  rw [show [up].all (inR 0 1073741824) = true by simp [inR]; omega] at WN
  have hall := errA_bd h
  obtain ⟨z, hz⟩ : ∃ z, z = zD up := ⟨_, rfl⟩
  have hzz : (1073741824 : Int) - up = (z : Int) := by rw [hz]; unfold zD; omega
  have hz2 : z ≤ 1073741824 := by omega
  rw [← hz]
  have hs1 := iono_sum x z
  have hs2 := tropo_sum x z
  have x0 := hall 0 (by omega)
  have x1 := hall 1 (by omega)
  have x2 := hall 2 (by omega)
  have x3 := hall 3 (by omega)
  have x4 := hall 4 (by omega)
  have x5 := hall 5 (by omega)
  have x6 := hall 6 (by omega)
  have hba : -4951760157141521099596496896000000 ≤ hsum x z 4 4 ∧ hsum x z 4 4 ≤ 4951760157141521099596496896000000 := by
    rw [hsum4]
    have z2 := mul_absbd (x := (z : Int)) (y := (z : Int)) (X := 1073741824) (Y := 1073741824) (by omega) (by omega)
    have z3 := mul_absbd (x := (z : Int)) (y := (z : Int) * z) (X := 1073741824) (Y := 1073741824 * 1073741824) (by omega) z2
    have a1 := mul_absbd (x := x 1) (y := (z : Int)) (X := 1000000) (Y := 1073741824) (by omega) (by omega)
    have a2 := mul_absbd (x := x 2) (y := (z : Int) * z) (X := 1000000) (Y := 1073741824 * 1073741824) (by omega) z2
    have a3 := mul_absbd (x := x 3) (y := (z : Int) * (z * z)) (X := 1000000) (Y := 1073741824 * (1073741824 * 1073741824)) (by omega) z3
    omega
  have hbb : -4611686018427387904000000 ≤ hsum (fun i => x (4 + i)) z 3 3 ∧ hsum (fun i => x (4 + i)) z 3 3 ≤ 4611686018427387904000000 := by
    rw [hsum3]
    show -4611686018427387904000000 ≤ x 6 * (z * z) + x 5 * z * 1073741824 + x 4 * 1152921504606846976 ∧ x 6 * (z * z) + x 5 * z * 1073741824 + x 4 * 1152921504606846976 ≤ 4611686018427387904000000
    have z2 := mul_absbd (x := (z : Int)) (y := (z : Int)) (X := 1073741824) (Y := 1073741824) (by omega) (by omega)
    have a1 := mul_absbd (x := x 5) (y := (z : Int)) (X := 1000000) (Y := 1073741824) (by omega) (by omega)
    have a2 := mul_absbd (x := x 6) (y := (z : Int) * z) (X := 1000000) (Y := 1073741824 * 1073741824) (by omega) z2
    omega
  clear hz hall
  have HBA := Lib.hid hba
  have HBB := Lib.hid hbb
  have HS1 := Lib.hid hs1
  have HS2 := Lib.hid hs2
  clear hba hbb hs1 hs2
  generalize hsum x z 4 4 = HI at *
  generalize hsum (fun i => x (4 + i)) z 3 3 = HT at *
  rw [← rndQ_90, ← rndQ_60]
  have PR := Lib.hid (fun g base U D vl ls W a1 a2 a3 a4 a5 a6 a7 a8 => Product_any g base U D vl ls W a1 a2 a3 a4 a5 a6 a7 a8)
  unfold ProdP at PR
  have RO := Lib.hid (fun g base U D vl ls W S P a1 a2 a3 a4 a5 a6 a7 a8 a9 => Rounded_any g base U D vl ls W a1 a2 a3 a4 a5 a6 S P a7 a8 a9)
  have HBW := Lib.hid (Bw.alloc (Bw.refl w) (.cells #[.int .i64 (x 0), .int .i64 (x 1), .int .i64 (x 2), .int .i64 (x 3), .int .i64 (x 4), .int .i64 (x 5), .int .i64 (x 6), .int .i64 (x 7), .int .i64 (x 8)] 25))
  have KX := Lib.hid (Blk.new w 25 #[.int .i64 (x 0), .int .i64 (x 1), .int .i64 (x 2), .int .i64 (x 3), .int .i64 (x 4), .int .i64 (x 5), .int .i64 (x 6), .int .i64 (x 7), .int .i64 (x 8)])
  go_enter Try.func10, Try.ntmps10
  go_upto_region 1 with fail
  obtain ⟨W0, hW0⟩ : ∃ W0, (w.alloc (.cells #[.int .i64 (x 0), .int .i64 (x 1), .int .i64 (x 2), .int .i64 (x 3), .int .i64 (x 4), .int .i64 (x 5), .int .i64 (x 6), .int .i64 (x 7), .int .i64 (x 8)] 25)) = W0 := ⟨_, rfl⟩
  rw [hW0] at HBW KX ⊢
  clear hW0
  have k0 : W0.cell? ⟨w.heap.size, 0, none⟩ = some (.int .i64 (x 0)) := KX.out.cell rfl
  have k1 : W0.cell? ⟨w.heap.size, 1, none⟩ = some (.int .i64 (x 1)) := KX.out.cell rfl
  have k2 : W0.cell? ⟨w.heap.size, 2, none⟩ = some (.int .i64 (x 2)) := KX.out.cell rfl
  have k3 : W0.cell? ⟨w.heap.size, 3, none⟩ = some (.int .i64 (x 3)) := KX.out.cell rfl
  have k4 : W0.cell? ⟨w.heap.size, 4, none⟩ = some (.int .i64 (x 4)) := KX.out.cell rfl
  have k5 : W0.cell? ⟨w.heap.size, 5, none⟩ = some (.int .i64 (x 5)) := KX.out.cell rfl
  have k6 : W0.cell? ⟨w.heap.size, 6, none⟩ = some (.int .i64 (x 6)) := KX.out.cell rfl
  have k7 : W0.cell? ⟨w.heap.size, 7, none⟩ = some (.int .i64 (x 7)) := KX.out.cell rfl
  have k8 : W0.cell? ⟨w.heap.size, 8, none⟩ = some (.int .i64 (x 8)) := KX.out.cell rfl
  go_upto_region 8 with (first | (go_at_call 14; (with_reducible refine Calls.mono (CK.out _) ?_); rintro e1 w1 ⟨rfl, hb9⟩; replace HBW := Lib.hid (HBW.out.trans hb9); replace KX := Lib.hid (KX.out.bw hb9); clear hb9; clear k0 k1 k2 k3 k4 k5 k6 k7 k8; have k0 : w1.cell? ⟨w.heap.size, 0, none⟩ = some (.int .i64 (x 0)) := KX.out.cell rfl; have k1 : w1.cell? ⟨w.heap.size, 1, none⟩ = some (.int .i64 (x 1)) := KX.out.cell rfl; have k2 : w1.cell? ⟨w.heap.size, 2, none⟩ = some (.int .i64 (x 2)) := KX.out.cell rfl; have k3 : w1.cell? ⟨w.heap.size, 3, none⟩ = some (.int .i64 (x 3)) := KX.out.cell rfl; have k4 : w1.cell? ⟨w.heap.size, 4, none⟩ = some (.int .i64 (x 4)) := KX.out.cell rfl; have k5 : w1.cell? ⟨w.heap.size, 5, none⟩ = some (.int .i64 (x 5)) := KX.out.cell rfl; have k6 : w1.cell? ⟨w.heap.size, 6, none⟩ = some (.int .i64 (x 6)) := KX.out.cell rfl; have k7 : w1.cell? ⟨w.heap.size, 7, none⟩ = some (.int .i64 (x 7)) := KX.out.cell rfl; have k8 : w1.cell? ⟨w.heap.size, 8, none⟩ = some (.int .i64 (x 8)) := KX.out.cell rfl) | (go_at_call 32; (with_reducible refine Calls.mono (WN.out _ _ ?_) ?_); (focus exact RdI.litN _ _ _ [up] _ (by simp) (by rfl) (by simp)); rintro e2 w2 ⟨rfl, hb9⟩; replace hb9 := (Bw.alloc (Bw.refl w1) (.cells #[.int .i64 up] 3)).trans hb9; replace HBW := Lib.hid (HBW.out.trans hb9); replace KX := Lib.hid (KX.out.bw hb9); clear hb9; clear k0 k1 k2 k3 k4 k5 k6 k7 k8; have k0 : w2.cell? ⟨w.heap.size, 0, none⟩ = some (.int .i64 (x 0)) := KX.out.cell rfl; have k1 : w2.cell? ⟨w.heap.size, 1, none⟩ = some (.int .i64 (x 1)) := KX.out.cell rfl; have k2 : w2.cell? ⟨w.heap.size, 2, none⟩ = some (.int .i64 (x 2)) := KX.out.cell rfl; have k3 : w2.cell? ⟨w.heap.size, 3, none⟩ = some (.int .i64 (x 3)) := KX.out.cell rfl; have k4 : w2.cell? ⟨w.heap.size, 4, none⟩ = some (.int .i64 (x 4)) := KX.out.cell rfl; have k5 : w2.cell? ⟨w.heap.size, 5, none⟩ = some (.int .i64 (x 5)) := KX.out.cell rfl; have k6 : w2.cell? ⟨w.heap.size, 6, none⟩ = some (.int .i64 (x 6)) := KX.out.cell rfl; have k7 : w2.cell? ⟨w.heap.size, 7, none⟩ = some (.int .i64 (x 7)) := KX.out.cell rfl; have k8 : w2.cell? ⟨w.heap.size, 8, none⟩ = some (.int .i64 (x 8)) := KX.out.cell rfl))
  clear k0 k1 k2 k3 k4 k5 k6 k7 k8
  obtain ⟨ga, hga⟩ : ∃ ga, w2.heap.size = ga := ⟨_, rfl⟩
  have KS := Lib.hid (Bw.alloc (Bw.alloc (Bw.refl w2) (.cells #[.slice none 0 0, .slice none 0 0] 59)) (.cells #[.slice none 0 0, .slice none 0 0] 59))
  have BA := Lib.hid ((Blk.new w2 59 #[.slice none 0 0, .slice none 0 0]).alloc (.cells #[.slice none 0 0, .slice none 0 0] 59))
  have BB : Hid (Blk ((w2.alloc (.cells #[.slice none 0 0, .slice none 0 0] 59)).alloc (.cells #[.slice none 0 0, .slice none 0 0] 59)) (w2.heap.size + 1) 59 #[.slice none 0 0, .slice none 0 0]) := Lib.hid (by have h9 := Blk.new (w2.alloc (.cells #[.slice none 0 0, .slice none 0 0] 59)) 59 #[.slice none 0 0, .slice none 0 0]; simpa using h9)
  have HSZ := Lib.hid (show ((w2.alloc (.cells #[.slice none 0 0, .slice none 0 0] 59)).alloc (.cells #[.slice none 0 0, .slice none 0 0] 59)).heap.size = w2.heap.size + 2 by simp)
  have HKW := Lib.hid (show w.heap.size < w2.heap.size from KX.out.lt)
  obtain ⟨v0, hv0⟩ : ∃ v0, ((w2.alloc (.cells #[.slice none 0 0, .slice none 0 0] 59)).alloc (.cells #[.slice none 0 0, .slice none 0 0] 59)) = v0 := ⟨_, rfl⟩
  rw [hv0] at KS BA BB HSZ ⊢
  clear hv0
  replace HBW := Lib.hid (HBW.out.trans KS.out)
  replace KX := Lib.hid (KX.out.bw KS.out)
  rw [hga] at BA BB HSZ HKW ⊢
  clear hga KS
  have SA : Hid (SumAt v0 ga (ga + 2) 0 0) := Lib.hid ⟨_, _, BA.out, Wd.zero _ _, Wd.zero _ _⟩
  have SB : Hid (SumAt v0 (ga + 1) (ga + 2) 0 0) := Lib.hid ⟨_, _, BB.out, Wd.zero _ _, Wd.zero _ _⟩
  replace HSZ := Lib.hid (Nat.le_of_eq HSZ.out.symm)
  clear BA BB
  have k0 : v0.cell? ⟨w.heap.size, 0, none⟩ = some (.int .i64 (x 0)) := KX.out.cell rfl
  have k1 : v0.cell? ⟨w.heap.size, 1, none⟩ = some (.int .i64 (x 1)) := KX.out.cell rfl
  have k2 : v0.cell? ⟨w.heap.size, 2, none⟩ = some (.int .i64 (x 2)) := KX.out.cell rfl
  have k3 : v0.cell? ⟨w.heap.size, 3, none⟩ = some (.int .i64 (x 3)) := KX.out.cell rfl
  have k4 : v0.cell? ⟨w.heap.size, 4, none⟩ = some (.int .i64 (x 4)) := KX.out.cell rfl
  have k5 : v0.cell? ⟨w.heap.size, 5, none⟩ = some (.int .i64 (x 5)) := KX.out.cell rfl
  have k6 : v0.cell? ⟨w.heap.size, 6, none⟩ = some (.int .i64 (x 6)) := KX.out.cell rfl
  have k7 : v0.cell? ⟨w.heap.size, 7, none⟩ = some (.int .i64 (x 7)) := KX.out.cell rfl
  have k8 : v0.cell? ⟨w.heap.size, 8, none⟩ = some (.int .i64 (x 8)) := KX.out.cell rfl
  go_upto_region 9 with go_loud (go_at_call 33; (with_reducible refine Calls.mono (PR.out ga (ga + 2) 0 0 _ [x 0, 1073741824, 1073741824, 1073741824] _ (SA.out.bw (Bw.alloc (Bw.refl v0) (.cells #[.int .i64 (x 0), .int .i64 (1073741824), .int .i64 (1073741824), .int .i64 (1073741824)] 3))) (by omega) ?_ ?_ (by simp) (by intro y hy; simp at hy; omega) (by decide) (by decide)) ?_); (focus (have := HSZ.out; simp only [World.size_alloc]; omega)); (focus exact RdI.litN _ _ _ [x 0, 1073741824, 1073741824, 1073741824] _ (by simp) (by rfl) (by simp)); rintro e1 v1 ⟨rfl, hk9, U1, D1, hs9, hu9, hd9⟩)
  clear k0 k1 k2 k3 k4 k5 k6 k7 k8
  replace hk9 := (Kx.of_bw (g := ga) (Bw.alloc (Bw.refl v0) (.cells #[.int .i64 (x 0), .int .i64 (1073741824), .int .i64 (1073741824), .int .i64 (1073741824)] 3)) (by have := HSZ.out; omega)).trans hk9
  replace HBW := Lib.hid (hk9.bw HBW.out (by have := HKW.out; omega))
  replace KX := Lib.hid (hk9.blk KX.out (by have := HKW.out; omega))
  replace SB := Lib.hid (SB.out.kx hk9 (by omega) (by omega))
  replace SA := Lib.hid hs9
  replace HSZ := Lib.hid (Nat.le_trans HSZ.out hk9.size)
  have hp9 := prod_ab [x 0, 1073741824, 1073741824, 1073741824] (by intro y hy; simp at hy; omega) (by simp)
  have HE1 := Lib.hid hu9
  have HLa : Hid (U1 + D1 ≤ 1 * 1000000000000000000000000000000000000000000000000000000000000000000000000000000000000000000000000000000000000000000000000 ∧ 0 ≤ U1 ∧ 0 ≤ D1) := Lib.hid ⟨by omega, by obtain ⟨_, _, _, q1, q2⟩ := hs9; exact q1.pos, by obtain ⟨_, _, _, q1, q2⟩ := hs9; exact q2.pos⟩
  clear hk9 hs9 hu9 hd9 hp9
  have k0 : v1.cell? ⟨w.heap.size, 0, none⟩ = some (.int .i64 (x 0)) := KX.out.cell rfl
  have k1 : v1.cell? ⟨w.heap.size, 1, none⟩ = some (.int .i64 (x 1)) := KX.out.cell rfl
  have k2 : v1.cell? ⟨w.heap.size, 2, none⟩ = some (.int .i64 (x 2)) := KX.out.cell rfl
  have k3 : v1.cell? ⟨w.heap.size, 3, none⟩ = some (.int .i64 (x 3)) := KX.out.cell rfl
  have k4 : v1.cell? ⟨w.heap.size, 4, none⟩ = some (.int .i64 (x 4)) := KX.out.cell rfl
  have k5 : v1.cell? ⟨w.heap.size, 5, none⟩ = some (.int .i64 (x 5)) := KX.out.cell rfl
  have k6 : v1.cell? ⟨w.heap.size, 6, none⟩ = some (.int .i64 (x 6)) := KX.out.cell rfl
  have k7 : v1.cell? ⟨w.heap.size, 7, none⟩ = some (.int .i64 (x 7)) := KX.out.cell rfl
  have k8 : v1.cell? ⟨w.heap.size, 8, none⟩ = some (.int .i64 (x 8)) := KX.out.cell rfl
  go_upto_region 10 with go_loud (go_at_call 33; (with_reducible refine Calls.mono (PR.out ga (ga + 2) U1 D1 _ [x 1, (z : Int), 1073741824, 1073741824] _ (SA.out.bw (Bw.alloc (Bw.refl v1) (.cells #[.int .i64 (x 1), .int .i64 ((z : Int)), .int .i64 (1073741824), .int .i64 (1073741824)] 3))) (by omega) ?_ ?_ (by simp) (by intro y hy; simp at hy; omega) (by have := HLa.out; omega) (by have := HLa.out; omega)) ?_); (focus (have := HSZ.out; simp only [World.size_alloc]; omega)); (focus exact RdI.litN _ _ _ [x 1, (z : Int), 1073741824, 1073741824] _ (by simp) (by rfl) (by simp)); rintro e1 v2 ⟨rfl, hk9, U2, D2, hs9, hu9, hd9⟩)
  clear k0 k1 k2 k3 k4 k5 k6 k7 k8
  replace hk9 := (Kx.of_bw (g := ga) (Bw.alloc (Bw.refl v1) (.cells #[.int .i64 (x 1), .int .i64 ((z : Int)), .int .i64 (1073741824), .int .i64 (1073741824)] 3)) (by have := HSZ.out; omega)).trans hk9
  replace HBW := Lib.hid (hk9.bw HBW.out (by have := HKW.out; omega))
  replace KX := Lib.hid (hk9.blk KX.out (by have := HKW.out; omega))
  replace SB := Lib.hid (SB.out.kx hk9 (by omega) (by omega))
  replace SA := Lib.hid hs9
  replace HSZ := Lib.hid (Nat.le_trans HSZ.out hk9.size)
  have hp9 := prod_ab [x 1, (z : Int), 1073741824, 1073741824] (by intro y hy; simp at hy; omega) (by simp)
  have HE2 := Lib.hid hu9
  replace HLa : Hid (U2 + D2 ≤ 2 * 1000000000000000000000000000000000000000000000000000000000000000000000000000000000000000000000000000000000000000000000000 ∧ 0 ≤ U2 ∧ 0 ≤ D2) := Lib.hid ⟨by have := HLa.out; omega, by obtain ⟨_, _, _, q1, q2⟩ := hs9; exact q1.pos, by obtain ⟨_, _, _, q1, q2⟩ := hs9; exact q2.pos⟩
  clear hk9 hs9 hu9 hd9 hp9
  have k0 : v2.cell? ⟨w.heap.size, 0, none⟩ = some (.int .i64 (x 0)) := KX.out.cell rfl
  have k1 : v2.cell? ⟨w.heap.size, 1, none⟩ = some (.int .i64 (x 1)) := KX.out.cell rfl
  have k2 : v2.cell? ⟨w.heap.size, 2, none⟩ = some (.int .i64 (x 2)) := KX.out.cell rfl
  have k3 : v2.cell? ⟨w.heap.size, 3, none⟩ = some (.int .i64 (x 3)) := KX.out.cell rfl
  have k4 : v2.cell? ⟨w.heap.size, 4, none⟩ = some (.int .i64 (x 4)) := KX.out.cell rfl
  have k5 : v2.cell? ⟨w.heap.size, 5, none⟩ = some (.int .i64 (x 5)) := KX.out.cell rfl
  have k6 : v2.cell? ⟨w.heap.size, 6, none⟩ = some (.int .i64 (x 6)) := KX.out.cell rfl
  have k7 : v2.cell? ⟨w.heap.size, 7, none⟩ = some (.int .i64 (x 7)) := KX.out.cell rfl
  have k8 : v2.cell? ⟨w.heap.size, 8, none⟩ = some (.int .i64 (x 8)) := KX.out.cell rfl
  go_upto_region 11 with go_loud (go_at_call 33; (with_reducible refine Calls.mono (PR.out ga (ga + 2) U2 D2 _ [x 2, (z : Int), (z : Int), 1073741824] _ (SA.out.bw (Bw.alloc (Bw.refl v2) (.cells #[.int .i64 (x 2), .int .i64 ((z : Int)), .int .i64 ((z : Int)), .int .i64 (1073741824)] 3))) (by omega) ?_ ?_ (by simp) (by intro y hy; simp at hy; omega) (by have := HLa.out; omega) (by have := HLa.out; omega)) ?_); (focus (have := HSZ.out; simp only [World.size_alloc]; omega)); (focus exact RdI.litN _ _ _ [x 2, (z : Int), (z : Int), 1073741824] _ (by simp) (by rfl) (by simp)); rintro e1 v3 ⟨rfl, hk9, U3, D3, hs9, hu9, hd9⟩)
  clear k0 k1 k2 k3 k4 k5 k6 k7 k8
  replace hk9 := (Kx.of_bw (g := ga) (Bw.alloc (Bw.refl v2) (.cells #[.int .i64 (x 2), .int .i64 ((z : Int)), .int .i64 ((z : Int)), .int .i64 (1073741824)] 3)) (by have := HSZ.out; omega)).trans hk9
  replace HBW := Lib.hid (hk9.bw HBW.out (by have := HKW.out; omega))
  replace KX := Lib.hid (hk9.blk KX.out (by have := HKW.out; omega))
  replace SB := Lib.hid (SB.out.kx hk9 (by omega) (by omega))
  replace SA := Lib.hid hs9
  replace HSZ := Lib.hid (Nat.le_trans HSZ.out hk9.size)
  have hp9 := prod_ab [x 2, (z : Int), (z : Int), 1073741824] (by intro y hy; simp at hy; omega) (by simp)
  have HE3 := Lib.hid hu9
  replace HLa : Hid (U3 + D3 ≤ 3 * 1000000000000000000000000000000000000000000000000000000000000000000000000000000000000000000000000000000000000000000000000 ∧ 0 ≤ U3 ∧ 0 ≤ D3) := Lib.hid ⟨by have := HLa.out; omega, by obtain ⟨_, _, _, q1, q2⟩ := hs9; exact q1.pos, by obtain ⟨_, _, _, q1, q2⟩ := hs9; exact q2.pos⟩
  clear hk9 hs9 hu9 hd9 hp9
  have k0 : v3.cell? ⟨w.heap.size, 0, none⟩ = some (.int .i64 (x 0)) := KX.out.cell rfl
  have k1 : v3.cell? ⟨w.heap.size, 1, none⟩ = some (.int .i64 (x 1)) := KX.out.cell rfl
  have k2 : v3.cell? ⟨w.heap.size, 2, none⟩ = some (.int .i64 (x 2)) := KX.out.cell rfl
  have k3 : v3.cell? ⟨w.heap.size, 3, none⟩ = some (.int .i64 (x 3)) := KX.out.cell rfl
  have k4 : v3.cell? ⟨w.heap.size, 4, none⟩ = some (.int .i64 (x 4)) := KX.out.cell rfl
  have k5 : v3.cell? ⟨w.heap.size, 5, none⟩ = some (.int .i64 (x 5)) := KX.out.cell rfl
  have k6 : v3.cell? ⟨w.heap.size, 6, none⟩ = some (.int .i64 (x 6)) := KX.out.cell rfl
  have k7 : v3.cell? ⟨w.heap.size, 7, none⟩ = some (.int .i64 (x 7)) := KX.out.cell rfl
  have k8 : v3.cell? ⟨w.heap.size, 8, none⟩ = some (.int .i64 (x 8)) := KX.out.cell rfl
  go_upto_region 12 with go_loud (go_at_call 33; (with_reducible refine Calls.mono (PR.out ga (ga + 2) U3 D3 _ [x 3, (z : Int), (z : Int), (z : Int)] _ (SA.out.bw (Bw.alloc (Bw.refl v3) (.cells #[.int .i64 (x 3), .int .i64 ((z : Int)), .int .i64 ((z : Int)), .int .i64 ((z : Int))] 3))) (by omega) ?_ ?_ (by simp) (by intro y hy; simp at hy; omega) (by have := HLa.out; omega) (by have := HLa.out; omega)) ?_); (focus (have := HSZ.out; simp only [World.size_alloc]; omega)); (focus exact RdI.litN _ _ _ [x 3, (z : Int), (z : Int), (z : Int)] _ (by simp) (by rfl) (by simp)); rintro e1 v4 ⟨rfl, hk9, U4, D4, hs9, hu9, hd9⟩)
  clear k0 k1 k2 k3 k4 k5 k6 k7 k8
  replace hk9 := (Kx.of_bw (g := ga) (Bw.alloc (Bw.refl v3) (.cells #[.int .i64 (x 3), .int .i64 ((z : Int)), .int .i64 ((z : Int)), .int .i64 ((z : Int))] 3)) (by have := HSZ.out; omega)).trans hk9
  replace HBW := Lib.hid (hk9.bw HBW.out (by have := HKW.out; omega))
  replace KX := Lib.hid (hk9.blk KX.out (by have := HKW.out; omega))
  replace SB := Lib.hid (SB.out.kx hk9 (by omega) (by omega))
  replace SA := Lib.hid hs9
  replace HSZ := Lib.hid (Nat.le_trans HSZ.out hk9.size)
  have hp9 := prod_ab [x 3, (z : Int), (z : Int), (z : Int)] (by intro y hy; simp at hy; omega) (by simp)
  have HE4 := Lib.hid hu9
  replace HLa : Hid (U4 + D4 ≤ 4 * 1000000000000000000000000000000000000000000000000000000000000000000000000000000000000000000000000000000000000000000000000 ∧ 0 ≤ U4 ∧ 0 ≤ D4) := Lib.hid ⟨by have := HLa.out; omega, by obtain ⟨_, _, _, q1, q2⟩ := hs9; exact q1.pos, by obtain ⟨_, _, _, q1, q2⟩ := hs9; exact q2.pos⟩
  clear hk9 hs9 hu9 hd9 hp9
  have k0 : v4.cell? ⟨w.heap.size, 0, none⟩ = some (.int .i64 (x 0)) := KX.out.cell rfl
  have k1 : v4.cell? ⟨w.heap.size, 1, none⟩ = some (.int .i64 (x 1)) := KX.out.cell rfl
  have k2 : v4.cell? ⟨w.heap.size, 2, none⟩ = some (.int .i64 (x 2)) := KX.out.cell rfl
  have k3 : v4.cell? ⟨w.heap.size, 3, none⟩ = some (.int .i64 (x 3)) := KX.out.cell rfl
  have k4 : v4.cell? ⟨w.heap.size, 4, none⟩ = some (.int .i64 (x 4)) := KX.out.cell rfl
  have k5 : v4.cell? ⟨w.heap.size, 5, none⟩ = some (.int .i64 (x 5)) := KX.out.cell rfl
  have k6 : v4.cell? ⟨w.heap.size, 6, none⟩ = some (.int .i64 (x 6)) := KX.out.cell rfl
  have k7 : v4.cell? ⟨w.heap.size, 7, none⟩ = some (.int .i64 (x 7)) := KX.out.cell rfl
  have k8 : v4.cell? ⟨w.heap.size, 8, none⟩ = some (.int .i64 (x 8)) := KX.out.cell rfl
  go_upto_region 13 with go_loud (go_at_call 33; (with_reducible refine Calls.mono (PR.out (ga + 1) (ga + 2) 0 0 _ [x 4, 1073741824, 1073741824] _ (SB.out.bw (Bw.alloc (Bw.refl v4) (.cells #[.int .i64 (x 4), .int .i64 (1073741824), .int .i64 (1073741824)] 3))) (by omega) ?_ ?_ (by simp) (by intro y hy; simp at hy; omega) (by decide) (by decide)) ?_); (focus (have := HSZ.out; simp only [World.size_alloc]; omega)); (focus exact RdI.litN _ _ _ [x 4, 1073741824, 1073741824] _ (by simp) (by rfl) (by simp)); rintro e1 v5 ⟨rfl, hk9, U5, D5, hs9, hu9, hd9⟩)
  clear k0 k1 k2 k3 k4 k5 k6 k7 k8
  replace hk9 := (Kx.of_bw (g := (ga + 1)) (Bw.alloc (Bw.refl v4) (.cells #[.int .i64 (x 4), .int .i64 (1073741824), .int .i64 (1073741824)] 3)) (by have := HSZ.out; omega)).trans hk9
  replace HBW := Lib.hid (hk9.bw HBW.out (by have := HKW.out; omega))
  replace KX := Lib.hid (hk9.blk KX.out (by have := HKW.out; omega))
  replace SA := Lib.hid (SA.out.kx hk9 (by omega) (by omega))
  replace SB := Lib.hid hs9
  replace HSZ := Lib.hid (Nat.le_trans HSZ.out hk9.size)
  have hp9 := prod_ab [x 4, 1073741824, 1073741824] (by intro y hy; simp at hy; omega) (by simp)
  have HE5 := Lib.hid hu9
  have HLb : Hid (U5 + D5 ≤ 1 * 1000000000000000000000000000000000000000000000000000000000000000000000000000000000000000000000000000000000000000000000000 ∧ 0 ≤ U5 ∧ 0 ≤ D5) := Lib.hid ⟨by omega, by obtain ⟨_, _, _, q1, q2⟩ := hs9; exact q1.pos, by obtain ⟨_, _, _, q1, q2⟩ := hs9; exact q2.pos⟩
  clear hk9 hs9 hu9 hd9 hp9
  have k0 : v5.cell? ⟨w.heap.size, 0, none⟩ = some (.int .i64 (x 0)) := KX.out.cell rfl
  have k1 : v5.cell? ⟨w.heap.size, 1, none⟩ = some (.int .i64 (x 1)) := KX.out.cell rfl
  have k2 : v5.cell? ⟨w.heap.size, 2, none⟩ = some (.int .i64 (x 2)) := KX.out.cell rfl
  have k3 : v5.cell? ⟨w.heap.size, 3, none⟩ = some (.int .i64 (x 3)) := KX.out.cell rfl
  have k4 : v5.cell? ⟨w.heap.size, 4, none⟩ = some (.int .i64 (x 4)) := KX.out.cell rfl
  have k5 : v5.cell? ⟨w.heap.size, 5, none⟩ = some (.int .i64 (x 5)) := KX.out.cell rfl
  have k6 : v5.cell? ⟨w.heap.size, 6, none⟩ = some (.int .i64 (x 6)) := KX.out.cell rfl
  have k7 : v5.cell? ⟨w.heap.size, 7, none⟩ = some (.int .i64 (x 7)) := KX.out.cell rfl
  have k8 : v5.cell? ⟨w.heap.size, 8, none⟩ = some (.int .i64 (x 8)) := KX.out.cell rfl
  go_upto_region 14 with go_loud (go_at_call 33; (with_reducible refine Calls.mono (PR.out (ga + 1) (ga + 2) U5 D5 _ [x 5, (z : Int), 1073741824] _ (SB.out.bw (Bw.alloc (Bw.refl v5) (.cells #[.int .i64 (x 5), .int .i64 ((z : Int)), .int .i64 (1073741824)] 3))) (by omega) ?_ ?_ (by simp) (by intro y hy; simp at hy; omega) (by have := HLb.out; omega) (by have := HLb.out; omega)) ?_); (focus (have := HSZ.out; simp only [World.size_alloc]; omega)); (focus exact RdI.litN _ _ _ [x 5, (z : Int), 1073741824] _ (by simp) (by rfl) (by simp)); rintro e1 v6 ⟨rfl, hk9, U6, D6, hs9, hu9, hd9⟩)
  clear k0 k1 k2 k3 k4 k5 k6 k7 k8
  replace hk9 := (Kx.of_bw (g := (ga + 1)) (Bw.alloc (Bw.refl v5) (.cells #[.int .i64 (x 5), .int .i64 ((z : Int)), .int .i64 (1073741824)] 3)) (by have := HSZ.out; omega)).trans hk9
  replace HBW := Lib.hid (hk9.bw HBW.out (by have := HKW.out; omega))
  replace KX := Lib.hid (hk9.blk KX.out (by have := HKW.out; omega))
  replace SA := Lib.hid (SA.out.kx hk9 (by omega) (by omega))
  replace SB := Lib.hid hs9
  replace HSZ := Lib.hid (Nat.le_trans HSZ.out hk9.size)
  have hp9 := prod_ab [x 5, (z : Int), 1073741824] (by intro y hy; simp at hy; omega) (by simp)
  have HE6 := Lib.hid hu9
  replace HLb : Hid (U6 + D6 ≤ 2 * 1000000000000000000000000000000000000000000000000000000000000000000000000000000000000000000000000000000000000000000000000 ∧ 0 ≤ U6 ∧ 0 ≤ D6) := Lib.hid ⟨by have := HLb.out; omega, by obtain ⟨_, _, _, q1, q2⟩ := hs9; exact q1.pos, by obtain ⟨_, _, _, q1, q2⟩ := hs9; exact q2.pos⟩
  clear hk9 hs9 hu9 hd9 hp9
  have k0 : v6.cell? ⟨w.heap.size, 0, none⟩ = some (.int .i64 (x 0)) := KX.out.cell rfl
  have k1 : v6.cell? ⟨w.heap.size, 1, none⟩ = some (.int .i64 (x 1)) := KX.out.cell rfl
  have k2 : v6.cell? ⟨w.heap.size, 2, none⟩ = some (.int .i64 (x 2)) := KX.out.cell rfl
  have k3 : v6.cell? ⟨w.heap.size, 3, none⟩ = some (.int .i64 (x 3)) := KX.out.cell rfl
  have k4 : v6.cell? ⟨w.heap.size, 4, none⟩ = some (.int .i64 (x 4)) := KX.out.cell rfl
  have k5 : v6.cell? ⟨w.heap.size, 5, none⟩ = some (.int .i64 (x 5)) := KX.out.cell rfl
  have k6 : v6.cell? ⟨w.heap.size, 6, none⟩ = some (.int .i64 (x 6)) := KX.out.cell rfl
  have k7 : v6.cell? ⟨w.heap.size, 7, none⟩ = some (.int .i64 (x 7)) := KX.out.cell rfl
  have k8 : v6.cell? ⟨w.heap.size, 8, none⟩ = some (.int .i64 (x 8)) := KX.out.cell rfl
  go_upto_region 15 with go_loud (go_at_call 33; (with_reducible refine Calls.mono (PR.out (ga + 1) (ga + 2) U6 D6 _ [x 6, (z : Int), (z : Int)] _ (SB.out.bw (Bw.alloc (Bw.refl v6) (.cells #[.int .i64 (x 6), .int .i64 ((z : Int)), .int .i64 ((z : Int))] 3))) (by omega) ?_ ?_ (by simp) (by intro y hy; simp at hy; omega) (by have := HLb.out; omega) (by have := HLb.out; omega)) ?_); (focus (have := HSZ.out; simp only [World.size_alloc]; omega)); (focus exact RdI.litN _ _ _ [x 6, (z : Int), (z : Int)] _ (by simp) (by rfl) (by simp)); rintro e1 v7 ⟨rfl, hk9, U7, D7, hs9, hu9, hd9⟩)
  clear k0 k1 k2 k3 k4 k5 k6 k7 k8
  replace hk9 := (Kx.of_bw (g := (ga + 1)) (Bw.alloc (Bw.refl v6) (.cells #[.int .i64 (x 6), .int .i64 ((z : Int)), .int .i64 ((z : Int))] 3)) (by have := HSZ.out; omega)).trans hk9
  replace HBW := Lib.hid (hk9.bw HBW.out (by have := HKW.out; omega))
  replace KX := Lib.hid (hk9.blk KX.out (by have := HKW.out; omega))
  replace SA := Lib.hid (SA.out.kx hk9 (by omega) (by omega))
  replace SB := Lib.hid hs9
  replace HSZ := Lib.hid (Nat.le_trans HSZ.out hk9.size)
  have hp9 := prod_ab [x 6, (z : Int), (z : Int)] (by intro y hy; simp at hy; omega) (by simp)
  have HE7 := Lib.hid hu9
  replace HLb : Hid (U7 + D7 ≤ 3 * 1000000000000000000000000000000000000000000000000000000000000000000000000000000000000000000000000000000000000000000000000 ∧ 0 ≤ U7 ∧ 0 ≤ D7) := Lib.hid ⟨by have := HLb.out; omega, by obtain ⟨_, _, _, q1, q2⟩ := hs9; exact q1.pos, by obtain ⟨_, _, _, q1, q2⟩ := hs9; exact q2.pos⟩
  clear hk9 hs9 hu9 hd9 hp9
  have HSa := Lib.hid (show HI = U4 - D4 by have q1 := HE1.out; have q2 := HE2.out; have q3 := HE3.out; have q4 := HE4.out; have q5 := HS1.out; omega)
  have HSb := Lib.hid (show HT = U7 - D7 by have q1 := HE5.out; have q2 := HE6.out; have q3 := HE7.out; have q5 := HS2.out; omega)
  clear HE1 HE2 HE3 HE4 HE5 HE6 HE7
  go_wp2_with (first | (go_at_call 34; (with_reducible refine Calls.mono (RO.out ga (ga + 2) U4 D4 _ [32768, 32768, 32768, 32768, 32768, 32768] _ HI 1237940039285380274899124224 (SA.out.bw (Bw.alloc (Bw.refl v7) (.cells #[.int .i64 32768, .int .i64 32768, .int .i64 32768, .int .i64 32768, .int .i64 32768, .int .i64 32768] 3))) ?_ (by decide) (by intro y hy; simp at hy; omega) (by have := HLa.out; omega) (by have := HLa.out; omega) HSa.out (by decide) ?_) ?_); (focus exact RdI.litN _ _ _ [32768, 32768, 32768, 32768, 32768, 32768] _ (by simp) (by rfl) (by simp)); (focus (have := HBA.out; omega)); rintro e1 v8 ⟨rfl, hb9⟩; replace hb9 := (Bw.alloc (Bw.refl v7) (.cells #[.int .i64 32768, .int .i64 32768, .int .i64 32768, .int .i64 32768, .int .i64 32768, .int .i64 32768] 3)).trans hb9; replace HBW := Lib.hid (HBW.out.trans hb9); (try replace SB := Lib.hid (SB.out.bw hb9)); clear hb9) | (go_at_call 34; (with_reducible refine Calls.mono (RO.out (ga + 1) (ga + 2) U7 D7 _ [32768, 32768, 32768, 32768] _ HT 1152921504606846976 (SB.out.bw (Bw.alloc (Bw.refl v8) (.cells #[.int .i64 32768, .int .i64 32768, .int .i64 32768, .int .i64 32768] 3))) ?_ (by decide) (by intro y hy; simp at hy; omega) (by have := HLb.out; omega) (by have := HLb.out; omega) HSb.out (by decide) ?_) ?_); (focus exact RdI.litN _ _ _ [32768, 32768, 32768, 32768] _ (by simp) (by rfl) (by simp)); (focus (have := HBB.out; omega)); rintro e1 v9 ⟨rfl, hb9⟩; replace hb9 := (Bw.alloc (Bw.refl v8) (.cells #[.int .i64 32768, .int .i64 32768, .int .i64 32768, .int .i64 32768] 3)).trans hb9; replace HBW := Lib.hid (HBW.out.trans hb9); (try replace SB := Lib.hid (SB.out.bw hb9)); clear hb9))
  refine bodyPost_ret (v := .tuple #[.int .i64 (rndQ HI 1237940039285380274899124224), .int .i64 (rndQ HT 1152921504606846976), .int .i64 0]) ?_ rfl ⟨rfl, HBW.out⟩
  simp [results, Try.results10, go_sem]
theorem RDelay_any (x : Nat → Int) (up : Int) (w : World) :
    Calls Try.prog 10 #[.agg #[.int .i64 (x 0), .int .i64 (x 1), .int .i64 (x 2), .int .i64 (x 3), .int .i64 (x 4), .int .i64 (x 5), .int .i64 (x 6), .int .i64 (x 7), .int .i64 (x 8)], .int .i64 up] w fun e w' => e = .returned (.tuple #[.int .i64 (ionoD x up), .int .i64 (tropoD x up), .int .i64 (errD x up)]) ∧ Bw w w' := by
  unfold ionoD tropoD errD
  by_cases h : errA x = 0
  · by_cases hu : 0 ≤ up ∧ up ≤ 1073741824
    · rw [if_pos ⟨h, hu⟩, if_pos ⟨h, hu⟩, if_pos h, if_pos hu]
      exact RDelay_ok x up w h hu.1 hu.2
    · rw [if_neg (fun h9 => hu h9.2), if_neg (fun h9 => hu h9.2), if_pos h, if_neg hu]
      exact RDelay_range x up w h (by omega)
  · rw [if_neg (fun h9 => h h9.1), if_neg (fun h9 => h h9.1), if_neg h]
    exact RDelay_bad x up w h
end Go.Proofs.Sky
