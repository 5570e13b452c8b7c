/-
  lemmas for the theorems of this claim. No conditions beyond those written in the statements.
-/
import Derived.Test.YtiohoallllkagaaUA31
import Derived.Deep.Cut
set_option linter.unusedVariables false
set_option linter.unusedSimpArgs false
set_option linter.unnecessarySimpa false
namespace Go.Proofs.Sky
open Go Go.RowKit Go.Shelf
set_option maxHeartbeats 4000000
set_option maxRecDepth 4000
/-! chapter 31: the reference's Frame -/

theorem take_next (L : List Int) (p : Nat) (h : p < L.length) : L.take (p + 1) = L.take p ++ [L.getD p 0] := by
  rw [List.take_add_one, List.getElem?_eq_getElem h, List.getD_eq_getElem?_getD, List.getElem?_eq_getElem h]; rfl

theorem RFrame_bad (x : Nat → Int) (tow : Int) (w : World) (h : errA x ≠ 0) :
    Calls Try.prog 19 #[.agg #[.int .i64 (x 0), .int .i64 (x 1), .int .i64 (x 2), .int .i64 (x 3), .int .i64 (x 4), .int .i64 (x 5), .int .i64 (x 6), .int .i64 (x 7), .int .i64 (x 8)], .int .i64 tow] w fun e w' => FrP w.heap.size 0 0 [] (errA x) e w' ∧ Bw w w' := by
  have CK := Lib.hid (fun W => rCheck_any x W)
  have hne : (errA x != 0) = true := by simpa using h
  have HBW := Lib.hid (Bw.alloc (Bw.alloc (Bw.refl w) (.cells #[.int .i64 (x 0), .int .i64 (x 1), .int .i64 (x 2), .int .i64 (x 3), .int .i64 (x 4), .int .i64 (x 5), .int .i64 (x 6), .int .i64 (x 7), .int .i64 (x 8)] 25)) (.cells #[.int .i64 0, .int .i64 0, .slice none 0 0] 38))
  have KX := Lib.hid ((Blk.new w 25 #[.int .i64 (x 0), .int .i64 (x 1), .int .i64 (x 2), .int .i64 (x 3), .int .i64 (x 4), .int .i64 (x 5), .int .i64 (x 6), .int .i64 (x 7), .int .i64 (x 8)]).alloc (.cells #[.int .i64 0, .int .i64 0, .slice none 0 0] 38))
  have FX : Hid (Blk ((w.alloc (.cells #[.int .i64 (x 0), .int .i64 (x 1), .int .i64 (x 2), .int .i64 (x 3), .int .i64 (x 4), .int .i64 (x 5), .int .i64 (x 6), .int .i64 (x 7), .int .i64 (x 8)] 25)).alloc (.cells #[.int .i64 0, .int .i64 0, .slice none 0 0] 38)) (w.heap.size + 1) 38 #[.int .i64 0, .int .i64 0, .slice none 0 0]) := Lib.hid (by have h9 := Blk.new (w.alloc (.cells #[.int .i64 (x 0), .int .i64 (x 1), .int .i64 (x 2), .int .i64 (x 3), .int .i64 (x 4), .int .i64 (x 5), .int .i64 (x 6), .int .i64 (x 7), .int .i64 (x 8)] 25)) 38 #[.int .i64 0, .int .i64 0, .slice none 0 0]; simpa using h9)
  generalize errA x = er at *
  go_enter Try.func19, Try.ntmps19
  go_upto_region 1 with fail
  obtain ⟨W0, hW0⟩ : ∃ W0, ((w.alloc (.cells #[.int .i64 (x 0), .int .i64 (x 1), .int .i64 (x 2), .int .i64 (x 3), .int .i64 (x 4), .int .i64 (x 5), .int .i64 (x 6), .int .i64 (x 7), .int .i64 (x 8)] 25)).alloc (.cells #[.int .i64 0, .int .i64 0, .slice none 0 0] 38)) = W0 := ⟨_, rfl⟩
  rw [hW0] at HBW KX FX ⊢
  clear hW0
  have k0 : W0.cell? ⟨w.heap.size, 0, none⟩ = some (.int .i64 (x 0)) := KX.out.cell rfl
  have k1 : W0.cell? ⟨w.heap.size, 1, none⟩ = some (.int .i64 (x 1)) := KX.out.cell rfl
  have k2 : W0.cell? ⟨w.heap.size, 2, none⟩ = some (.int .i64 (x 2)) := KX.out.cell rfl
  have k3 : W0.cell? ⟨w.heap.size, 3, none⟩ = some (.int .i64 (x 3)) := KX.out.cell rfl
  have k4 : W0.cell? ⟨w.heap.size, 4, none⟩ = some (.int .i64 (x 4)) := KX.out.cell rfl
  have k5 : W0.cell? ⟨w.heap.size, 5, none⟩ = some (.int .i64 (x 5)) := KX.out.cell rfl
  have k6 : W0.cell? ⟨w.heap.size, 6, none⟩ = some (.int .i64 (x 6)) := KX.out.cell rfl
  have k7 : W0.cell? ⟨w.heap.size, 7, none⟩ = some (.int .i64 (x 7)) := KX.out.cell rfl
  have k8 : W0.cell? ⟨w.heap.size, 8, none⟩ = some (.int .i64 (x 8)) := KX.out.cell rfl
  have g0 : W0.cell? ⟨w.heap.size + 1, 0, none⟩ = some (.int .i64 0) := FX.out.cell rfl
  have g1 : W0.cell? ⟨w.heap.size + 1, 1, none⟩ = some (.int .i64 0) := FX.out.cell rfl
  have g2 : W0.cell? ⟨w.heap.size + 1, 2, none⟩ = some (.slice none 0 0) := FX.out.cell rfl
  have f0 := FX.out.frozen 0
  have f1 := FX.out.frozen 1
  have f2 := FX.out.frozen 2
  go_wp2_with (go_at_call 14; (with_reducible refine Calls.mono (CK.out _) ?_); rintro e1 w1 ⟨rfl, hb9⟩; replace HBW := Lib.hid (HBW.out.trans hb9); replace KX := Lib.hid (KX.out.bw hb9); replace FX := Lib.hid (FX.out.bw hb9); clear hb9; clear k0 k1 k2 k3 k4 k5 k6 k7 k8 g0 g1 g2 f0 f1 f2; have k0 : w1.cell? ⟨w.heap.size, 0, none⟩ = some (.int .i64 (x 0)) := KX.out.cell rfl; have k1 : w1.cell? ⟨w.heap.size, 1, none⟩ = some (.int .i64 (x 1)) := KX.out.cell rfl; have k2 : w1.cell? ⟨w.heap.size, 2, none⟩ = some (.int .i64 (x 2)) := KX.out.cell rfl; have k3 : w1.cell? ⟨w.heap.size, 3, none⟩ = some (.int .i64 (x 3)) := KX.out.cell rfl; have k4 : w1.cell? ⟨w.heap.size, 4, none⟩ = some (.int .i64 (x 4)) := KX.out.cell rfl; have k5 : w1.cell? ⟨w.heap.size, 5, none⟩ = some (.int .i64 (x 5)) := KX.out.cell rfl; have k6 : w1.cell? ⟨w.heap.size, 6, none⟩ = some (.int .i64 (x 6)) := KX.out.cell rfl; have k7 : w1.cell? ⟨w.heap.size, 7, none⟩ = some (.int .i64 (x 7)) := KX.out.cell rfl; have k8 : w1.cell? ⟨w.heap.size, 8, none⟩ = some (.int .i64 (x 8)) := KX.out.cell rfl; have g0 : w1.cell? ⟨w.heap.size + 1, 0, none⟩ = some (.int .i64 0) := FX.out.cell rfl; have g1 : w1.cell? ⟨w.heap.size + 1, 1, none⟩ = some (.int .i64 0) := FX.out.cell rfl; have g2 : w1.cell? ⟨w.heap.size + 1, 2, none⟩ = some (.slice none 0 0) := FX.out.cell rfl; have f0 := FX.out.frozen 0; have f1 := FX.out.frozen 1; have f2 := FX.out.frozen 2)
  have F3 := ((FX.out.set 0 (.int .i64 0)).set 1 (.int .i64 0)).set 2 (.slice none 0 0)
  have B3 := Bw.setCell (Bw.setCell (Bw.setCell HBW.out (p := ⟨w.heap.size + 1, 0, none⟩) (by simp) (.int .i64 0)) (p := ⟨w.heap.size + 1, 1, none⟩) (by simp) (.int .i64 0)) (p := ⟨w.heap.size + 1, 2, none⟩) (by simp) (.slice none 0 0)
  have m0 := F3.cell (j := 0) rfl
  have m1 := F3.cell (j := 1) rfl
  have m2 := F3.cell (j := 2) rfl
  refine bodyPost_ret (v := .tuple #[.agg #[.int .i64 0, .int .i64 0, .slice none 0 0], .int .i64 er]) ?_ rfl ⟨frP_nil _ _ _, B3⟩
  simp [results, Try.results19, go_sem, m0, m1, m2]

theorem RFrame_range (x : Nat → Int) (tow : Int) (w : World) (h : errA x = 0) (hr : tow < 0 ∨ 131072 ≤ tow) :
    Calls Try.prog 19 #[.agg #[.int .i64 (x 0), .int .i64 (x 1), .int .i64 (x 2), .int .i64 (x 3), .int .i64 (x 4), .int .i64 (x 5), .int .i64 (x 6), .int .i64 (x 7), .int .i64 (x 8)], .int .i64 tow] w fun e w' => FrP w.heap.size 0 0 [] 2 e w' ∧ Bw w w' := by
  have CK := Lib.hid (fun W => rCheck_any x W)
  rw [h] at CK
  have WN := Lib.hid (fun W v h => rwithin_any 0 131071 [tow] v W h)
  rw [show [tow].all (inR 0 131071) = false by simp [inR]; omega] at WN
  have HBW := Lib.hid (Bw.alloc (Bw.alloc (Bw.refl w) (.cells #[.int .i64 (x 0), .int .i64 (x 1), .int .i64 (x 2), .int .i64 (x 3), .int .i64 (x 4), .int .i64 (x 5), .int .i64 (x 6), .int .i64 (x 7), .int .i64 (x 8)] 25)) (.cells #[.int .i64 0, .int .i64 0, .slice none 0 0] 38))
  have KX := Lib.hid ((Blk.new w 25 #[.int .i64 (x 0), .int .i64 (x 1), .int .i64 (x 2), .int .i64 (x 3), .int .i64 (x 4), .int .i64 (x 5), .int .i64 (x 6), .int .i64 (x 7), .int .i64 (x 8)]).alloc (.cells #[.int .i64 0, .int .i64 0, .slice none 0 0] 38))
  have FX : Hid (Blk ((w.alloc (.cells #[.int .i64 (x 0), .int .i64 (x 1), .int .i64 (x 2), .int .i64 (x 3), .int .i64 (x 4), .int .i64 (x 5), .int .i64 (x 6), .int .i64 (x 7), .int .i64 (x 8)] 25)).alloc (.cells #[.int .i64 0, .int .i64 0, .slice none 0 0] 38)) (w.heap.size + 1) 38 #[.int .i64 0, .int .i64 0, .slice none 0 0]) := Lib.hid (by have h9 := Blk.new (w.alloc (.cells #[.int .i64 (x 0), .int .i64 (x 1), .int .i64 (x 2), .int .i64 (x 3), .int .i64 (x 4), .int .i64 (x 5), .int .i64 (x 6), .int .i64 (x 7), .int .i64 (x 8)] 25)) 38 #[.int .i64 0, .int .i64 0, .slice none 0 0]; simpa using h9)
  go_enter Try.func19, Try.ntmps19
  go_upto_region 1 with fail
  obtain ⟨W0, hW0⟩ : ∃ W0, ((w.alloc (.cells #[.int .i64 (x 0), .int .i64 (x 1), .int .i64 (x 2), .int .i64 (x 3), .int .i64 (x 4), .int .i64 (x 5), .int .i64 (x 6), .int .i64 (x 7), .int .i64 (x 8)] 25)).alloc (.cells #[.int .i64 0, .int .i64 0, .slice none 0 0] 38)) = W0 := ⟨_, rfl⟩
  rw [hW0] at HBW KX FX ⊢
  clear hW0
  have k0 : W0.cell? ⟨w.heap.size, 0, none⟩ = some (.int .i64 (x 0)) := KX.out.cell rfl
  have k1 : W0.cell? ⟨w.heap.size, 1, none⟩ = some (.int .i64 (x 1)) := KX.out.cell rfl
  have k2 : W0.cell? ⟨w.heap.size, 2, none⟩ = some (.int .i64 (x 2)) := KX.out.cell rfl
  have k3 : W0.cell? ⟨w.heap.size, 3, none⟩ = some (.int .i64 (x 3)) := KX.out.cell rfl
  have k4 : W0.cell? ⟨w.heap.size, 4, none⟩ = some (.int .i64 (x 4)) := KX.out.cell rfl
  have k5 : W0.cell? ⟨w.heap.size, 5, none⟩ = some (.int .i64 (x 5)) := KX.out.cell rfl
  have k6 : W0.cell? ⟨w.heap.size, 6, none⟩ = some (.int .i64 (x 6)) := KX.out.cell rfl
  have k7 : W0.cell? ⟨w.heap.size, 7, none⟩ = some (.int .i64 (x 7)) := KX.out.cell rfl
  have k8 : W0.cell? ⟨w.heap.size, 8, none⟩ = some (.int .i64 (x 8)) := KX.out.cell rfl
  have g0 : W0.cell? ⟨w.heap.size + 1, 0, none⟩ = some (.int .i64 0) := FX.out.cell rfl
  have g1 : W0.cell? ⟨w.heap.size + 1, 1, none⟩ = some (.int .i64 0) := FX.out.cell rfl
  have g2 : W0.cell? ⟨w.heap.size + 1, 2, none⟩ = some (.slice none 0 0) := FX.out.cell rfl
  have f0 := FX.out.frozen 0
  have f1 := FX.out.frozen 1
  have f2 := FX.out.frozen 2
  go_wp2_with (first | (go_at_call 14; (with_reducible refine Calls.mono (CK.out _) ?_); rintro e1 w1 ⟨rfl, hb9⟩; replace HBW := Lib.hid (HBW.out.trans hb9); replace KX := Lib.hid (KX.out.bw hb9); replace FX := Lib.hid (FX.out.bw hb9); clear hb9; clear k0 k1 k2 k3 k4 k5 k6 k7 k8 g0 g1 g2 f0 f1 f2; have k0 : w1.cell? ⟨w.heap.size, 0, none⟩ = some (.int .i64 (x 0)) := KX.out.cell rfl; have k1 : w1.cell? ⟨w.heap.size, 1, none⟩ = some (.int .i64 (x 1)) := KX.out.cell rfl; have k2 : w1.cell? ⟨w.heap.size, 2, none⟩ = some (.int .i64 (x 2)) := KX.out.cell rfl; have k3 : w1.cell? ⟨w.heap.size, 3, none⟩ = some (.int .i64 (x 3)) := KX.out.cell rfl; have k4 : w1.cell? ⟨w.heap.size, 4, none⟩ = some (.int .i64 (x 4)) := KX.out.cell rfl; have k5 : w1.cell? ⟨w.heap.size, 5, none⟩ = some (.int .i64 (x 5)) := KX.out.cell rfl; have k6 : w1.cell? ⟨w.heap.size, 6, none⟩ = some (.int .i64 (x 6)) := KX.out.cell rfl; have k7 : w1.cell? ⟨w.heap.size, 7, none⟩ = some (.int .i64 (x 7)) := KX.out.cell rfl; have k8 : w1.cell? ⟨w.heap.size, 8, none⟩ = some (.int .i64 (x 8)) := KX.out.cell rfl; have g0 : w1.cell? ⟨w.heap.size + 1, 0, none⟩ = some (.int .i64 0) := FX.out.cell rfl; have g1 : w1.cell? ⟨w.heap.size + 1, 1, none⟩ = some (.int .i64 0) := FX.out.cell rfl; have g2 : w1.cell? ⟨w.heap.size + 1, 2, none⟩ = some (.slice none 0 0) := FX.out.cell rfl; have f0 := FX.out.frozen 0; have f1 := FX.out.frozen 1; have f2 := FX.out.frozen 2) | (go_at_call 32; (with_reducible refine Calls.mono (WN.out _ _ ?_) ?_); (focus exact RdI.litN _ _ _ [tow] _ (by simp) (by rfl) (by simp)); rintro e2 w2 ⟨rfl, hb9⟩; replace hb9 := (Bw.alloc (Bw.refl w1) (.cells #[.int .i64 tow] 3)).trans hb9; replace HBW := Lib.hid (HBW.out.trans hb9); replace KX := Lib.hid (KX.out.bw hb9); replace FX := Lib.hid (FX.out.bw hb9); clear hb9; clear k0 k1 k2 k3 k4 k5 k6 k7 k8 g0 g1 g2 f0 f1 f2; have k0 : w2.cell? ⟨w.heap.size, 0, none⟩ = some (.int .i64 (x 0)) := KX.out.cell rfl; have k1 : w2.cell? ⟨w.heap.size, 1, none⟩ = some (.int .i64 (x 1)) := KX.out.cell rfl; have k2 : w2.cell? ⟨w.heap.size, 2, none⟩ = some (.int .i64 (x 2)) := KX.out.cell rfl; have k3 : w2.cell? ⟨w.heap.size, 3, none⟩ = some (.int .i64 (x 3)) := KX.out.cell rfl; have k4 : w2.cell? ⟨w.heap.size, 4, none⟩ = some (.int .i64 (x 4)) := KX.out.cell rfl; have k5 : w2.cell? ⟨w.heap.size, 5, none⟩ = some (.int .i64 (x 5)) := KX.out.cell rfl; have k6 : w2.cell? ⟨w.heap.size, 6, none⟩ = some (.int .i64 (x 6)) := KX.out.cell rfl; have k7 : w2.cell? ⟨w.heap.size, 7, none⟩ = some (.int .i64 (x 7)) := KX.out.cell rfl; have k8 : w2.cell? ⟨w.heap.size, 8, none⟩ = some (.int .i64 (x 8)) := KX.out.cell rfl; have g0 : w2.cell? ⟨w.heap.size + 1, 0, none⟩ = some (.int .i64 0) := FX.out.cell rfl; have g1 : w2.cell? ⟨w.heap.size + 1, 1, none⟩ = some (.int .i64 0) := FX.out.cell rfl; have g2 : w2.cell? ⟨w.heap.size + 1, 2, none⟩ = some (.slice none 0 0) := FX.out.cell rfl; have f0 := FX.out.frozen 0; have f1 := FX.out.frozen 1; have f2 := FX.out.frozen 2))
  have F3 := ((FX.out.set 0 (.int .i64 0)).set 1 (.int .i64 0)).set 2 (.slice none 0 0)
  have B3 := Bw.setCell (Bw.setCell (Bw.setCell HBW.out (p := ⟨w.heap.size + 1, 0, none⟩) (by simp) (.int .i64 0)) (p := ⟨w.heap.size + 1, 1, none⟩) (by simp) (.int .i64 0)) (p := ⟨w.heap.size + 1, 2, none⟩) (by simp) (.slice none 0 0)
  have m0 := F3.cell (j := 0) rfl
  have m1 := F3.cell (j := 1) rfl
  have m2 := F3.cell (j := 2) rfl
  refine bodyPost_ret (v := .tuple #[.agg #[.int .i64 0, .int .i64 0, .slice none 0 0], .int .i64 2]) ?_ rfl ⟨frP_nil _ _ _, B3⟩
  simp [results, Try.results19, go_sem, m0, m1, m2]

theorem RFrame_ok (x : Nat → Int) (tow : Int) (w : World) (h : errA x = 0) (hr : 0 ≤ tow ∧ tow < 131072) :
    Calls Try.prog 19 #[.agg #[.int .i64 (x 0), .int .i64 (x 1), .int .i64 (x 2), .int .i64 (x 3), .int .i64 (x 4), .int .i64 (x 5), .int .i64 (x 6), .int .i64 (x 7), .int .i64 (x 8)], .int .i64 tow] w fun e w' => FrP w.heap.size tow 5 (FrA x) 0 e w' ∧ Bw w w' := by
  have CK := Lib.hid (fun W => rCheck_any x W)
  rw [h] at CK
  have WN := Lib.hid (fun W v h => rwithin_any 0 131071 [tow] v W h)
  rw [show [tow].all (inR 0 131071) = true by simp [inR]; omega] at WN
  have NM := Lib.hid (fun W => rnumbers_any x W)
  have RB := Lib.hid (fun i W => rbits_any i W)
  obtain ⟨p1, _, p3, p4⟩ := packed31 h
  have HL := Lib.hid p1
  have HG := Lib.hid p4
  have HZ := Lib.hid (show ∀ p, 187 ≤ p → p < 206 → (FrA x).getD p 0 = 0 from fun p hp hp2 => by
    have h9 := List.any_eq_false.1 p3 ((FrA x).getD p 0) (by
      rw [List.getD_eq_getElem?_getD, List.getElem?_eq_getElem (by omega), Option.getD_some]
      exact List.mem_iff_getElem.2 ⟨p - 187, by rw [List.length_drop]; omega, by rw [List.getElem_drop]; congr 1; omega⟩)
    simpa using h9)
  have HTN := Lib.hid (fun p => take_next (FrA x) p)
  have HTA := Lib.hid (show (FrA x).take 206 = FrA x by rw [← p1]; exact List.take_length)
  have HLT := Lib.hid (show ∀ p, p ≤ 206 → ((FrA x).take p).length = p from fun p hp => by rw [List.length_take]; omega)
  clear p1 p3 p4
  generalize FrA x = L at *
  have HBW := Lib.hid (Bw.alloc (Bw.alloc (Bw.refl w) (.cells #[.int .i64 (x 0), .int .i64 (x 1), .int .i64 (x 2), .int .i64 (x 3), .int .i64 (x 4), .int .i64 (x 5), .int .i64 (x 6), .int .i64 (x 7), .int .i64 (x 8)] 25)) (.cells #[.int .i64 0, .int .i64 0, .slice none 0 0] 38))
  have KX := Lib.hid ((Blk.new w 25 #[.int .i64 (x 0), .int .i64 (x 1), .int .i64 (x 2), .int .i64 (x 3), .int .i64 (x 4), .int .i64 (x 5), .int .i64 (x 6), .int .i64 (x 7), .int .i64 (x 8)]).alloc (.cells #[.int .i64 0, .int .i64 0, .slice none 0 0] 38))
  have FX : Hid (Blk ((w.alloc (.cells #[.int .i64 (x 0), .int .i64 (x 1), .int .i64 (x 2), .int .i64 (x 3), .int .i64 (x 4), .int .i64 (x 5), .int .i64 (x 6), .int .i64 (x 7), .int .i64 (x 8)] 25)).alloc (.cells #[.int .i64 0, .int .i64 0, .slice none 0 0] 38)) (w.heap.size + 1) 38 #[.int .i64 0, .int .i64 0, .slice none 0 0]) := Lib.hid (by have h9 := Blk.new (w.alloc (.cells #[.int .i64 (x 0), .int .i64 (x 1), .int .i64 (x 2), .int .i64 (x 3), .int .i64 (x 4), .int .i64 (x 5), .int .i64 (x 6), .int .i64 (x 7), .int .i64 (x 8)] 25)) 38 #[.int .i64 0, .int .i64 0, .slice none 0 0]; simpa using h9)
  go_enter Try.func19, Try.ntmps19
  go_upto_region 1 with fail
  obtain ⟨W0, hW0⟩ : ∃ W0, ((w.alloc (.cells #[.int .i64 (x 0), .int .i64 (x 1), .int .i64 (x 2), .int .i64 (x 3), .int .i64 (x 4), .int .i64 (x 5), .int .i64 (x 6), .int .i64 (x 7), .int .i64 (x 8)] 25)).alloc (.cells #[.int .i64 0, .int .i64 0, .slice none 0 0] 38)) = W0 := ⟨_, rfl⟩
  rw [hW0] at HBW KX FX ⊢
  clear hW0
  have k0 : W0.cell? ⟨w.heap.size, 0, none⟩ = some (.int .i64 (x 0)) := KX.out.cell rfl
  have k1 : W0.cell? ⟨w.heap.size, 1, none⟩ = some (.int .i64 (x 1)) := KX.out.cell rfl
  have k2 : W0.cell? ⟨w.heap.size, 2, none⟩ = some (.int .i64 (x 2)) := KX.out.cell rfl
  have k3 : W0.cell? ⟨w.heap.size, 3, none⟩ = some (.int .i64 (x 3)) := KX.out.cell rfl
  have k4 : W0.cell? ⟨w.heap.size, 4, none⟩ = some (.int .i64 (x 4)) := KX.out.cell rfl
  have k5 : W0.cell? ⟨w.heap.size, 5, none⟩ = some (.int .i64 (x 5)) := KX.out.cell rfl
  have k6 : W0.cell? ⟨w.heap.size, 6, none⟩ = some (.int .i64 (x 6)) := KX.out.cell rfl
  have k7 : W0.cell? ⟨w.heap.size, 7, none⟩ = some (.int .i64 (x 7)) := KX.out.cell rfl
  have k8 : W0.cell? ⟨w.heap.size, 8, none⟩ = some (.int .i64 (x 8)) := KX.out.cell rfl
  have g0 : W0.cell? ⟨w.heap.size + 1, 0, none⟩ = some (.int .i64 0) := FX.out.cell rfl
  have g1 : W0.cell? ⟨w.heap.size + 1, 1, none⟩ = some (.int .i64 0) := FX.out.cell rfl
  have g2 : W0.cell? ⟨w.heap.size + 1, 2, none⟩ = some (.slice none 0 0) := FX.out.cell rfl
  have f0 := FX.out.frozen 0
  have f1 := FX.out.frozen 1
  have f2 := FX.out.frozen 2
  go_wp2_with (first | (go_at_call 14; (with_reducible refine Calls.mono (CK.out _) ?_); rintro e1 w1 ⟨rfl, hb9⟩; replace HBW := Lib.hid (HBW.out.trans hb9); replace KX := Lib.hid (KX.out.bw hb9); replace FX := Lib.hid (FX.out.bw hb9); clear hb9; clear k0 k1 k2 k3 k4 k5 k6 k7 k8 g0 g1 g2 f0 f1 f2; have k0 : w1.cell? ⟨w.heap.size, 0, none⟩ = some (.int .i64 (x 0)) := KX.out.cell rfl; have k1 : w1.cell? ⟨w.heap.size, 1, none⟩ = some (.int .i64 (x 1)) := KX.out.cell rfl; have k2 : w1.cell? ⟨w.heap.size, 2, none⟩ = some (.int .i64 (x 2)) := KX.out.cell rfl; have k3 : w1.cell? ⟨w.heap.size, 3, none⟩ = some (.int .i64 (x 3)) := KX.out.cell rfl; have k4 : w1.cell? ⟨w.heap.size, 4, none⟩ = some (.int .i64 (x 4)) := KX.out.cell rfl; have k5 : w1.cell? ⟨w.heap.size, 5, none⟩ = some (.int .i64 (x 5)) := KX.out.cell rfl; have k6 : w1.cell? ⟨w.heap.size, 6, none⟩ = some (.int .i64 (x 6)) := KX.out.cell rfl; have k7 : w1.cell? ⟨w.heap.size, 7, none⟩ = some (.int .i64 (x 7)) := KX.out.cell rfl; have k8 : w1.cell? ⟨w.heap.size, 8, none⟩ = some (.int .i64 (x 8)) := KX.out.cell rfl; have g0 : w1.cell? ⟨w.heap.size + 1, 0, none⟩ = some (.int .i64 0) := FX.out.cell rfl; have g1 : w1.cell? ⟨w.heap.size + 1, 1, none⟩ = some (.int .i64 0) := FX.out.cell rfl; have g2 : w1.cell? ⟨w.heap.size + 1, 2, none⟩ = some (.slice none 0 0) := FX.out.cell rfl; have f0 := FX.out.frozen 0; have f1 := FX.out.frozen 1; have f2 := FX.out.frozen 2) | (go_at_call 32; (with_reducible refine Calls.mono (WN.out _ _ ?_) ?_); (focus exact RdI.litN _ _ _ [tow] _ (by simp) (by rfl) (by simp)); rintro e2 w2 ⟨rfl, hb9⟩; replace hb9 := (Bw.alloc (Bw.refl w1) (.cells #[.int .i64 tow] 3)).trans hb9; replace HBW := Lib.hid (HBW.out.trans hb9); replace KX := Lib.hid (KX.out.bw hb9); replace FX := Lib.hid (FX.out.bw hb9); clear hb9; clear k0 k1 k2 k3 k4 k5 k6 k7 k8 g0 g1 g2 f0 f1 f2; have k0 : w2.cell? ⟨w.heap.size, 0, none⟩ = some (.int .i64 (x 0)) := KX.out.cell rfl; have k1 : w2.cell? ⟨w.heap.size, 1, none⟩ = some (.int .i64 (x 1)) := KX.out.cell rfl; have k2 : w2.cell? ⟨w.heap.size, 2, none⟩ = some (.int .i64 (x 2)) := KX.out.cell rfl; have k3 : w2.cell? ⟨w.heap.size, 3, none⟩ = some (.int .i64 (x 3)) := KX.out.cell rfl; have k4 : w2.cell? ⟨w.heap.size, 4, none⟩ = some (.int .i64 (x 4)) := KX.out.cell rfl; have k5 : w2.cell? ⟨w.heap.size, 5, none⟩ = some (.int .i64 (x 5)) := KX.out.cell rfl; have k6 : w2.cell? ⟨w.heap.size, 6, none⟩ = some (.int .i64 (x 6)) := KX.out.cell rfl; have k7 : w2.cell? ⟨w.heap.size, 7, none⟩ = some (.int .i64 (x 7)) := KX.out.cell rfl; have k8 : w2.cell? ⟨w.heap.size, 8, none⟩ = some (.int .i64 (x 8)) := KX.out.cell rfl; have g0 : w2.cell? ⟨w.heap.size + 1, 0, none⟩ = some (.int .i64 0) := FX.out.cell rfl; have g1 : w2.cell? ⟨w.heap.size + 1, 1, none⟩ = some (.int .i64 0) := FX.out.cell rfl; have g2 : w2.cell? ⟨w.heap.size + 1, 2, none⟩ = some (.slice none 0 0) := FX.out.cell rfl; have f0 := FX.out.frozen 0; have f1 := FX.out.frozen 1; have f2 := FX.out.frozen 2) | (go_at_call 40; (with_reducible refine Calls.mono (NM.out _) ?_); rintro e3 w3 ⟨⟨v7, rfl, hr7⟩, hb9⟩; obtain ⟨b7, o7, c7, hv7, _, hc7⟩ := hr7.at (by simp); subst hv7; simp only [List.length_cons, List.length_nil, Nat.zero_add, Nat.reduceAdd] at hc7; have HC := Lib.hid hc7; clear hc7 hr7; replace HBW := Lib.hid (HBW.out.trans hb9); replace KX := Lib.hid (KX.out.bw hb9); replace FX := Lib.hid (FX.out.bw hb9); clear hb9; clear k0 k1 k2 k3 k4 k5 k6 k7 k8 g0 g1 g2 f0 f1 f2))
  have HC9 := Lib.hid (show ∀ i, i < 9 → w3.cell? ⟨b7, o7 + i, none⟩ = some (.int .i64 (x i)) from fun i hi => by
    have h9 := HC.out i hi
    match i, hi with
    | 0, _ => exact h9
    | 1, _ => exact h9
    | 2, _ => exact h9
    | 3, _ => exact h9
    | 4, _ => exact h9
    | 5, _ => exact h9
    | 6, _ => exact h9
    | 7, _ => exact h9
    | 8, _ => exact h9)
  clear HC
  obtain ⟨BB, hBB⟩ : ∃ BB, w3.heap.size = BB := ⟨_, rfl⟩
  have HB := Lib.hid hBB
  have HB2 := Lib.hid (show w.heap.size + 2 ≤ BB by have := FX.out.lt; omega)
  clear hBB
  go_loopg [8, 9] 9 (fun gg s8 s9 wr => ∃ i : Nat, i ≤ 9 ∧ 9 - i ≤ gg ∧ s9 = .int .i64 i ∧ Hid (Bw w3 wr) ∧ Hid (wr.ownsRow BB 3 1 s8 (L.take (atB i)).length ((L.take (atB i)).map (Value.int .i64))))
  case atStart => exact ⟨0, by omega, by omega, rfl, Lib.hid (Bw.refl _), Lib.hid (World.ownsRow_nil _ _ _ _)⟩
  case round =>
    obtain ⟨i, hi, hgg, rfl, HW, O1⟩ := hrel
    obtain ⟨wa, rfl⟩ : ∃ wa, wa = wr := ⟨_, rfl⟩
    by_cases hlt : i < 9
    · have hiz : (i : Int) < 9 := by omega
      have hn1 : 1 ≤ nB i ∧ nB i ≤ 21 := by unfold nB; split <;> omega
      have HA := Lib.hid (show atB (i + 1) = atB i + nB i ∧ atB i + nB i ≤ 206 by unfold atB nB; split <;> split <;> omega)
      have HGI := Lib.hid (HG.out i hlt)
      have RBI := Lib.hid (RB.out i)
      have c1 := HC9.out i hlt
      generalize x i = z at c1 HGI
      generalize atB i = A at O1 HA HGI
      generalize nB i = N at hn1 HA HGI RBI
      go_wp2_with (go_at_call 41; (with_reducible refine Calls.mono (RBI.out _) ?_); rintro e4 w4 ⟨rfl, hb9⟩; replace HW := Lib.hid (HW.out.trans hb9); replace O1 := Lib.hid (own_bw O1.out hb9); clear hb9)
      go_loopg [8, 10] 21 (fun gg s8 s10 wx => ∃ r : Nat, r ≤ N ∧ r ≤ gg ∧ s10 = .int .i64 ((r : Int) - 1) ∧ Hid (Bw w3 wx) ∧ Hid (wx.ownsRow BB 3 1 s8 (L.take (A + (N - r))).length ((L.take (A + (N - r))).map (Value.int .i64))))
      case atStart => exact ⟨N, Nat.le_refl _, by omega, rfl, HW, Lib.hid (by rw [Nat.sub_self, Nat.add_zero]; exact O1.out)⟩
      case round =>
        clear HW O1
        obtain ⟨r, hr9, hgg2, rfl, HW, O1⟩ := hrel
        obtain ⟨wx, rfl⟩ : ∃ wx, wx = wr := ⟨_, rfl⟩
        by_cases hr0 : r = 0
        · subst hr0
          have hneg : ¬ (0 : Int) ≤ ((0 : Nat) : Int) - 1 := by omega
          go_wp2
          go_roundg (9 - (i + 1))
          case measure => omega
          case rel => exact ⟨i + 1, by omega, by omega, by go_num, HW, Lib.hid (by rw [HA.out.1]; exact O1.out)⟩
        · obtain ⟨m, rfl⟩ : ∃ m, r = m + 1 := ⟨r - 1, by omega⟩
          have hmz : ((m + 1 : Nat) : Int) - 1 = (m : Int) := by omega
          rw [hmz]
          clear hmz
          have hm0 : (0 : Int) ≤ m := by omega
          have hm64 : m < 64 := by omega
          have hA1 := and1 (z / 2 ^ m)
          have c2 := HW.out.cell' c1
          have HT := Lib.hid (show L.take (A + (N - m)) = L.take (A + (N - (m + 1))) ++ [z / 2 ^ m % 2] by
            have h9 := HGI.out (N - (m + 1)) (by omega)
            rw [show N - 1 - (N - (m + 1)) = m by omega] at h9
            rw [show A + (N - m) = A + (N - (m + 1)) + 1 by omega, HTN.out _ (by have := HL.out; have := HA.out; omega), h9]
            rfl)
          have HLN := Lib.hid (HLT.out (A + (N - (m + 1))) (by have := HA.out; omega))
          generalize L.take (A + (N - (m + 1))) = l1 at O1 HT HLN
          go_wp2_with (at_builtin; have hba := Bw.alloc (Bw.refl wx) (.cells #[.int .i64 (z / 2 ^ m % 2)] 3); replace O1 := Lib.hid (own_bw O1.out hba); replace HW := Lib.hid (HW.out.trans hba); clear hba; refine wpList_append_int1 rfl (.tmp 37) (.tmp 46) _ rfl BB 3 Try.underlying36 infoInt _ l1 (z / 2 ^ m % 2) rfl O1.out _ rfl (by simp [go_sem]) (by have := HLN.out; have := HA.out; omega) (by have := HW.out.size; have := HB.out; simp only [World.size_alloc] at *; omega) ?_; intro v8 w8 hown hgr; replace HW := Lib.hid (bw_grownN HB.out HW.out O1.out hgr); replace O1 := Lib.hid hown; clear hown hgr)
          go_roundg m
          case measure => omega
          case rel => exact ⟨m, by omega, by omega, by go_num, HW, Lib.hid (by rw [HT.out]; exact O1.out)⟩
    · obtain rfl : i = 9 := by omega
      go_wp2
      go_loopg [8] 19 (fun gg s8 wx => ∃ p : Nat, 187 ≤ p ∧ p ≤ 206 ∧ 206 - p ≤ gg ∧ Hid (Bw w3 wx) ∧ Hid (wx.ownsRow BB 3 1 s8 (L.take p).length ((L.take p).map (Value.int .i64))))
      case atStart => exact ⟨187, by omega, by omega, by omega, HW, O1⟩
      case round =>
        clear HW O1
        obtain ⟨p, hp1, hp2, hgg2, HW, O1⟩ := hrel
        obtain ⟨wx, rfl⟩ : ∃ wx, wx = wr := ⟨_, rfl⟩
        have hlp := HLT.out p hp2
        obtain ⟨a8, c8, hv8⟩ := own_form2 O1.out
        subst hv8
        by_cases hp9 : p < 206
        · have hpz : ((L.take p).length : Int) < 206 := by omega
          have HT := Lib.hid (show L.take (p + 1) = L.take p ++ [0] by rw [HTN.out p (by have := HL.out; omega), HZ.out p hp1 hp9])
          have HLN := Lib.hid hlp
          clear hlp
          generalize L.take p = l1 at O1 HT HLN hpz
          go_wp2_with (at_builtin; have hba := Bw.alloc (Bw.refl wx) (.cells #[.int .i64 0] 3); replace O1 := Lib.hid (own_bw O1.out hba); replace HW := Lib.hid (HW.out.trans hba); clear hba; refine wpList_append_int1 rfl (.tmp 51) (.tmp 52) _ rfl BB 3 Try.underlying36 infoInt _ l1 0 rfl O1.out _ rfl (by simp [go_sem]) (by have := HLN.out; omega) (by have := HW.out.size; have := HB.out; simp only [World.size_alloc] at *; omega) ?_; intro v8 w8 hown hgr; replace HW := Lib.hid (bw_grownN HB.out HW.out O1.out hgr); replace O1 := Lib.hid hown; clear hown hgr)
          go_roundg (206 - (p + 1))
          case measure => omega
          case rel => exact ⟨p + 1, by omega, by omega, by omega, HW, Lib.hid (by rw [HT.out]; exact O1.out)⟩
        · obtain rfl : p = 206 := by omega
          have hpz : ¬ ((L.take 206).length : Int) < 206 := by omega
          have HV := Lib.hid (And.intro (own_rd O1.out (by omega)) (own_capd O1.out))
          have hcap := own_capd O1.out _ _ _ rfl
          rw [HTA.out] at HV hpz hcap ⊢
          replace HBW := Lib.hid (HBW.out.trans HW.out)
          replace FX := Lib.hid (FX.out.bw HW.out)
          clear HW O1 KX
          have g0 : wx.cell? ⟨w.heap.size + 1, 0, none⟩ = some (.int .i64 0) := FX.out.cell rfl
          have g1 : wx.cell? ⟨w.heap.size + 1, 1, none⟩ = some (.int .i64 0) := FX.out.cell rfl
          have g2 : wx.cell? ⟨w.heap.size + 1, 2, none⟩ = some (.slice none 0 0) := FX.out.cell rfl
          have f0 := FX.out.frozen 0
          have f1 := FX.out.frozen 1
          have f2 := FX.out.frozen 2
          go_wp2
          obtain ⟨⟨hrd, hfr⟩, hcd⟩ := HV.out
          replace hfr := hfr.mono (show w.heap.size + 2 ≤ BB from HB2.out)
          have F3 := ((FX.out.set 0 (.int .i64 tow)).set 1 (.int .i64 5)).set 2 (.slice a8 L.length c8)
          have B3 := Bw.setCell (Bw.setCell (Bw.setCell HBW.out (p := ⟨w.heap.size + 1, 0, none⟩) (by simp) (.int .i64 tow)) (p := ⟨w.heap.size + 1, 1, none⟩) (by simp) (.int .i64 5)) (p := ⟨w.heap.size + 1, 2, none⟩) (by simp) (.slice a8 L.length c8)
          have R3 := (((hrd.set hfr (show w.heap.size + 1 < w.heap.size + 2 by omega) 0 (.int .i64 tow)).set hfr (show w.heap.size + 1 < w.heap.size + 2 by omega) 1 (.int .i64 5)).set hfr (show w.heap.size + 1 < w.heap.size + 2 by omega) 2 (.slice a8 L.length c8))
          have m0 := F3.cell (j := 0) (v := .int .i64 tow) rfl
          have m1 := F3.cell (j := 1) (v := .int .i64 5) rfl
          have m2 := F3.cell (j := 2) (v := .slice a8 L.length c8) rfl
          refine bodyPost_ret (v := .tuple #[.agg #[.int .i64 tow, .int .i64 5, .slice a8 L.length c8], .int .i64 0]) ?_ rfl ⟨⟨_, rfl, R3, hfr.mono (by omega), hcd⟩, B3⟩
          simp [results, Try.results19, go_sem, m0, m1, m2]

end Go.Proofs.Sky

namespace Go.Proofs.Sky
open Go Go.RowKit Go.Shelf
set_option maxHeartbeats 4000000
set_option maxRecDepth 4000
/-! chapter 31: which model any frame is -/
def rv (zs : List Int) (i : Nat) : Int := if i < 7 ∧ zs.getD (atB i) 0 = 1 then getN zs (atB i) (nB i) - 2097152 else getN zs (atB i) (nB i)
theorem getN_head (zs : List Int) (a : Nat) : ∀ k, getN zs a (k + 1) = zs.getD a 0 * 2 ^ k + getN zs (a + 1) k := by
  intro k
  induction k with
  | zero => simp [getN]
  | succ k ih =>
    rw [getN, ih]
    show _ = _ * 2 ^ (k + 1) + (2 * getN zs (a + 1) k + zs.getD (a + 1 + k) 0)
    rw [show a + (k + 1) = a + 1 + k by omega, Int.pow_succ, ← Int.mul_assoc]
    omega
theorem rv_get (zs : List Int) (i : Nat) (hi : i < 9) (hl : 187 ≤ zs.length) (hb : ∀ p, p < 187 → zs.getD p 0 = 0 ∨ zs.getD p 0 = 1) :
    errT zs (fd9 i).a (fd9 i).n (fd9 i).u (fd9 i).c = 0 ∧ getR zs (fd9 i).a (fd9 i).n (fd9 i).g (fd9 i).u (fd9 i).c = rv zs i := by
  have hA : atB i + nB i ≤ 187 ∧ 1 ≤ nB i ∧ nB i ≤ 21 := by unfold atB nB; split <;> omega
  have hfk : fk (fd9 i).a (fd9 i).n (fd9 i).u (fd9 i).c := by unfold fk fd9; dsimp only; omega
  have hE : errT zs (fd9 i).a (fd9 i).n (fd9 i).u (fd9 i).c = 0 := by
    unfold errT
    rw [errF_ok hfk, if_pos rfl, if_neg (by unfold fd9; dsimp only; omega), if_pos ((oksP_iff _ _ _).2 (fun j hj => ?_))]
    unfold fd9 at hj ⊢
    dsimp only at hj ⊢
    exact hb _ (by omega)
  refine ⟨hE, ?_⟩
  unfold getR
  rw [if_pos hE]
  unfold getV rv fd9
  dsimp only
  rw [Int.toNat_natCast, Int.toNat_natCast, Int.mul_one, Int.zero_add]
  by_cases h7 : i < 7
  · have e1 : nB i = 21 := by unfold nB; rw [if_pos h7]
    have e2 := getN_head zs (atB i) 20
    have hbd := getN_bd zs (atB i + 1) 20 (fun j hj => hb _ (by omega))
    have h0 := hb (atB i) (by omega)
    rw [e1]
    simp only [h7, decide_true, sgnV, if_true, true_and]
    unfold sx
    have e3 : (2 : Int) ^ 20 = 1048576 := by decide
    have e4 : (2 : Int) ^ 21 = 2097152 := by decide
    rw [e3] at e2 hbd
    rw [show 21 - 1 = 20 from rfl, e3, e4]
    rw [show (20 + 1 : Nat) = 21 from rfl] at e2
    rcases h0 with h0 | h0
    · rw [h0] at e2 ⊢
      rw [if_neg (show ¬ ((0 : Int) = 1) by decide)]
      split <;> omega
    · rw [h0] at e2 ⊢
      rw [if_pos (show (1 : Int) = 1 from rfl)]
      split <;> omega
  · simp only [h7, decide_false, sgnV, Bool.false_eq_true, if_false, false_and]
theorem unR_zero (zs : List Int) : ∀ (fs : List Fd) (i : Nat) (out : List Int), (unR i zs out fs).2.1 = 0 → ∀ f ∈ fs, errT zs f.a f.n f.u f.c = 0 := by
  intro fs
  induction fs with
  | nil => intro i out _ f hf; cases hf
  | cons f r ih =>
    intro i out h g hg
    rw [unR] at h
    by_cases he : errT zs f.a f.n f.u f.c = 0
    · rw [if_pos he] at h
      rcases List.mem_cons.1 hg with rfl | hg
      · exact he
      · exact ih _ _ h g hg
    · rw [if_neg he] at h
      exact absurd h he
def rdGood (t k : Int) (zs : List Int) : Prop := k = 5 ∧ 0 ≤ t ∧ t < 131072 ∧ zs.length = 206 ∧ zs.all (inR 0 1) = true ∧ errA (rv zs) = 0 ∧ (zs.drop 187).all (inR 0 0) = true
theorem all01 {zs : List Int} (h : zs.all (inR 0 1) = true) (p : Nat) : zs.getD p 0 = 0 ∨ zs.getD p 0 = 1 := by
  rcases Nat.lt_or_ge p zs.length with hp | hp
  · have := List.all_eq_true.1 h _ (getD_mem zs p 0 hp)
    have := of_decide_eq_true this
    omega
  · rw [List.getD_eq_getElem?_getD, List.getElem?_eq_none hp]; exact .inl rfl
theorem layout31 : layout FS31 206 = (0, 0) := by decide +kernel
theorem unpack31 (zs : List Int) (hl : zs.length = 206) (hb : ∀ p, p < 187 → zs.getD p 0 = 0 ∨ zs.getD p 0 = 1) : unpackR FS31 zs = ((List.range 9).map fun i => rv zs i, (0, 0)) := by
  have h := unR_ok zs (ps31 (rv zs)) 0 [] (fun p hp => by
    obtain ⟨i, hi, rfl⟩ := List.mem_map.1 hp
    have hi9 := List.mem_range.1 hi
    have h9 := rv_get zs i hi9 (by omega) hb
    refine ⟨h9.1, ?_⟩
    rw [h9.2]
    show rv zs i = (0 : Int) + rv zs i * 1
    omega)
  rw [fs31_eq, vs31_eq, List.nil_append] at h
  unfold unpackR
  rw [hl, show layout FS31 ((206 : Nat) : Int) = (0, 0) from layout31, if_pos rfl, h]
theorem rdOk_iff (t k : Int) (zs : List Int) : RdOk t k zs (unpackR FS31 zs).1 (unpackR FS31 zs).2.1 (fun i => (unpackR FS31 zs).1.getD i 0) ↔ rdGood t k zs := by
  unfold RdOk rdGood
  constructor
  · rintro ⟨h1, h2, h3, h4, h5, h6, h7⟩
    have hz : ∀ f ∈ FS31, errT zs f.a f.n f.u f.c = 0 := by
      unfold unpackR at h5
      rw [h4, show layout FS31 ((206 : Nat) : Int) = (0, 0) from layout31, if_pos rfl] at h5
      exact unR_zero zs FS31 0 [] h5
    have hb : ∀ p, p < 187 → zs.getD p 0 = 0 ∨ zs.getD p 0 = 1 := fun p hp => by
      obtain ⟨i, hi, h8, h9⟩ : ∃ i, i < 9 ∧ atB i ≤ p ∧ p < atB i + nB i := by
        rcases Nat.lt_or_ge p 147 with h | h
        · refine ⟨p / 21, by omega, ?_⟩
          unfold atB nB
          rw [if_pos (by omega), if_pos (by omega)]
          omega
        · refine ⟨7 + (p - 147) / 20, by omega, ?_⟩
          unfold atB nB
          rw [if_neg (by omega), if_neg (by omega)]
          omega
      have hm : fd9 i ∈ FS31 := by
        rw [← fs31_eq (fun _ => 0)]
        exact List.mem_map.2 ⟨(fd9 i, 0), List.mem_map.2 ⟨i, List.mem_range.2 hi, rfl⟩, rfl⟩
      have he := hz _ hm
      have hA : atB i + nB i ≤ 187 ∧ 1 ≤ nB i ∧ nB i ≤ 21 := by unfold atB nB; split <;> omega
      have hfk : fk (fd9 i).a (fd9 i).n (fd9 i).u (fd9 i).c := by unfold fk fd9; dsimp only; omega
      unfold errT at he
      rw [errF_ok hfk, if_pos rfl, if_neg (by unfold fd9; dsimp only; omega)] at he
      cases hq : oksP zs (fd9 i).a.toNat (fd9 i).n.toNat with
      | false => rw [hq] at he; exact absurd he (by decide)
      | true =>
        have h10 := (oksP_iff _ _ _).1 hq (p - atB i) (by unfold fd9; dsimp only; omega)
        unfold fd9 at h10
        dsimp only at h10
        rw [Int.toNat_natCast, show atB i + (p - atB i) = p by omega] at h10
        exact h10
    rw [unpack31 zs h4 hb] at h6
    dsimp only at h6
    rw [errA_congr (fun i hi => getD_map9 (rv zs) i hi)] at h6
    have hd : (zs.drop 187).all (inR 0 0) = true := by
      rw [List.all_eq_true]
      intro d hd
      have := List.any_eq_false.1 h7 d hd
      simp only [bne_iff_ne, ne_eq, Decidable.not_not] at this
      subst this
      rfl
    refine ⟨h1, h2, h3, h4, ?_, h6, hd⟩
    rw [List.all_eq_true]
    intro d hd'
    obtain ⟨p, hp, rfl⟩ := List.mem_iff_getElem.1 hd'
    have h11 : zs[p] = zs.getD p 0 := by rw [List.getD_eq_getElem?_getD, List.getElem?_eq_getElem hp]; rfl
    rw [h11]
    rcases Nat.lt_or_ge p 187 with h | h
    · rcases hb p h with h | h <;> rw [h] <;> rfl
    · have h12 := List.all_eq_true.1 hd (zs.getD p 0) (by
        rw [← h11]
        exact List.mem_iff_getElem.2 ⟨p - 187, by rw [List.length_drop]; omega, by rw [List.getElem_drop]; congr 1; omega⟩)
      have := of_decide_eq_true h12
      rw [show zs.getD p 0 = 0 by omega]; rfl
  · rintro ⟨h1, h2, h3, h4, h5, h6, h7⟩
    rw [unpack31 zs h4 (fun p _ => all01 h5 p)]
    refine ⟨h1, h2, h3, h4, rfl, ?_, ?_⟩
    · dsimp only
      rw [errA_congr (fun i hi => getD_map9 (rv zs) i hi)]; exact h6
    · rw [List.any_eq_false]
      intro d hd
      have := of_decide_eq_true (List.all_eq_true.1 h7 d hd)
      rw [show d = 0 by omega]; decide
theorem Read_good (t k : Int) (zs : List Int) (a : Option Addr) (c : Nat) (w : World) (h : rdGood t k zs) (hv : RdI w (.slice a zs.length c) zs) (hc : zs.length ≤ c ∧ c ≤ 9223372036854775807) :
    Calls Try.prog 20 #[.agg #[.int .i64 t, .int .i64 k, .slice a zs.length c]] w fun e w' => e = .returned (.tuple #[.agg (atV (rv zs)), .int .i64 0]) ∧ Bw w w' := by
  have h9 := Read_main t k zs (unpackR FS31 zs).1 (unpackR FS31 zs).2.1 (unpackR FS31 zs).2.2 a c w (fun i => (unpackR FS31 zs).1.getD i 0) (fun i => (unpackR FS31 zs).1.getD i 0) 0 hv hc rfl (fun _ => rfl) (.inl ⟨(rdOk_iff t k zs).2 h, rfl, rfl⟩)
  rw [atV_congr (y := rv zs) (fun i hi => by rw [unpack31 zs h.2.2.2.1 (fun p _ => all01 h.2.2.2.2.1 p)]; exact getD_map9 (rv zs) i hi)] at h9
  exact h9
theorem Read_no (t k : Int) (zs : List Int) (a : Option Addr) (c : Nat) (w : World) (h : ¬ rdGood t k zs) (hv : RdI w (.slice a zs.length c) zs) (hc : zs.length ≤ c ∧ c ≤ 9223372036854775807) :
    Calls Try.prog 20 #[.agg #[.int .i64 t, .int .i64 k, .slice a zs.length c]] w fun e w' => e = .returned (.tuple #[.agg (atV (fun _ => 0)), .int .i64 3]) ∧ Bw w w' :=
  Read_main t k zs (unpackR FS31 zs).1 (unpackR FS31 zs).2.1 (unpackR FS31 zs).2.2 a c w (fun i => (unpackR FS31 zs).1.getD i 0) (fun _ => 0) 3 hv hc rfl (fun _ => rfl) (.inr ⟨fun h9 => h ((rdOk_iff t k zs).1 h9), rfl, rfl⟩)
theorem zeroAtm (w : World) : (zeroValue 25).run Try.prog w = .ok (.agg #[.int .i64 0, .int .i64 0, .int .i64 0, .int .i64 0, .int .i64 0, .int .i64 0, .int .i64 0, .int .i64 0, .int .i64 0]) w := by kernel_rfl
end Go.Proofs.Sky
