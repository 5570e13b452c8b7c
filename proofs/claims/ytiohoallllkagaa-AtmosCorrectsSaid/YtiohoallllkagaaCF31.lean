/-
  lemmas for the theorems of this claim. No conditions beyond those written in the statements.
-/
import Derived.Test.YtiohoallllkagaaL31
import Derived.Test.YtiohoallllkagaaB31b
import Derived.Test.YtiohoallllkagaaU25b
set_option linter.unusedVariables false
set_option linter.unusedSimpArgs false
set_option linter.unnecessarySimpa false
namespace Go.Proofs.Sky
open Go Go.RowKit Go.Shelf
set_option maxHeartbeats 4000000
set_option maxRecDepth 4000
/-! chapter 31: Frame -/
def FrP (base : Nat) (t k : Int) (l : List Int) (er : Int) (e : Ending) (w' : World) : Prop := ∃ v', e = .returned (.tuple #[.agg #[.int .i64 t, .int .i64 k, v'], .int .i64 er]) ∧ RdI w' v' l ∧ Fresh base v' ∧ Capd v'
theorem frP_nil (base : Nat) (er : Int) (w' : World) : FrP base 0 0 [] er (.returned (.tuple #[.agg #[.int .i64 0, .int .i64 0, .slice none 0 0], .int .i64 er])) w' := ⟨_, rfl, RdI.nil _, Fresh.nil _ _ _, Capd.nil⟩
theorem Frame_bad (x : Nat → Int) (tow : Int) (w : World) (h : errA x ≠ 0) :
    Calls Try.prog 18 #[.agg #[.int .i64 (x 0), .int .i64 (x 1), .int .i64 (x 2), .int .i64 (x 3), .int .i64 (x 4), .int .i64 (x 5), .int .i64 (x 6), .int .i64 (x 7), .int .i64 (x 8)], .int .i64 tow] w fun e w' => FrP w.heap.size 0 0 [] (errA x) e w' ∧ Bw w w' := by
  have CK := Lib.hid (fun W => ACheck_any x W)
  have HBW := Lib.hid (Bw.alloc (Bw.alloc (Bw.refl w) (.cells #[.int .i64 (x 0), .int .i64 (x 1), .int .i64 (x 2), .int .i64 (x 3), .int .i64 (x 4), .int .i64 (x 5), .int .i64 (x 6), .int .i64 (x 7), .int .i64 (x 8)] 25)) (.cells #[.int .i64 0, .int .i64 0, .slice none 0 0] 38))
  have KX := Lib.hid ((Blk.new w 25 #[.int .i64 (x 0), .int .i64 (x 1), .int .i64 (x 2), .int .i64 (x 3), .int .i64 (x 4), .int .i64 (x 5), .int .i64 (x 6), .int .i64 (x 7), .int .i64 (x 8)]).alloc (.cells #[.int .i64 0, .int .i64 0, .slice none 0 0] 38))
  have FX : Hid (Blk ((w.alloc (.cells #[.int .i64 (x 0), .int .i64 (x 1), .int .i64 (x 2), .int .i64 (x 3), .int .i64 (x 4), .int .i64 (x 5), .int .i64 (x 6), .int .i64 (x 7), .int .i64 (x 8)] 25)).alloc (.cells #[.int .i64 0, .int .i64 0, .slice none 0 0] 38)) (w.heap.size + 1) 38 #[.int .i64 0, .int .i64 0, .slice none 0 0]) := Lib.hid (by have h9 := Blk.new (w.alloc (.cells #[.int .i64 (x 0), .int .i64 (x 1), .int .i64 (x 2), .int .i64 (x 3), .int .i64 (x 4), .int .i64 (x 5), .int .i64 (x 6), .int .i64 (x 7), .int .i64 (x 8)] 25)) 38 #[.int .i64 0, .int .i64 0, .slice none 0 0]; simpa using h9)
  generalize errA x = er at *
  have hne : (er != 0) = true := by simpa using h
  go_enter Try.func18, Try.ntmps18
  go_upto_region 1 with fail
  obtain ⟨W0, hW0⟩ : ∃ W0, ((w.alloc (.cells #[.int .i64 (x 0), .int .i64 (x 1), .int .i64 (x 2), .int .i64 (x 3), .int .i64 (x 4), .int .i64 (x 5), .int .i64 (x 6), .int .i64 (x 7), .int .i64 (x 8)] 25)).alloc (.cells #[.int .i64 0, .int .i64 0, .slice none 0 0] 38)) = W0 := ⟨_, rfl⟩
  rw [hW0] at HBW KX FX ⊢
  clear hW0
  have k0 : W0.cell? ⟨w.heap.size, 0, none⟩ = some (.int .i64 (x 0)) := KX.out.cell rfl
  have k1 : W0.cell? ⟨w.heap.size, 1, none⟩ = some (.int .i64 (x 1)) := KX.out.cell rfl
  have k2 : W0.cell? ⟨w.heap.size, 2, none⟩ = some (.int .i64 (x 2)) := KX.out.cell rfl
  have k3 : W0.cell? ⟨w.heap.size, 3, none⟩ = some (.int .i64 (x 3)) := KX.out.cell rfl
  have k4 : W0.cell? ⟨w.heap.size, 4, none⟩ = some (.int .i64 (x 4)) := KX.out.cell rfl
  have k5 : W0.cell? ⟨w.heap.size, 5, none⟩ = some (.int .i64 (x 5)) := KX.out.cell rfl
  have k6 : W0.cell? ⟨w.heap.size, 6, none⟩ = some (.int .i64 (x 6)) := KX.out.cell rfl
  have k7 : W0.cell? ⟨w.heap.size, 7, none⟩ = some (.int .i64 (x 7)) := KX.out.cell rfl
  have k8 : W0.cell? ⟨w.heap.size, 8, none⟩ = some (.int .i64 (x 8)) := KX.out.cell rfl
  have g0 : W0.cell? ⟨w.heap.size + 1, 0, none⟩ = some (.int .i64 0) := FX.out.cell rfl
  have g1 : W0.cell? ⟨w.heap.size + 1, 1, none⟩ = some (.int .i64 0) := FX.out.cell rfl
  have g2 : W0.cell? ⟨w.heap.size + 1, 2, none⟩ = some (.slice none 0 0) := FX.out.cell rfl
  have f0 := FX.out.frozen 0
  have f1 := FX.out.frozen 1
  have f2 := FX.out.frozen 2
  go_wp2_with (go_at_call 13; (with_reducible refine Calls.mono (CK.out _) ?_); rintro e1 w1 ⟨rfl, hb9⟩; replace HBW := Lib.hid (HBW.out.trans hb9); replace KX := Lib.hid (KX.out.bw hb9); replace FX := Lib.hid (FX.out.bw hb9); clear hb9; clear k0 k1 k2 k3 k4 k5 k6 k7 k8; clear g0 g1 g2 f0 f1 f2; have k0 : w1.cell? ⟨w.heap.size, 0, none⟩ = some (.int .i64 (x 0)) := KX.out.cell rfl; have k1 : w1.cell? ⟨w.heap.size, 1, none⟩ = some (.int .i64 (x 1)) := KX.out.cell rfl; have k2 : w1.cell? ⟨w.heap.size, 2, none⟩ = some (.int .i64 (x 2)) := KX.out.cell rfl; have k3 : w1.cell? ⟨w.heap.size, 3, none⟩ = some (.int .i64 (x 3)) := KX.out.cell rfl; have k4 : w1.cell? ⟨w.heap.size, 4, none⟩ = some (.int .i64 (x 4)) := KX.out.cell rfl; have k5 : w1.cell? ⟨w.heap.size, 5, none⟩ = some (.int .i64 (x 5)) := KX.out.cell rfl; have k6 : w1.cell? ⟨w.heap.size, 6, none⟩ = some (.int .i64 (x 6)) := KX.out.cell rfl; have k7 : w1.cell? ⟨w.heap.size, 7, none⟩ = some (.int .i64 (x 7)) := KX.out.cell rfl; have k8 : w1.cell? ⟨w.heap.size, 8, none⟩ = some (.int .i64 (x 8)) := KX.out.cell rfl; have g0 : w1.cell? ⟨w.heap.size + 1, 0, none⟩ = some (.int .i64 0) := FX.out.cell rfl; have g1 : w1.cell? ⟨w.heap.size + 1, 1, none⟩ = some (.int .i64 0) := FX.out.cell rfl; have g2 : w1.cell? ⟨w.heap.size + 1, 2, none⟩ = some (.slice none 0 0) := FX.out.cell rfl; have f0 := FX.out.frozen 0; have f1 := FX.out.frozen 1; have f2 := FX.out.frozen 2)
  have F3 := ((FX.out.set 0 (.int .i64 0)).set 1 (.int .i64 0)).set 2 (.slice none 0 0)
  have B3 := Bw.setCell (Bw.setCell (Bw.setCell HBW.out (p := ⟨w.heap.size + 1, 0, none⟩) (by simp) (.int .i64 0)) (p := ⟨w.heap.size + 1, 1, none⟩) (by simp) (.int .i64 0)) (p := ⟨w.heap.size + 1, 2, none⟩) (by simp) (.slice none 0 0)
  have m0 := F3.cell (j := 0) rfl
  have m1 := F3.cell (j := 1) rfl
  have m2 := F3.cell (j := 2) rfl
  refine bodyPost_ret (v := .tuple #[.agg #[.int .i64 0, .int .i64 0, .slice none 0 0], .int .i64 er]) ?_ rfl ⟨frP_nil _ _ _, B3⟩
  simp [results, Try.results18, go_sem, m0, m1, m2]
theorem Frame_range (x : Nat → Int) (tow : Int) (w : World) (h : errA x = 0) (hr : tow < 0 ∨ 131072 ≤ tow) :
    Calls Try.prog 18 #[.agg #[.int .i64 (x 0), .int .i64 (x 1), .int .i64 (x 2), .int .i64 (x 3), .int .i64 (x 4), .int .i64 (x 5), .int .i64 (x 6), .int .i64 (x 7), .int .i64 (x 8)], .int .i64 tow] w fun e w' => FrP w.heap.size 0 0 [] 2 e w' ∧ Bw w w' := by
  have CK := Lib.hid (fun W => ACheck_any x W)
  have HBW := Lib.hid (Bw.alloc (Bw.alloc (Bw.refl w) (.cells #[.int .i64 (x 0), .int .i64 (x 1), .int .i64 (x 2), .int .i64 (x 3), .int .i64 (x 4), .int .i64 (x 5), .int .i64 (x 6), .int .i64 (x 7), .int .i64 (x 8)] 25)) (.cells #[.int .i64 0, .int .i64 0, .slice none 0 0] 38))
  have KX := Lib.hid ((Blk.new w 25 #[.int .i64 (x 0), .int .i64 (x 1), .int .i64 (x 2), .int .i64 (x 3), .int .i64 (x 4), .int .i64 (x 5), .int .i64 (x 6), .int .i64 (x 7), .int .i64 (x 8)]).alloc (.cells #[.int .i64 0, .int .i64 0, .slice none 0 0] 38))
  have FX : Hid (Blk ((w.alloc (.cells #[.int .i64 (x 0), .int .i64 (x 1), .int .i64 (x 2), .int .i64 (x 3), .int .i64 (x 4), .int .i64 (x 5), .int .i64 (x 6), .int .i64 (x 7), .int .i64 (x 8)] 25)).alloc (.cells #[.int .i64 0, .int .i64 0, .slice none 0 0] 38)) (w.heap.size + 1) 38 #[.int .i64 0, .int .i64 0, .slice none 0 0]) := Lib.hid (by have h9 := Blk.new (w.alloc (.cells #[.int .i64 (x 0), .int .i64 (x 1), .int .i64 (x 2), .int .i64 (x 3), .int .i64 (x 4), .int .i64 (x 5), .int .i64 (x 6), .int .i64 (x 7), .int .i64 (x 8)] 25)) 38 #[.int .i64 0, .int .i64 0, .slice none 0 0]; simpa using h9)
  rw [h] at CK
  by_cases q1 : tow < 0
  · clear hr
    go_enter Try.func18, Try.ntmps18
    go_upto_region 1 with fail
    obtain ⟨W0, hW0⟩ : ∃ W0, ((w.alloc (.cells #[.int .i64 (x 0), .int .i64 (x 1), .int .i64 (x 2), .int .i64 (x 3), .int .i64 (x 4), .int .i64 (x 5), .int .i64 (x 6), .int .i64 (x 7), .int .i64 (x 8)] 25)).alloc (.cells #[.int .i64 0, .int .i64 0, .slice none 0 0] 38)) = W0 := ⟨_, rfl⟩
    rw [hW0] at HBW KX FX ⊢
    clear hW0
    have k0 : W0.cell? ⟨w.heap.size, 0, none⟩ = some (.int .i64 (x 0)) := KX.out.cell rfl
    have k1 : W0.cell? ⟨w.heap.size, 1, none⟩ = some (.int .i64 (x 1)) := KX.out.cell rfl
    have k2 : W0.cell? ⟨w.heap.size, 2, none⟩ = some (.int .i64 (x 2)) := KX.out.cell rfl
    have k3 : W0.cell? ⟨w.heap.size, 3, none⟩ = some (.int .i64 (x 3)) := KX.out.cell rfl
    have k4 : W0.cell? ⟨w.heap.size, 4, none⟩ = some (.int .i64 (x 4)) := KX.out.cell rfl
    have k5 : W0.cell? ⟨w.heap.size, 5, none⟩ = some (.int .i64 (x 5)) := KX.out.cell rfl
    have k6 : W0.cell? ⟨w.heap.size, 6, none⟩ = some (.int .i64 (x 6)) := KX.out.cell rfl
    have k7 : W0.cell? ⟨w.heap.size, 7, none⟩ = some (.int .i64 (x 7)) := KX.out.cell rfl
    have k8 : W0.cell? ⟨w.heap.size, 8, none⟩ = some (.int .i64 (x 8)) := KX.out.cell rfl
    have g0 : W0.cell? ⟨w.heap.size + 1, 0, none⟩ = some (.int .i64 0) := FX.out.cell rfl
    have g1 : W0.cell? ⟨w.heap.size + 1, 1, none⟩ = some (.int .i64 0) := FX.out.cell rfl
    have g2 : W0.cell? ⟨w.heap.size + 1, 2, none⟩ = some (.slice none 0 0) := FX.out.cell rfl
    have f0 := FX.out.frozen 0
    have f1 := FX.out.frozen 1
    have f2 := FX.out.frozen 2
    go_wp2_with (go_at_call 13; (with_reducible refine Calls.mono (CK.out _) ?_); rintro e1 w1 ⟨rfl, hb9⟩; replace HBW := Lib.hid (HBW.out.trans hb9); replace KX := Lib.hid (KX.out.bw hb9); replace FX := Lib.hid (FX.out.bw hb9); clear hb9; clear k0 k1 k2 k3 k4 k5 k6 k7 k8; clear g0 g1 g2 f0 f1 f2; have k0 : w1.cell? ⟨w.heap.size, 0, none⟩ = some (.int .i64 (x 0)) := KX.out.cell rfl; have k1 : w1.cell? ⟨w.heap.size, 1, none⟩ = some (.int .i64 (x 1)) := KX.out.cell rfl; have k2 : w1.cell? ⟨w.heap.size, 2, none⟩ = some (.int .i64 (x 2)) := KX.out.cell rfl; have k3 : w1.cell? ⟨w.heap.size, 3, none⟩ = some (.int .i64 (x 3)) := KX.out.cell rfl; have k4 : w1.cell? ⟨w.heap.size, 4, none⟩ = some (.int .i64 (x 4)) := KX.out.cell rfl; have k5 : w1.cell? ⟨w.heap.size, 5, none⟩ = some (.int .i64 (x 5)) := KX.out.cell rfl; have k6 : w1.cell? ⟨w.heap.size, 6, none⟩ = some (.int .i64 (x 6)) := KX.out.cell rfl; have k7 : w1.cell? ⟨w.heap.size, 7, none⟩ = some (.int .i64 (x 7)) := KX.out.cell rfl; have k8 : w1.cell? ⟨w.heap.size, 8, none⟩ = some (.int .i64 (x 8)) := KX.out.cell rfl; have g0 : w1.cell? ⟨w.heap.size + 1, 0, none⟩ = some (.int .i64 0) := FX.out.cell rfl; have g1 : w1.cell? ⟨w.heap.size + 1, 1, none⟩ = some (.int .i64 0) := FX.out.cell rfl; have g2 : w1.cell? ⟨w.heap.size + 1, 2, none⟩ = some (.slice none 0 0) := FX.out.cell rfl; have f0 := FX.out.frozen 0; have f1 := FX.out.frozen 1; have f2 := FX.out.frozen 2)
    have F3 := ((FX.out.set 0 (.int .i64 0)).set 1 (.int .i64 0)).set 2 (.slice none 0 0)
    have B3 := Bw.setCell (Bw.setCell (Bw.setCell HBW.out (p := ⟨w.heap.size + 1, 0, none⟩) (by simp) (.int .i64 0)) (p := ⟨w.heap.size + 1, 1, none⟩) (by simp) (.int .i64 0)) (p := ⟨w.heap.size + 1, 2, none⟩) (by simp) (.slice none 0 0)
    have m0 := F3.cell (j := 0) rfl
    have m1 := F3.cell (j := 1) rfl
    have m2 := F3.cell (j := 2) rfl
    refine bodyPost_ret (v := .tuple #[.agg #[.int .i64 0, .int .i64 0, .slice none 0 0], .int .i64 2]) ?_ rfl ⟨frP_nil _ _ _, B3⟩
    simp [results, Try.results18, go_sem, m0, m1, m2]
  have q2 : 131072 ≤ tow := by omega
  clear hr
  go_enter Try.func18, Try.ntmps18
  go_upto_region 1 with fail
  obtain ⟨W0, hW0⟩ : ∃ W0, ((w.alloc (.cells #[.int .i64 (x 0), .int .i64 (x 1), .int .i64 (x 2), .int .i64 (x 3), .int .i64 (x 4), .int .i64 (x 5), .int .i64 (x 6), .int .i64 (x 7), .int .i64 (x 8)] 25)).alloc (.cells #[.int .i64 0, .int .i64 0, .slice none 0 0] 38)) = W0 := ⟨_, rfl⟩
  rw [hW0] at HBW KX FX ⊢
  clear hW0
  have k0 : W0.cell? ⟨w.heap.size, 0, none⟩ = some (.int .i64 (x 0)) := KX.out.cell rfl
  have k1 : W0.cell? ⟨w.heap.size, 1, none⟩ = some (.int .i64 (x 1)) := KX.out.cell rfl
  have k2 : W0.cell? ⟨w.heap.size, 2, none⟩ = some (.int .i64 (x 2)) := KX.out.cell rfl
  have k3 : W0.cell? ⟨w.heap.size, 3, none⟩ = some (.int .i64 (x 3)) := KX.out.cell rfl
  have k4 : W0.cell? ⟨w.heap.size, 4, none⟩ = some (.int .i64 (x 4)) := KX.out.cell rfl
  have k5 : W0.cell? ⟨w.heap.size, 5, none⟩ = some (.int .i64 (x 5)) := KX.out.cell rfl
  have k6 : W0.cell? ⟨w.heap.size, 6, none⟩ = some (.int .i64 (x 6)) := KX.out.cell rfl
  have k7 : W0.cell? ⟨w.heap.size, 7, none⟩ = some (.int .i64 (x 7)) := KX.out.cell rfl
  have k8 : W0.cell? ⟨w.heap.size, 8, none⟩ = some (.int .i64 (x 8)) := KX.out.cell rfl
  have g0 : W0.cell? ⟨w.heap.size + 1, 0, none⟩ = some (.int .i64 0) := FX.out.cell rfl
  have g1 : W0.cell? ⟨w.heap.size + 1, 1, none⟩ = some (.int .i64 0) := FX.out.cell rfl
  have g2 : W0.cell? ⟨w.heap.size + 1, 2, none⟩ = some (.slice none 0 0) := FX.out.cell rfl
  have f0 := FX.out.frozen 0
  have f1 := FX.out.frozen 1
  have f2 := FX.out.frozen 2
  go_wp2_with (go_at_call 13; (with_reducible refine Calls.mono (CK.out _) ?_); rintro e1 w1 ⟨rfl, hb9⟩; replace HBW := Lib.hid (HBW.out.trans hb9); replace KX := Lib.hid (KX.out.bw hb9); replace FX := Lib.hid (FX.out.bw hb9); clear hb9; clear k0 k1 k2 k3 k4 k5 k6 k7 k8; clear g0 g1 g2 f0 f1 f2; have k0 : w1.cell? ⟨w.heap.size, 0, none⟩ = some (.int .i64 (x 0)) := KX.out.cell rfl; have k1 : w1.cell? ⟨w.heap.size, 1, none⟩ = some (.int .i64 (x 1)) := KX.out.cell rfl; have k2 : w1.cell? ⟨w.heap.size, 2, none⟩ = some (.int .i64 (x 2)) := KX.out.cell rfl; have k3 : w1.cell? ⟨w.heap.size, 3, none⟩ = some (.int .i64 (x 3)) := KX.out.cell rfl; have k4 : w1.cell? ⟨w.heap.size, 4, none⟩ = some (.int .i64 (x 4)) := KX.out.cell rfl; have k5 : w1.cell? ⟨w.heap.size, 5, none⟩ = some (.int .i64 (x 5)) := KX.out.cell rfl; have k6 : w1.cell? ⟨w.heap.size, 6, none⟩ = some (.int .i64 (x 6)) := KX.out.cell rfl; have k7 : w1.cell? ⟨w.heap.size, 7, none⟩ = some (.int .i64 (x 7)) := KX.out.cell rfl; have k8 : w1.cell? ⟨w.heap.size, 8, none⟩ = some (.int .i64 (x 8)) := KX.out.cell rfl; have g0 : w1.cell? ⟨w.heap.size + 1, 0, none⟩ = some (.int .i64 0) := FX.out.cell rfl; have g1 : w1.cell? ⟨w.heap.size + 1, 1, none⟩ = some (.int .i64 0) := FX.out.cell rfl; have g2 : w1.cell? ⟨w.heap.size + 1, 2, none⟩ = some (.slice none 0 0) := FX.out.cell rfl; have f0 := FX.out.frozen 0; have f1 := FX.out.frozen 1; have f2 := FX.out.frozen 2)
  have F3 := ((FX.out.set 0 (.int .i64 0)).set 1 (.int .i64 0)).set 2 (.slice none 0 0)
  have B3 := Bw.setCell (Bw.setCell (Bw.setCell HBW.out (p := ⟨w.heap.size + 1, 0, none⟩) (by simp) (.int .i64 0)) (p := ⟨w.heap.size + 1, 1, none⟩) (by simp) (.int .i64 0)) (p := ⟨w.heap.size + 1, 2, none⟩) (by simp) (.slice none 0 0)
  have m0 := F3.cell (j := 0) rfl
  have m1 := F3.cell (j := 1) rfl
  have m2 := F3.cell (j := 2) rfl
  refine bodyPost_ret (v := .tuple #[.agg #[.int .i64 0, .int .i64 0, .slice none 0 0], .int .i64 2]) ?_ rfl ⟨frP_nil _ _ _, B3⟩
  simp [results, Try.results18, go_sem, m0, m1, m2]
theorem Frame_ok (x : Nat → Int) (tow : Int) (w : World) (h : errA x = 0) (hr : 0 ≤ tow ∧ tow < 131072) :
    Calls Try.prog 18 #[.agg #[.int .i64 (x 0), .int .i64 (x 1), .int .i64 (x 2), .int .i64 (x 3), .int .i64 (x 4), .int .i64 (x 5), .int .i64 (x 6), .int .i64 (x 7), .int .i64 (x 8)], .int .i64 tow] w fun e w' => FrP w.heap.size tow 5 (packR 206 FS31 ((List.range 9).map fun i => x i)).1 0 e w' ∧ Bw w w' := by
  have CK := Lib.hid (fun W => ACheck_any x W)
  have HBW := Lib.hid (Bw.alloc (Bw.alloc (Bw.refl w) (.cells #[.int .i64 (x 0), .int .i64 (x 1), .int .i64 (x 2), .int .i64 (x 3), .int .i64 (x 4), .int .i64 (x 5), .int .i64 (x 6), .int .i64 (x 7), .int .i64 (x 8)] 25)) (.cells #[.int .i64 0, .int .i64 0, .slice none 0 0] 38))
  have KX := Lib.hid ((Blk.new w 25 #[.int .i64 (x 0), .int .i64 (x 1), .int .i64 (x 2), .int .i64 (x 3), .int .i64 (x 4), .int .i64 (x 5), .int .i64 (x 6), .int .i64 (x 7), .int .i64 (x 8)]).alloc (.cells #[.int .i64 0, .int .i64 0, .slice none 0 0] 38))
  have FX : Hid (Blk ((w.alloc (.cells #[.int .i64 (x 0), .int .i64 (x 1), .int .i64 (x 2), .int .i64 (x 3), .int .i64 (x 4), .int .i64 (x 5), .int .i64 (x 6), .int .i64 (x 7), .int .i64 (x 8)] 25)).alloc (.cells #[.int .i64 0, .int .i64 0, .slice none 0 0] 38)) (w.heap.size + 1) 38 #[.int .i64 0, .int .i64 0, .slice none 0 0]) := Lib.hid (by have h9 := Blk.new (w.alloc (.cells #[.int .i64 (x 0), .int .i64 (x 1), .int .i64 (x 2), .int .i64 (x 3), .int .i64 (x 4), .int .i64 (x 5), .int .i64 (x 6), .int .i64 (x 7), .int .i64 (x 8)] 25)) 38 #[.int .i64 0, .int .i64 0, .slice none 0 0]; simpa using h9)
  rw [h] at CK
  have NM := Lib.hid (fun W (h : w.heap.size < W.heap.size) => numbers_any w.heap.size W h)
  unfold NumP at NM
  have FD := Lib.hid (fun W => fields_any W)
  have PK := Lib.hid (fun W vf vv hf hv => Pack_any FS31 ((List.range 9).map fun i => x i) vf vv 206 W hf hv)
  unfold PackP at PK
  generalize packR 206 FS31 ((List.range 9).map fun i => x i) = PR at *
  obtain ⟨pl, px, py⟩ := PR
  dsimp only at *
  have q1 : ¬ tow < 0 := by omega
  have q2 : ¬ 131072 ≤ tow := by omega
  clear hr h
  go_enter Try.func18, Try.ntmps18
  go_upto_region 1 with fail
  obtain ⟨W0, hW0⟩ : ∃ W0, ((w.alloc (.cells #[.int .i64 (x 0), .int .i64 (x 1), .int .i64 (x 2), .int .i64 (x 3), .int .i64 (x 4), .int .i64 (x 5), .int .i64 (x 6), .int .i64 (x 7), .int .i64 (x 8)] 25)).alloc (.cells #[.int .i64 0, .int .i64 0, .slice none 0 0] 38)) = W0 := ⟨_, rfl⟩
  rw [hW0] at HBW KX FX ⊢
  clear hW0
  have k0 : W0.cell? ⟨w.heap.size, 0, none⟩ = some (.int .i64 (x 0)) := KX.out.cell rfl
  have k1 : W0.cell? ⟨w.heap.size, 1, none⟩ = some (.int .i64 (x 1)) := KX.out.cell rfl
  have k2 : W0.cell? ⟨w.heap.size, 2, none⟩ = some (.int .i64 (x 2)) := KX.out.cell rfl
  have k3 : W0.cell? ⟨w.heap.size, 3, none⟩ = some (.int .i64 (x 3)) := KX.out.cell rfl
  have k4 : W0.cell? ⟨w.heap.size, 4, none⟩ = some (.int .i64 (x 4)) := KX.out.cell rfl
  have k5 : W0.cell? ⟨w.heap.size, 5, none⟩ = some (.int .i64 (x 5)) := KX.out.cell rfl
  have k6 : W0.cell? ⟨w.heap.size, 6, none⟩ = some (.int .i64 (x 6)) := KX.out.cell rfl
  have k7 : W0.cell? ⟨w.heap.size, 7, none⟩ = some (.int .i64 (x 7)) := KX.out.cell rfl
  have k8 : W0.cell? ⟨w.heap.size, 8, none⟩ = some (.int .i64 (x 8)) := KX.out.cell rfl
  have g0 : W0.cell? ⟨w.heap.size + 1, 0, none⟩ = some (.int .i64 0) := FX.out.cell rfl
  have g1 : W0.cell? ⟨w.heap.size + 1, 1, none⟩ = some (.int .i64 0) := FX.out.cell rfl
  have g2 : W0.cell? ⟨w.heap.size + 1, 2, none⟩ = some (.slice none 0 0) := FX.out.cell rfl
  have f0 := FX.out.frozen 0
  have f1 := FX.out.frozen 1
  have f2 := FX.out.frozen 2
  go_wp2_with (first | (go_at_call 13; (with_reducible refine Calls.mono (CK.out _) ?_); rintro e1 w1 ⟨rfl, hb9⟩; replace HBW := Lib.hid (HBW.out.trans hb9); replace KX := Lib.hid (KX.out.bw hb9); replace FX := Lib.hid (FX.out.bw hb9); clear hb9; clear k0 k1 k2 k3 k4 k5 k6 k7 k8; clear g0 g1 g2 f0 f1 f2; have k0 : w1.cell? ⟨w.heap.size, 0, none⟩ = some (.int .i64 (x 0)) := KX.out.cell rfl; have k1 : w1.cell? ⟨w.heap.size, 1, none⟩ = some (.int .i64 (x 1)) := KX.out.cell rfl; have k2 : w1.cell? ⟨w.heap.size, 2, none⟩ = some (.int .i64 (x 2)) := KX.out.cell rfl; have k3 : w1.cell? ⟨w.heap.size, 3, none⟩ = some (.int .i64 (x 3)) := KX.out.cell rfl; have k4 : w1.cell? ⟨w.heap.size, 4, none⟩ = some (.int .i64 (x 4)) := KX.out.cell rfl; have k5 : w1.cell? ⟨w.heap.size, 5, none⟩ = some (.int .i64 (x 5)) := KX.out.cell rfl; have k6 : w1.cell? ⟨w.heap.size, 6, none⟩ = some (.int .i64 (x 6)) := KX.out.cell rfl; have k7 : w1.cell? ⟨w.heap.size, 7, none⟩ = some (.int .i64 (x 7)) := KX.out.cell rfl; have k8 : w1.cell? ⟨w.heap.size, 8, none⟩ = some (.int .i64 (x 8)) := KX.out.cell rfl; have g0 : w1.cell? ⟨w.heap.size + 1, 0, none⟩ = some (.int .i64 0) := FX.out.cell rfl; have g1 : w1.cell? ⟨w.heap.size + 1, 1, none⟩ = some (.int .i64 0) := FX.out.cell rfl; have g2 : w1.cell? ⟨w.heap.size + 1, 2, none⟩ = some (.slice none 0 0) := FX.out.cell rfl; have f0 := FX.out.frozen 0; have f1 := FX.out.frozen 1; have f2 := FX.out.frozen 2) | (go_at_call 37; (with_reducible refine Calls.mono (NM.out _ KX.out.lt) ?_); rintro e1 w2 ⟨⟨v9, rfl, hr, _⟩, hb9⟩; obtain ⟨bp, cp, rfl, hbp, hc⟩ := hr; have HP := Lib.hid hc; have HPL := Lib.hid hbp; replace HBW := Lib.hid (HBW.out.trans hb9); replace KX := Lib.hid (KX.out.bw hb9); replace FX := Lib.hid (FX.out.bw hb9); clear hc hbp hb9; clear k0 k1 k2 k3 k4 k5 k6 k7 k8; clear g0 g1 g2 f0 f1 f2))
  obtain ⟨BB, hBB⟩ : ∃ BB, w2.heap.size = BB := ⟨_, rfl⟩
  have HB := Lib.hid hBB
  clear hBB
  go_loopg [7, 27] 9 (fun gg s7 s27 wr => ∃ k : Nat, k ≤ 9 ∧ 9 - k ≤ gg ∧ s27 = .int .i64 k ∧ Hid (Bw w2 wr) ∧ Hid (wr.ownsRow BB 3 1 s7 ((List.range k).map fun i => x i).length (((List.range k).map fun i => x i).map (Value.int .i64))))
  case atStart => exact ⟨0, by omega, by omega, rfl, Lib.hid (Bw.refl _), Lib.hid (World.ownsRow_nil _ _ _ _)⟩
  case round =>
    obtain ⟨k, hk, hgg, rfl, HW, O1⟩ := hrel
    by_cases hlt : k < 9
    · have hkz : (k : Int) < 9 := by omega
      have p0 : wr.cell? ⟨bp, k, none⟩ = some (.pointer (some ⟨w.heap.size, k, none⟩)) := HW.out.cell' (HP.out k hlt)
      have p1 : wr.cell? ⟨w.heap.size, k, none⟩ = some (.int .i64 (x k)) := (KX.out.bw HW.out).cell (atV_at x k hlt)
      have HT := Lib.hid (show (List.range (k + 1)).map (fun i => x i) = (List.range k).map (fun i => x i) ++ [x k] by rw [List.range_succ, List.map_append]; rfl)
      have HL := Lib.hid (show ((List.range k).map fun i => x i).length = k by rw [List.length_map, List.length_range])
      generalize (List.range k).map (fun i => x i) = l1 at O1 HT HL
      go_wp2_with (at_builtin; have hba := Bw.alloc (Bw.refl wr) (.cells #[.int .i64 (x k)] 3); replace O1 := Lib.hid (own_bw O1.out hba); replace HW := Lib.hid (HW.out.trans hba); clear hba; refine wpList_append_int1 rfl (.tmp 31) (.tmp 35) _ rfl BB 3 Try.underlying36 infoInt _ l1 (x k) rfl O1.out _ rfl (by simp [go_sem]) (by have := HL.out; omega) (by have := HW.out.size; have := HB.out; simp only [World.size_alloc] at *; omega) ?_; intro v7 w7 hown hgr; replace HW := Lib.hid (bw_grownN HB.out HW.out O1.out hgr); replace O1 := Lib.hid hown; clear hown hgr)
      go_roundg (9 - (k + 1))
      case measure => omega
      case rel => exact ⟨k + 1, by omega, by omega, by go_num, HW, Lib.hid (by rw [HT.out]; exact O1.out)⟩
    · obtain rfl : k = 9 := by omega
      have HV := Lib.hid (own_rd O1.out (by simp)).1
      replace HBW := Lib.hid (HBW.out.trans HW.out)
      replace KX := Lib.hid (KX.out.bw HW.out)
      replace FX := Lib.hid (FX.out.bw HW.out)
      clear HW O1
      go_wp2_with (first | (go_at_call 39; (with_reducible refine Calls.mono (FD.out _) ?_); rintro e1 w3 ⟨⟨vf, rfl, hrf, _⟩, hb9⟩; have HRF := Lib.hid hrf; replace HV := Lib.hid (HV.out.mono hb9); replace HBW := Lib.hid (HBW.out.trans hb9); replace KX := Lib.hid (KX.out.bw hb9); replace FX := Lib.hid (FX.out.bw hb9); clear hrf hb9) | (go_at_call 38; (with_reducible refine Calls.mono (PK.out _ _ _ HRF.out HV.out) ?_); rintro e1 w4 ⟨⟨vd, rfl, hrd, hfr, hcd⟩, hb9⟩; obtain ⟨va, vc, rfl⟩ := hrd.form; have HRD := Lib.hid (And.intro hrd (And.intro (hfr.mono (show w.heap.size + 2 ≤ w3.heap.size from by have := FX.out.lt; omega)) hcd)); replace HBW := Lib.hid (HBW.out.trans hb9); replace KX := Lib.hid (KX.out.bw hb9); replace FX := Lib.hid (FX.out.bw hb9); clear hrd hfr hcd hb9; have hl4 := FX.out.lt; have g0 : w4.cell? ⟨w.heap.size + 1, 0, none⟩ = some (.int .i64 0) := FX.out.cell rfl; have g1 : w4.cell? ⟨w.heap.size + 1, 1, none⟩ = some (.int .i64 0) := FX.out.cell rfl; have g2 : w4.cell? ⟨w.heap.size + 1, 2, none⟩ = some (.slice none 0 0) := FX.out.cell rfl; have f0 := FX.out.frozen 0; have f1 := FX.out.frozen 1; have f2 := FX.out.frozen 2))
      obtain ⟨hrd, hfr, hcd⟩ := HRD.out
      have F3 := (((FX.out.set 0 (.int .i64 tow)).set 1 (.int .i64 5)).set 2 (.slice va pl.length vc)).alloc (.cells #[.int .i64 px, .int .i64 py] 69)
      have B3 := Bw.alloc (Bw.setCell (Bw.setCell (Bw.setCell HBW.out (p := ⟨w.heap.size + 1, 0, none⟩) (by simp) (.int .i64 tow)) (p := ⟨w.heap.size + 1, 1, none⟩) (by simp) (.int .i64 5)) (p := ⟨w.heap.size + 1, 2, none⟩) (by simp) (.slice va pl.length vc)) (.cells #[.int .i64 px, .int .i64 py] 69)
      have R3 := (((hrd.set hfr (show w.heap.size + 1 < w.heap.size + 2 by omega) 0 (.int .i64 tow)).set hfr (show w.heap.size + 1 < w.heap.size + 2 by omega) 1 (.int .i64 5)).set hfr (show w.heap.size + 1 < w.heap.size + 2 by omega) 2 (.slice va pl.length vc)).mono (Bw.alloc (Bw.refl _) (.cells #[.int .i64 px, .int .i64 py] 69))
      have m0 := F3.cell (j := 0) (v := .int .i64 tow) rfl
      have m1 := F3.cell (j := 1) (v := .int .i64 5) rfl
      have m2 := F3.cell (j := 2) (v := .slice va pl.length vc) rfl
      generalize (((w4.setCell ⟨w.heap.size + 1, 0, none⟩ (.int .i64 tow)).setCell ⟨w.heap.size + 1, 1, none⟩ (.int .i64 5)).setCell ⟨w.heap.size + 1, 2, none⟩ (.slice va pl.length vc)).alloc (.cells #[.int .i64 px, .int .i64 py] 69) = WF at *
      refine bodyPost_ret (v := .tuple #[.agg #[.int .i64 tow, .int .i64 5, .slice va pl.length vc], .int .i64 0]) ?_ rfl ⟨⟨_, rfl, R3, hfr.mono (by omega), hcd⟩, B3⟩
      simp [results, Try.results18, go_sem, m0, m1, m2]
end Go.Proofs.Sky

namespace Go.Proofs.Sky
open Go Go.RowKit Go.Shelf
set_option maxHeartbeats 2000000
def unR (i : Nat) (zs out : List Int) : List Fd → List Int × (Int × Int)
  | [] => (out, (0, 0))
  | f :: r => if errT zs f.a f.n f.u f.c = 0 then unR (i + 1) zs (out ++ [getR zs f.a f.n f.g f.u f.c]) r else ([], (errT zs f.a f.n f.u f.c, (i : Int)))
def unpackR (fs : List Fd) (zs : List Int) : List Int × (Int × Int) := if (layout fs zs.length).1 = 0 then unR 0 zs [] fs else ([], layout fs zs.length)
theorem un_step (k : Nat) (zs out : List Int) (fs : List Fd) (f : Fd) (h : fs[k]? = some f) : unR k zs out (fs.drop k) = if errT zs f.a f.n f.u f.c = 0 then unR (k + 1) zs (out ++ [getR zs f.a f.n f.g f.u f.c]) (fs.drop (k + 1)) else ([], (errT zs f.a f.n f.u f.c, (k : Int))) := by
  obtain ⟨hk, e⟩ := List.getElem?_eq_some_iff.1 h
  rw [List.drop_eq_getElem_cons hk, e, unR]
theorem PkC.grow {w a b : World} {row : Option Nat} (h : PkC w a) (hg : a.grownBy b row) (hr : ∀ j, row = some j → w.heap.size + 1 ≤ j) : PkC w b := by
  have ne : some w.heap.size ≠ row := fun e => by have := hr _ e.symm; omega
  exact ⟨Below.grown h.bw.out hg h.bw.size (fun k e => by have := hr k e; omega), Nat.le_trans h.sz hg.size, hg.cell h.r0 ne, hg.cell h.r1 ne, (World.frozen?_of_block (hg.block _ (lt_of_cell h.r0) ne)).trans h.f0, (World.frozen?_of_block (hg.block _ (lt_of_cell h.r0) ne)).trans h.f1⟩
theorem unpack_lay (fs : List Fd) (zs : List Int) (vf vv : Value) (w : World) (hf : RdF w vf fs) (hv : RdI w vv zs) (hl : (layout fs zs.length).1 ≠ 0) :
    Calls Try.prog 42 #[vf, vv] w fun e w' => PackP w.heap.size [] (layout fs zs.length).1 (layout fs zs.length).2 e w' ∧ Bw w w' := by
  have HL := Lib.hid (fun W hW => Layout_any fs vf zs.length W hW)
  have HF := Lib.hid hf
  obtain ⟨a1, c1, rfl⟩ := hf.form
  obtain ⟨a2, c2, rfl⟩ := hv.form
  clear hf hv
  unfold LayP at HL
  have hne : ((layout fs zs.length).1 != 0) = true := by simpa using hl
  clear hl
  generalize layout fs zs.length = lay at *
  obtain ⟨l1, l2⟩ := lay
  go_enter Try.func42, Try.ntmps42
  go_wp2_with (go_at_call 57; refine (HL.out _ (HF.out.mono (by repeat (first | exact Bw.refl _ | assumption | refine Bw.alloc ?_ _ | refine Bw.drew ?_ | refine Bw.trans ?_ (by assumption) | refine Bw.setCell ?_ (by simp; try omega) _)))).mono ?_; rintro e w' ⟨rfl, hb⟩; obtain ⟨hcc, hff⟩ := Bw.cells hb; have hsz := Bw.size hb; try (have hz0 : w.heap.size < w'.heap.size := by (try simp at hsz); omega); try (have hz1 : w.heap.size + 1 < w'.heap.size := by (try simp at hsz); omega); try (have hz2 : w.heap.size + 1 + 1 < w'.heap.size := by (try simp at hsz); omega); try (have hz3 : w.heap.size + 1 + 1 + 1 < w'.heap.size := by (try simp at hsz); omega); try (have hz4 : w.heap.size + 1 + 1 + 1 + 1 < w'.heap.size := by (try simp at hsz); omega); try (have hzr : wr.heap.size < w'.heap.size := by (try simp at hsz); omega); try (have hzr1 : wr.heap.size + 1 < w'.heap.size := by (try simp at hsz); omega))
  have hC : PkC w (w'.alloc (Obj.cells #[.int .i64 l1, .int .i64 l2] 69)) := ⟨(by repeat (first | exact Bw.refl _ | assumption | refine Bw.alloc ?_ _ | refine Bw.drew ?_ | refine Bw.trans ?_ (by assumption) | refine Bw.setCell ?_ (by simp; try omega) _)), by simp; omega, by simp [*, go_sem], by simp [*, go_sem], by simp [*, go_sem], by simp [*, go_sem]⟩
  have q0 : (w'.alloc (Obj.cells #[.int .i64 l1, .int .i64 l2] 69)).cell? ⟨w'.heap.size, 0, none⟩ = some (.int .i64 l1) := by simp [go_sem]
  have q1 : (w'.alloc (Obj.cells #[.int .i64 l1, .int .i64 l2] 69)).cell? ⟨w'.heap.size, 1, none⟩ = some (.int .i64 l2) := by simp [go_sem]
  generalize (w'.alloc (Obj.cells #[.int .i64 l1, .int .i64 l2] 69)) = W0 at hC q0 q1 ⊢
  clear hcc hff
  have e0 := fun p : Ext W0 => Ext.cell' q0 p
  have e1 := fun p : Ext W0 => Ext.cell' q1 p
  (refine wp_region_ext_tail 2 (by kernel_rfl) (by kernel_rfl) ?_; simp only [List.take_succ_cons, List.take_zero, List.drop_succ_cons, List.drop_zero]; (repeat (go_big_quiet_step ((fail)))); refine wpQuiet_nil ?_; rintro wq ⟨⟨_, hbq⟩, rfl⟩; obtain ⟨hccq, hffq⟩ := Bw.cells hbq; have hszq := Bw.size hbq)
  have hC2 := hC.mono hbq
  have r0 := hC2.r0
  have r1 := hC2.r1
  have f0 := hC2.f0
  have f1 := hC2.f1
  clear hccq hffq e0 e1
  go_wp2
  have hF := hC2.fault (.int .i64 l1) (.int .i64 l2)
  refine bodyPost_ret (v := .tuple #[.slice none 0 0, .agg #[.int .i64 l1, .int .i64 l2]]) ?_ rfl ⟨?_, ?_⟩
  · simp [results, Try.results42, go_sem, hF.2.1, hF.2.2]
  · exact packP_nil _ _ _ _
  · exact hF.1
theorem unpack_ok (fs : List Fd) (zs : List Int) (vf vv : Value) (w : World) (hf : RdF w vf fs) (hv : RdI w vv zs) (hl : (layout fs zs.length).1 = 0) :
    Calls Try.prog 42 #[vf, vv] w fun e w' => PackP w.heap.size (unR 0 zs [] fs).1 (unR 0 zs [] fs).2.1 (unR 0 zs [] fs).2.2 e w' ∧ Bw w w' := by
  have HL := Lib.hid (fun W hW => Layout_any fs vf zs.length W hW)
  have HGT := Lib.hid (fun a n g u c W hW => Get_any zs vv a n g u c W hW)
  have HF := Lib.hid hf
  have HV := Lib.hid hv
  obtain ⟨hlen, a1, c1, rfl, hz⟩ := hf
  obtain ⟨hl100, hgood⟩ := layout_zero hl
  have HG := Lib.hid hgood; clear hgood
  have HZ := Lib.hid hz; clear hz
  obtain ⟨a2, c2, rfl⟩ := hv.form
  clear hv
  unfold LayP at HL
  unfold GetP at HGT
  rw [hl] at HL
  obtain ⟨m, hm⟩ : ∃ m, fs.length = m := ⟨_, rfl⟩
  have HN := Lib.hid hm
  rw [hm] at hl100 HF HL ⊢
  obtain ⟨R, hR⟩ : ∃ R, unR 0 zs [] fs = R := ⟨_, rfl⟩
  rw [hR]
  have HR := Lib.hid hR
  clear hl hm hR
  go_enter Try.func42, Try.ntmps42
  go_wp2_with (go_at_call 57; refine (HL.out _ (HF.out.mono (by repeat (first | exact Bw.refl _ | assumption | refine Bw.alloc ?_ _ | refine Bw.drew ?_ | refine Bw.trans ?_ (by assumption) | refine Bw.setCell ?_ (by simp; try omega) _)))).mono ?_; rintro e w' ⟨rfl, hb⟩; obtain ⟨hcc, hff⟩ := Bw.cells hb; have hsz := Bw.size hb; try (have hz0 : w.heap.size < w'.heap.size := by (try simp at hsz); omega); try (have hz1 : w.heap.size + 1 < w'.heap.size := by (try simp at hsz); omega); try (have hz2 : w.heap.size + 1 + 1 < w'.heap.size := by (try simp at hsz); omega); try (have hz3 : w.heap.size + 1 + 1 + 1 < w'.heap.size := by (try simp at hsz); omega); try (have hz4 : w.heap.size + 1 + 1 + 1 + 1 < w'.heap.size := by (try simp at hsz); omega); try (have hzr : wr.heap.size < w'.heap.size := by (try simp at hsz); omega); try (have hzr1 : wr.heap.size + 1 < w'.heap.size := by (try simp at hsz); omega))
  have hC : PkC w (w'.alloc (Obj.cells #[.int .i64 0, .int .i64 (layout fs zs.length).2] 69)) := ⟨(by repeat (first | exact Bw.refl _ | assumption | refine Bw.alloc ?_ _ | refine Bw.drew ?_ | refine Bw.trans ?_ (by assumption) | refine Bw.setCell ?_ (by simp; try omega) _)), by simp; omega, by simp [*, go_sem], by simp [*, go_sem], by simp [*, go_sem], by simp [*, go_sem]⟩
  generalize (w'.alloc (Obj.cells #[.int .i64 0, .int .i64 (layout fs zs.length).2] 69)) = W0 at hC ⊢
  clear hcc hff hb hsz
  go_loopw [7, 22] (fun v i wr => ∃ k : Nat, k ≤ m ∧ i = .int .i64 k ∧ PkC w wr ∧ Hid (∃ out : List Int, out.length = k ∧ wr.ownsRow (w.heap.size + 1) 3 1 v out.length (out.map (Value.int .i64)) ∧ unR k zs out (fs.drop k) = R)) (fun _ i _ => m - (intOf i).toNat)
  case atStart => exact ⟨0, Nat.zero_le _, rfl, hC, [], rfl, World.ownsRow_nil _ _ _ _, by simpa using HR.out⟩
  case round =>
    obtain ⟨k, hk, rfl, hCr, HW⟩ := hrel
    obtain ⟨out, hol, hown, hun⟩ := HW.out
    clear HW
    by_cases hlt : k < m
    · have hn2 := HN.out
      obtain ⟨b1, o1, rfl, hb1, hz1⟩ := HZ.out.resolve_left (by intro e; subst e; simp at hn2; omega)
      have hfe : fs[k]? = some fs[k] := List.getElem?_eq_getElem (by omega)
      have hgd := HG.out fs[k] (List.getElem_mem (by omega))
      have hst := un_step k zs out fs _ hfe
      generalize fs[k] = f at hfe hgd hst
      obtain ⟨fa, fn, fg, fu, fc⟩ := f
      obtain ⟨d0, d1, d2, d3, d4⟩ := hz1 k _ hfe
      replace d0 := hCr.bw.cell' d0
      replace d1 := hCr.bw.cell' d1
      replace d2 := hCr.bw.cell' d2
      replace d3 := hCr.bw.cell' d3
      replace d4 := hCr.bw.cell' d4
      dsimp only at d0 d1 d2 d3 d4 hst
      have HST := Lib.hid (hun.symm.trans hst)
      have HGX := Lib.hid (fun W hW => HGT.out fa fn fg fu fc W hW)
      have hki : (k : Int) < m := by omega
      have HO := Lib.hid hown
      have HOL := Lib.hid hol
      clear hz1 hfe hgd hst hn2 hun hown hol
      by_cases he : errT zs fa fn fu fc = 0
      · rw [he] at HGX
        have HSS := Lib.hid (show R = unR (k + 1) zs (out ++ [getR zs fa fn fg fu fc]) (fs.drop (k + 1)) by rw [HST.out, if_pos he])
        clear he HST HGT
        go_wp2_with (first | (go_at_call 60; refine (HGX.out _ (HV.out.mono (by first | exact hCr.bw | exact Bw.alloc hCr.bw _))).mono ?_; rintro e w3 ⟨rfl, hb3⟩; have hb3' : Bw wr w3 := (by first | exact hb3 | exact Bw.trans (Bw.alloc (Bw.refl _) _) hb3); have hC3 := hCr.mono hb3'; have HO3 := Lib.hid (own_bw HO.out hb3')) | (at_builtin; refine wpList_append_int1 rfl _ _ _ rfl (w.heap.size + 1) 3 Try.underlying36 infoInt _ out (getR zs fa fn fg fu fc) rfl (HO3.out.alloc _) w3.heap.size rfl (by simp [go_sem]) (by have := HOL.out; omega) (by have := hC3.sz; simp; omega) ?_))
        intro v' w4 hown4 hgrow4
        have hC4 : PkC w w4 := (hC3.mono (Bw.alloc (Bw.refl _) _)).grow hgrow4 (fun j hj => (HO3.out.lt j hj).1)
        have HO4 := Lib.hid hown4
        clear hown4 hgrow4
        go_wp2
        go_roundw
        case rel => exact ⟨k + 1, by omega, by go_num, hC4, out ++ [getR zs fa fn fg fu fc], by simp [HOL.out], by simpa using HO4.out, HSS.out.symm⟩
        case measure => simp [intOf]; omega
      · have HSS := Lib.hid (show R = ([], (errT zs fa fn fu fc, (k : Int))) by rw [HST.out, if_neg he])
        have hne : (errT zs fa fn fu fc != 0) = true := by simpa using he
        clear he HST HGT
        generalize errT zs fa fn fu fc = er at *
        go_wp2_with ((go_at_call 60; refine (HGX.out _ (HV.out.mono (by first | exact hCr.bw | exact Bw.alloc hCr.bw _))).mono ?_; rintro e w3 ⟨rfl, hb3⟩; have hb3' : Bw wr w3 := (by first | exact hb3 | exact Bw.trans (Bw.alloc (Bw.refl _) _) hb3); have hC3 := hCr.mono hb3'; have r0 := hC3.r0; have r1 := hC3.r1; have f0 := hC3.f0; have f1 := hC3.f1))
        have hF := hC3.fault (.int .i64 er) (.int .i64 k)
        refine bodyPost_ret (v := .tuple #[.slice none 0 0, .agg #[.int .i64 er, .int .i64 k]]) ?_ rfl ⟨?_, ?_⟩
        · simp [results, Try.results42, go_sem, hF.2.1, hF.2.2]
        · rw [HSS.out]; exact packP_nil _ _ _ _
        · exact hF.1
    · obtain rfl : k = m := by omega
      have hd : fs.drop k = [] := by rw [List.drop_eq_nil_iff]; have := HN.out; omega
      rw [hd] at hun
      have HSS := Lib.hid (show R = (out, ((0 : Int), (0 : Int))) from hun.symm)
      have hrd := own_rd hown (by omega)
      have hcd := own_capd hown
      have HRD := Lib.hid hrd
      obtain ⟨ao, co, rfl⟩ := hrd.1.form
      have r0 := hCr.r0
      have r1 := hCr.r1
      have f0 := hCr.f0
      have f1 := hCr.f1
      clear hd hun hown hrd
      go_wp2
      have hF := hCr.fault (.int .i64 0) (.int .i64 0)
      refine bodyPost_ret (v := .tuple #[.slice ao out.length co, .agg #[.int .i64 0, .int .i64 0]]) ?_ rfl ⟨?_, ?_⟩
      · simp [results, Try.results42, go_sem, hF.2.1, hF.2.2]
      · rw [HSS.out]
        exact ⟨_, rfl, ((HRD.out.1.set HRD.out.2 (by omega) _ _).set HRD.out.2 (by omega) _ _), HRD.out.2.mono (by omega), hcd⟩
      · exact hF.1
theorem Unpack_any (fs : List Fd) (zs : List Int) (vf vv : Value) (w : World) (hf : RdF w vf fs) (hv : RdI w vv zs) :
    Calls Try.prog 42 #[vf, vv] w fun e w' => PackP w.heap.size (unpackR fs zs).1 (unpackR fs zs).2.1 (unpackR fs zs).2.2 e w' ∧ Bw w w' := by
  by_cases hl : (layout fs zs.length).1 = 0
  · have e : unpackR fs zs = unR 0 zs [] fs := by unfold unpackR; rw [if_pos hl]
    rw [e]; exact unpack_ok fs zs vf vv w hf hv hl
  · have e : unpackR fs zs = ([], layout fs zs.length) := by unfold unpackR; rw [if_neg hl]
    rw [e]; exact unpack_lay fs zs vf vv w hf hv hl
end Go.Proofs.Sky

namespace Go.Proofs.Sky
open Go Go.RowKit Go.Shelf
set_option maxHeartbeats 1000000
/-! slices.ContainsFunc over ints -/
theorem indexFuncI_any (f : Int → Bool) (g : Nat) (eg : ∀ args w, (callFunc g args).run Try.prog w = .ok (.enter g args) w)
   (zs : List Int) (v : Value) (w : World)
   (hp : ∀ p ∈ zs, ∀ W, Bw w W → Calls Try.prog g #[.int .i64 p] W fun e w' => e = .returned (.bool (f p)) ∧ Bw W w')
   (hv : RdI w v zs) :
   Calls Try.prog 61 #[v, .func (.func g) #[] #[]] w fun e w' => AnyIdx (zs.any f) e ∧ Bw w w' := by
  obtain ⟨h2, a, cap, rfl, h4⟩ := hv
  obtain ⟨n, hn⟩ : ∃ n, n = zs.length := ⟨_, rfl⟩
  rw [← hn] at h2 ⊢
  have HN := Lib.hid hn; clear hn
  have H4 := Lib.hid h4; clear h4
  have HP := Lib.hid hp; clear hp
  go_enter Try.func61, Try.ntmps61
  go_wp2
  go_loopg [5, 8] n (fun gg _ s8 wr => ∃ kk : Nat, kk ≤ n ∧ n - kk ≤ gg ∧ s8 = .int .i64 kk ∧ Hid (Bw w wr) ∧ Hid (∀ j, j < kk → f (zs.getD j 0) = false))
  case atStart => exact ⟨0, Nat.zero_le _, by omega, rfl, Bw.refl _, fun j hj => absurd hj (Nat.not_lt_zero _)⟩
  case round =>
    obtain ⟨kk, hkk, hg, rfl, hbw, A⟩ := hrel
    by_cases hlt : kk < n
    · have hltz : (kk : Int) < (n : Int) := by omega
      have hq := HN.out
      obtain ⟨b, off, rfl, hb, hc⟩ := H4.out.resolve_left (by intro h; rw [h] at hq; simp at hq; omega)
      have hc1 := hc kk (by omega)
      rw [← hbw.out.cells.1 _ _ hb] at hc1
      have hm := getD_mem zs kk 0 (by omega)
      clear hc H4
      generalize hx : zs.getD kk 0 = x at hc1 hm
      have HX := Lib.hid hx; clear hx hq
      have hcall := HP.out _ hm wr hbw.out
      clear hm HP
      cases hpx : f x with
      | true =>
        rw [hpx] at hcall
        have HPX := Lib.hid hpx; clear hpx
        have HC := Lib.hid hcall; clear hcall
        go_wp2_with (go_at_fn g; refine (HC.out).mono ?_; rintro e w' ⟨rfl, hb2⟩)
        go_ret
        refine ⟨⟨kk, rfl, ?_⟩, Bw.trans hbw.out hb2⟩
        rw [any_of_lt zs f 0 kk (by have := HN.out; omega) (by rw [HX.out]; exact HPX.out)]
        simp
      | false =>
        rw [hpx] at hcall
        have HPX := Lib.hid hpx; clear hpx
        have HC := Lib.hid hcall; clear hcall
        go_wp2_with (go_at_fn g; refine (HC.out).mono ?_; rintro e w' ⟨rfl, hb2⟩)
        go_roundg (n - (kk + 1))
        case measure => omega
        case rel =>
          refine ⟨kk + 1, by omega, by omega, by go_num, Bw.trans hbw.out hb2, fun j hj => ?_⟩
          by_cases e : j = kk
          · subst e
            rw [HX.out]; exact HPX.out
          · exact A.out j (by omega)
    · have hltz : ¬ (kk : Int) < (n : Int) := by omega
      have : kk = n := by omega
      subst this
      go_wp2
      go_ret
      refine ⟨⟨-1, rfl, ?_⟩, hbw.out⟩
      rw [any_none zs f 0 (fun i hi => A.out i (by have := HN.out; omega))]
      rfl
theorem containsFuncI_any (f : Int → Bool) (g : Nat) (eg : ∀ args w, (callFunc g args).run Try.prog w = .ok (.enter g args) w)
   (zs : List Int) (v : Value) (w : World)
   (hp : ∀ p ∈ zs, ∀ W, Bw w W → Calls Try.prog g #[.int .i64 p] W fun e w' => e = .returned (.bool (f p)) ∧ Bw W w')
   (hv : RdI w v zs) :
   Calls Try.prog 43 #[v, .func (.func g) #[] #[]] w fun e w' => e = .returned (.bool (zs.any f)) ∧ Bw w w' := by
  have HC := Lib.hid (indexFuncI_any f g eg zs v w hp hv)
  clear hp hv
  go_enter Try.func43, Try.ntmps43
  go_wp2_with (go_at_call 61; refine (HC.out).mono ?_; rintro e w' ⟨⟨r, rfl, hr⟩, hb2⟩; have HR := Lib.hid hr; clear hr)
  go_ret
  exact ⟨ret_bool HR.out, hb2⟩
theorem rdI_drop {w : World} {b o n c : Nat} {zs : List Int} (h : RdI w (.slice (some ⟨b, o, none⟩) n c) zs) (i : Nat) (hi : i < n) {c' : Nat} : RdI w (.slice (some ⟨b, o + i, none⟩) (n - i) c') (zs.drop i) := by
  obtain ⟨h1, a, cc, hv, h2⟩ := h
  injection hv with e1 e2 e3
  subst e1 e2 e3
  refine ⟨by rw [List.length_drop]; omega, some ⟨b, o + i, none⟩, c', by rw [List.length_drop], .inr ?_⟩
  rcases h2 with h2 | ⟨b', off, e, hb, hc⟩
  · subst h2; simp at hi
  · injection e with e; injection e with e1 e2
    subst e1 e2
    refine ⟨b, o + i, rfl, hb, fun j hj => ?_⟩
    rw [List.length_drop] at hj
    have := hc (i + j) (by omega)
    rw [show o + i + j = o + (i + j) by omega, this]
    simp [List.getD_eq_getElem?_getD]
theorem nz_any (d : Int) (w : World) : Calls Try.prog 44 #[.int .i64 d] w fun e w' => e = .returned (.bool (d != 0)) ∧ Bw w w' := by
  go_enter Try.func44, Try.ntmps44
  go_wp2
  all_goals (go_ret; exact ⟨rfl, (by repeat (first | exact Bw.refl _ | assumption | refine Bw.alloc ?_ _ | refine Bw.drew ?_ | refine Bw.trans ?_ (by assumption) | refine Bw.setCell ?_ (by simp; try omega) _))⟩)
theorem tail_any (zs : List Int) (v : Value) (w : World) (hv : RdI w v zs) : Calls Try.prog 43 #[v, .func (.func 44) #[] #[]] w fun e w' => e = .returned (.bool (zs.any fun d => d != 0)) ∧ Bw w w' :=
  containsFuncI_any (fun d => d != 0) 44 (enters_of Try.func44 (by kernel_rfl) rfl) zs v w (fun p _ W _ => nz_any p W) hv
end Go.Proofs.Sky
