/-
  lemmas for the theorems of this claim. No conditions beyond those written in the statements.
-/
import Derived.Test.YtcbkjfakedngbaaA25
import Derived.Test.YtcbkjfakedngbaaP25
set_option linter.unusedVariables false
set_option linter.unusedSimpArgs false
set_option linter.unnecessarySimpa false
namespace Go.Proofs.Sky
open Go Go.RowKit
set_option maxHeartbeats 1000000
theorem raws_any (a n : Int) (g : Bool) (u c : Int) (h1 : 1 ≤ n) (h2 : n ≤ 40) (w : World) : Calls Try.prog 31 #[.agg #[.int .i64 a, .int .i64 n, .bool g, .int .i64 u, .int .i64 c]] w fun e w' => e = .returned (.tuple #[.int .i64 (lowR n g), .int .i64 (highR n g)]) ∧ Bw w w' := by
  have ⟨p1, p2⟩ := pow40 (n.toNat - 1) (by omega)
  have ⟨p3, p4⟩ := pow40 n.toNat (by omega)
  rcases g with _ | _
  · go_enter Try.func31, Try.ntmps31
    go_wp2
    have e1 := fun p : Ext (w.alloc (Obj.cells #[.int .i64 a, .int .i64 n, .bool false, .int .i64 u, .int .i64 c] 24)) => Ext.cell (b := w.heap.size) (o := 1) (v := .int .i64 n) (by simp) (by simp [go_sem]) p
    (refine wp_region_quiet_ext (by kernel_rfl) (by kernel_rfl) ?_; (repeat (go_big_quiet_step ((fail)))); refine wpQuiet_nil ?_; rintro wq ⟨⟨_, hbq⟩, rfl⟩; obtain ⟨hccq, hffq⟩ := Bw.cells hbq; have hszq := Bw.size hbq)
    go_wp2
    go_ret2
    exact ⟨rfl, (by repeat (first | exact Bw.refl _ | assumption | refine Bw.alloc ?_ _ | refine Bw.drew ?_ | refine Bw.trans ?_ (by assumption) | refine Bw.setCell ?_ (by simp; try omega) _))⟩
  · go_enter Try.func31, Try.ntmps31
    go_wp2
    have e1 := fun p : Ext (w.alloc (Obj.cells #[.int .i64 a, .int .i64 n, .bool true, .int .i64 u, .int .i64 c] 24)) => Ext.cell (b := w.heap.size) (o := 1) (v := .int .i64 n) (by simp) (by simp [go_sem]) p
    (refine wp_region_quiet_ext (by kernel_rfl) (by kernel_rfl) ?_; (repeat (go_big_quiet_step ((fail)))); refine wpQuiet_nil ?_; rintro wq ⟨⟨_, hbq⟩, rfl⟩; obtain ⟨hccq, hffq⟩ := Bw.cells hbq; have hszq := Bw.size hbq)
    go_wp2
    go_ret2
    exact ⟨rfl, (by repeat (first | exact Bw.refl _ | assumption | refine Bw.alloc ?_ _ | refine Bw.drew ?_ | refine Bw.trans ?_ (by assumption) | refine Bw.setCell ?_ (by simp; try omega) _))⟩
theorem rraws_any (a n : Int) (g : Bool) (u c : Int) (h1 : 1 ≤ n) (h2 : n ≤ 40) (w : World) : Calls Try.prog 32 #[.agg #[.int .i64 a, .int .i64 n, .bool g, .int .i64 u, .int .i64 c]] w fun e w' => e = .returned (.tuple #[.int .i64 (lowR n g), .int .i64 (highR n g)]) ∧ Bw w w' := by
  have ⟨p1, p2⟩ := pow40 (n.toNat - 1) (by omega)
  have ⟨p3, p4⟩ := pow40 n.toNat (by omega)
  rcases g with _ | _
  · go_enter Try.func32, Try.ntmps32
    go_wp2
    have e1 := fun p : Ext (w.alloc (Obj.cells #[.int .i64 a, .int .i64 n, .bool false, .int .i64 u, .int .i64 c] 24)) => Ext.cell (b := w.heap.size) (o := 1) (v := .int .i64 n) (by simp) (by simp [go_sem]) p
    (refine wp_region_quiet_ext (by kernel_rfl) (by kernel_rfl) ?_; (repeat (go_big_quiet_step ((fail)))); refine wpQuiet_nil ?_; rintro wq ⟨⟨_, hbq⟩, rfl⟩; obtain ⟨hccq, hffq⟩ := Bw.cells hbq; have hszq := Bw.size hbq)
    go_wp2
    go_ret2
    exact ⟨rfl, (by repeat (first | exact Bw.refl _ | assumption | refine Bw.alloc ?_ _ | refine Bw.drew ?_ | refine Bw.trans ?_ (by assumption) | refine Bw.setCell ?_ (by simp; try omega) _))⟩
  · go_enter Try.func32, Try.ntmps32
    go_wp2
    have e1 := fun p : Ext (w.alloc (Obj.cells #[.int .i64 a, .int .i64 n, .bool true, .int .i64 u, .int .i64 c] 24)) => Ext.cell (b := w.heap.size) (o := 1) (v := .int .i64 n) (by simp) (by simp [go_sem]) p
    (refine wp_region_quiet_ext (by kernel_rfl) (by kernel_rfl) ?_; (repeat (go_big_quiet_step ((fail)))); refine wpQuiet_nil ?_; rintro wq ⟨⟨_, hbq⟩, rfl⟩; obtain ⟨hccq, hffq⟩ := Bw.cells hbq; have hszq := Bw.size hbq)
    go_wp2
    go_ret2
    exact ⟨rfl, (by repeat (first | exact Bw.refl _ | assumption | refine Bw.alloc ?_ _ | refine Bw.drew ?_ | refine Bw.trans ?_ (by assumption) | refine Bw.setCell ?_ (by simp; try omega) _))⟩
end Go.Proofs.Sky
