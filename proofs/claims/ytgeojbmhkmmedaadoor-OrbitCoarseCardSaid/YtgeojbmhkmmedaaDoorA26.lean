/-
  lemmas for the theorems of this claim. No conditions beyond those written in the statements.
-/
import Derived.Test.YtgeojbmhkmmedaaDoorProg
import Derived.Test.YtgeojbmhkmmedaaDoorRdAt
import Derived.Test.YtgeojbmhkmmedaaDoorAppP
import Derived.Test.YtgeojbmhkmmedaaDoorHeld
import Derived.Test.YtgeojbmhkmmedaaDoorBits
import Derived.Deep.Cut
import Derived.BigRegion
set_option linter.unusedVariables false
set_option linter.unusedSimpArgs false
set_option linter.unnecessarySimpa false
namespace Go.Proofs.Sky
open Go Go.RowKit Go.Shelf
set_option maxHeartbeats 2000000
set_option maxRecDepth 4000
/-! chapter 26: where numbers belong -/
/-- a function value that points at the cell j of an ephemeris, whatever worlds come -/
def FnOk (w : World) (fv : Value) (j : Nat) : Prop := ∃ gid cap, fv = .func (.func gid) #[] cap ∧ (∀ args w, (callFunc gid args).run Tryd.prog w = .ok (.enter gid args) w) ∧ ∀ W, Bw w W → ∀ b, Calls Tryd.prog gid (#[.pointer (some ⟨b, 0, none⟩)] ++ cap) W fun e w' => e = .returned (.pointer (some ⟨b, j, none⟩)) ∧ Bw W w'
theorem FnOk.mono {w w' : World} {fv : Value} {j : Nat} (h : FnOk w fv j) (hb : Bw w w') : FnOk w' fv j := by
  obtain ⟨gid, cap, h1, h2, h3⟩ := h
  exact ⟨gid, cap, h1, h2, fun W hW b => h3 W (hb.trans hW) b⟩
theorem issue_any (b : Nat) (w : World) : Calls Tryd.prog 62 #[.pointer (some ⟨b, 0, none⟩)] w fun e w' => e = .returned (.pointer (some ⟨b, 1, none⟩)) ∧ Bw w w' := by
  go_enter Tryd.func62, Tryd.ntmps62
  go_wp2
  go_ret
  exact ⟨rfl, Bw.refl _⟩
theorem prn_any (b : Nat) (w : World) : Calls Tryd.prog 63 #[.pointer (some ⟨b, 0, none⟩)] w fun e w' => e = .returned (.pointer (some ⟨b, 0, none⟩)) ∧ Bw w w' := by
  go_enter Tryd.func63, Tryd.ntmps63
  go_wp2
  go_ret
  exact ⟨rfl, Bw.refl _⟩
theorem fn1_any (b : Nat) (w : World) : Calls Tryd.prog 64 #[.pointer (some ⟨b, 0, none⟩)] w fun e w' => e = .returned (.pointer (some ⟨b, 7, none⟩)) ∧ Bw w w' := by
  go_enter Tryd.func64, Tryd.ntmps64
  go_wp2
  go_ret
  exact ⟨rfl, Bw.refl _⟩
theorem fn2_any (b : Nat) (w : World) : Calls Tryd.prog 65 #[.pointer (some ⟨b, 0, none⟩)] w fun e w' => e = .returned (.pointer (some ⟨b, 11, none⟩)) ∧ Bw w w' := by
  go_enter Tryd.func65, Tryd.ntmps65
  go_wp2
  go_ret
  exact ⟨rfl, Bw.refl _⟩
theorem fn3_any (b : Nat) (w : World) : Calls Tryd.prog 66 #[.pointer (some ⟨b, 0, none⟩)] w fun e w' => e = .returned (.pointer (some ⟨b, 15, none⟩)) ∧ Bw w w' := by
  go_enter Tryd.func66, Tryd.ntmps66
  go_wp2
  go_ret
  exact ⟨rfl, Bw.refl _⟩
theorem fn4_any (b : Nat) (w : World) : Calls Tryd.prog 67 #[.pointer (some ⟨b, 0, none⟩)] w fun e w' => e = .returned (.pointer (some ⟨b, 2, none⟩)) ∧ Bw w w' := by
  go_enter Tryd.func67, Tryd.ntmps67
  go_wp2
  go_ret
  exact ⟨rfl, Bw.refl _⟩
theorem fn5_any (b : Nat) (w : World) : Calls Tryd.prog 68 #[.pointer (some ⟨b, 0, none⟩)] w fun e w' => e = .returned (.pointer (some ⟨b, 3, none⟩)) ∧ Bw w w' := by
  go_enter Tryd.func68, Tryd.ntmps68
  go_wp2
  go_ret
  exact ⟨rfl, Bw.refl _⟩
theorem fn6_any (b c k : Nat) (w : World) (hk : k < 3) (hc : w.cell? ⟨c, 0, none⟩ = some (.int .i64 k)) : Calls Tryd.prog 69 #[.pointer (some ⟨b, 0, none⟩), .pointer (some ⟨c, 0, none⟩)] w fun e w' => e = .returned (.pointer (some ⟨b, 4 + k, none⟩)) ∧ Bw w w' := by
  have hk0 : (0 : Int) ≤ k := by omega
  have hk3 : (k : Int) < 3 := by omega
  have e0 := fun p : Ext w => Ext.cell' hc p
  go_enter Tryd.func69, Tryd.ntmps69
  go_wp2
  (refine wp_region_quiet_ext (by kernel_rfl) (by kernel_rfl) ?_; (repeat (go_big_quiet_step ((fail)))); refine wpQuiet_nil ?_; rintro wq ⟨⟨_, hbq⟩, rfl⟩; obtain ⟨hccq, hffq⟩ := Bw.cells hbq; have hszq := Bw.size hbq)
  go_wp2
  go_ret
  exact ⟨rfl, hbq⟩
theorem axis1_any (b c d k j : Nat) (fv : Value) (w : World) (hk : k < 4) (hf : FnOk w fv j) (hc : w.cell? ⟨c, 0, none⟩ = some fv) (hd : w.cell? ⟨d, 0, none⟩ = some (.int .i64 k)) : Calls Tryd.prog 77 #[.pointer (some ⟨b, 0, none⟩), .pointer (some ⟨c, 0, none⟩), .pointer (some ⟨d, 0, none⟩)] w fun e w' => e = .returned (.pointer (some ⟨b, j + k, none⟩)) ∧ Bw w w' := by
  have hk0 : (0 : Int) ≤ k := by omega
  have hk3 : (k : Int) < 4 := by omega
  obtain ⟨gid, cap, rfl, eg, hcall⟩ := hf
  have HC := Lib.hid hcall
  clear hcall
  have e0 := fun p : Ext w => Ext.cell' hc p
  have e1 := fun p : Ext w => Ext.cell' hd p
  go_enter Tryd.func77, Tryd.ntmps77
  go_wp2
  (refine wp_region_quiet_ext (by kernel_rfl) (by kernel_rfl) ?_; (repeat (go_big_quiet_step (((go_at_fn gid; exact Calls.ext_of (HC.out _ (Ext.b _) _)))))); refine wpQuiet_nil ?_; rintro wq ⟨⟨_, hbq⟩, rfl⟩; obtain ⟨hccq, hffq⟩ := Bw.cells hbq; have hszq := Bw.size hbq)
  go_wp2
  go_ret
  exact ⟨rfl, hbq⟩
end Go.Proofs.Sky
