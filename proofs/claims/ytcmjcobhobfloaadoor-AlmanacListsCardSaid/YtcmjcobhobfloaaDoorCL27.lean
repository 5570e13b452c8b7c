/-
  lemmas for the theorems of this claim. No conditions beyond those written in the statements.
-/
import Derived.Test.YtcmjcobhobfloaaDoorPA27
import Derived.Lib.SliceRun
set_option linter.unusedVariables false
set_option linter.unusedSimpArgs false
set_option linter.unnecessarySimpa false
namespace Go.Proofs.Sky
open Go Go.RowKit Go.Shelf
attribute [local go_sem] Oper.semAt_some
set_option maxHeartbeats 4000000
set_option maxRecDepth 8000
/-! chapter 27: Clone of a row of pages -/
def OwQ (base : Nat) (ps : List (Nat → Int)) (e : Ending) (w' : World) : Prop := ∃ v', e = .returned v' ∧ w'.ownsRow base 27 13 v' ps.length (flatG ps)
theorem own_empty (w : World) (T : TypeId) : (w.alloc (.cells #[] T)).ownsRow w.heap.size T 13 (.slice (some ⟨w.heap.size, 0, none⟩) 0 0) 0 [] :=
  ⟨rfl, .inr ⟨w.heap.size, 0, #[], rfl, Nat.le_refl _, Blk.new w T #[], Nat.le_refl _, Nat.zero_le _, rfl, rfl⟩⟩
theorem clonePg_any (ps : List (Nat → Int)) (hs : ps.length ≤ 1000) (v : Value) (w : World) (hv : RdG w v ps) : Calls Tryd.prog 36 #[v] w fun e w' => OwQ w.heap.size ps e w' ∧ Bw w w' := by
  obtain ⟨_, a, c, rfl, h4⟩ := hv
  have q22 : ∀ (w : World) (a : Option Addr) (n c n' c' : Nat), (binOp .eql 24 (.slice a n c) (.slice none n' c')).run Tryd.prog w = .ok (.bool a.isNone) w := fun w a n c n' c' => Lib.run_eql_slice_nil w _ _ a n c n' c' Tryd.underlying24
  cases a with
  | none =>
    obtain rfl : ps = [] := by rcases h4 with h | ⟨_, _, h, _⟩; exact h; cases h
    go_enter Tryd.func36, Tryd.ntmps36
    go_wp2
    go_ret
    exact ⟨⟨_, rfl, World.ownsRow_nil _ _ _ _⟩, Bw.refl _⟩
  | some ad =>
    have OE := Lib.hid (own_empty w 27)
    have HW := Lib.hid (Bw.alloc (Bw.refl w) (.cells #[] 27))
    rcases h4 with rfl | ⟨b, o, e1, _, hz⟩
    · go_enter Tryd.func36, Tryd.ntmps36
      go_wp2_with (at_builtin; refine wpList_append_none rfl (.tmp 5) (.tmp 6) _ rfl w.heap.size Tryd.underlying24 _ [] rfl OE.out ad c rfl (by simp) (by simp only [World.size_alloc]; omega) ?_; intro v8 w8 hown hgr hni; replace HW := Lib.hid (bw_grownN rfl HW.out OE.out hgr); have O1 := Lib.hid hown; clear hown hgr hni)
      go_ret
      exact ⟨⟨_, rfl, O1.out⟩, HW.out⟩
    injection e1 with e1
    subst e1
    have HZ := Lib.hid (fun i x hi => rg_bw (hz i x hi) (Bw.alloc (Bw.refl w) (.cells #[] 27)))
    clear hz
    go_enter Tryd.func36, Tryd.ntmps36
    go_wp2_with (at_builtin; refine wpList_append_pgs rfl (.tmp 5) (.tmp 6) _ rfl w.heap.size Tryd.underlying24 _ [] ps rfl OE.out b o c rfl HZ.out (by simp; omega) (by simp only [World.size_alloc]; omega) ?_; intro v8 w8 hown hgr hni; replace HW := Lib.hid (bw_grownN rfl HW.out OE.out hgr); have O1 := Lib.hid hown; clear hown hgr hni)
    go_ret
    exact ⟨⟨_, rfl, O1.out⟩, HW.out⟩
end Go.Proofs.Sky
