/-
  lemmas for the theorems of this claim. No conditions beyond those written in the statements.
-/
import Derived.Test.YtdaplhjkccfmgaaV30c
import Derived.Test.YtdaplhjkccfmgaaN30
set_option linter.unusedVariables false
set_option linter.unusedSimpArgs false
set_option linter.unnecessarySimpa false
namespace Go.Proofs.Sky
open Go Go.RowKit Go.Shelf
set_option maxHeartbeats 4000000
theorem RdI.litN (w : World) (cs : Array Value) (t : TypeId) (zs : List Int) (n : Nat) (hn : w.heap.size = n) (h : cs.toList = zs.map (Value.int .i64)) (hl : zs.length ≤ 9223372036854775807) : RdI (w.alloc (.cells cs t)) (.slice (some ⟨n, 0, none⟩) zs.length zs.length) zs := by
  subst hn; exact RdI.lit w cs t zs h hl
theorem law_known (w : World) : Calls Try.prog 5 #[] w fun e w' => e = .returned (.bool true) ∧ Bw w w' := by
  have n1 := fun X => New_any 3 100 X
  rw [newP_ok (by unfold wl; omega)] at n1
  have n2 := fun X => New_any 0 1 X
  rw [newP_no (by unfold wl; omega)] at n2
  have n3 := fun X => New_any 101 1 X
  rw [newP_no (by unfold wl; omega)] at n3
  have n4 := fun X => New_any 1 (-1) X
  rw [newP_no (by unfold wl; omega)] at n4
  have N1 := Lib.hid n1; clear n1
  have N2 := Lib.hid n2; clear n2
  have N3 := Lib.hid n3; clear n3
  have N4 := Lib.hid n4; clear n4
  have S1 := Lib.hid (fun X  => by
    have h := Step_any 3 100 [] (.slice none 0 0) 1000 400 X (RdI.nil X)
    unfold StepR at h
    rw [show stepR 3 100 [] 1000 400 = (3, 100, [600], 1000, 1, false, 0) by decide] at h
    unfold StepP at h
    exact h)
  have S2 := Lib.hid (fun X (b : Nat) (hX : RdI X (.slice (some ⟨b, 0, none⟩) 3 3) [600, 620, 590]) => by
    have h := Step_any 3 100 [600, 620, 590] (.slice (some ⟨b, 0, none⟩) 3 3) 1310 700 X hX
    unfold StepR at h
    rw [show stepR 3 100 [600, 620, 590] 1310 700 = (3, 100, [620, 590, 610], 3920, 3, false, 0) by decide] at h
    unfold StepP at h
    exact h)
  have S3 := Lib.hid (fun X (a : Option Addr) (c : Nat) (hX : RdI X (.slice a 3 c) [620, 590, 610]) => by
    have h := Step_any 3 100 [620, 590, 610] (.slice a 3 c) 1400 1000 X hX
    unfold StepR at h
    rw [show stepR 3 100 [620, 590, 610] 1400 1000 = (3, 100, [400], 1400, 1, true, 0) by decide] at h
    unfold StepP at h
    exact h)
  have S4 := Lib.hid (fun X  => by
    have h := Step_any 3 100 [] (.slice none 0 0) 10000000000001 0 X (RdI.nil X)
    unfold StepR at h
    rw [show stepR 3 100 [] 10000000000001 0 = (0, 0, [], 0, 0, false, 2) by decide] at h
    unfold StepP at h
    exact h)
  go_enter Try.func5, Try.ntmps5
  go_wp2_with (first | (go_at_call 16; with_reducible refine (N1.out _).mono ?_; rintro e u1 ⟨rfl, hb1⟩; clear N1) | (go_at_call 14; with_reducible refine (S1.out _).mono ?_; rintro e u2 ⟨⟨v2, rfl, hr2, _⟩, hb2⟩; obtain ⟨a2, c2, rfl⟩ := hr2.form; have R2 := Lib.hid hr2; clear hr2; have P1 := Lib.hid ((Blk.new u1 34 #[.int .i64 3, .int .i64 100, .slice none 0 0]).bw hb2); clear S1) | (go_at_call 18; refine (state_same 3 100 [600] _ _ _ (R2.out.mono (by repeat (first | exact Bw.refl _ | assumption | refine Bw.alloc ?_ _ | refine Bw.drew ?_ | refine Bw.trans ?_ (by assumption) | refine Bw.setCell ?_ (by simp; try omega) _))) (RdI.litN _ _ _ [600] _ (by simp) (by rfl) (by decide))).mono ?_; rintro e u3 ⟨rfl, hb3⟩; replace P1 := Lib.hid (P1.out.bw (show Bw u2 u3 from (by repeat (first | exact Bw.refl _ | assumption | refine Bw.alloc ?_ _ | refine Bw.drew ?_ | refine Bw.trans ?_ (by assumption) | refine Bw.setCell ?_ (by simp; try omega) _))))) | (go_at_call 14; (with_reducible refine Calls.mono (S2.out _ _ ?_) ?_); exact RdI.lit _ _ _ [600, 620, 590] (by rfl) (by decide); rintro e u4 ⟨⟨v4, rfl, hr4, _⟩, hb4⟩; obtain ⟨a4, c4, rfl⟩ := hr4.form; have R4 := Lib.hid hr4; clear hr4; replace P1 := Lib.hid (P1.out.bw (show Bw u3 u4 from (by repeat (first | exact Bw.refl _ | assumption | refine Bw.alloc ?_ _ | refine Bw.drew ?_ | refine Bw.trans ?_ (by assumption) | refine Bw.setCell ?_ (by simp; try omega) _)))); clear S2) | (go_at_call 13; (with_reducible refine Calls.mono (same_same [400] _ _ _ ?_ ?_) ?_); (focus exact R6.out.mono (by repeat (first | exact Bw.refl _ | assumption | refine Bw.alloc ?_ _ | refine Bw.drew ?_ | refine Bw.trans ?_ (by assumption) | refine Bw.setCell ?_ (by simp; try omega) _))); (focus exact RdI.litN _ _ _ [400] _ (by simp) (by rfl) (by decide)); rintro e u7 ⟨rfl, hb7⟩; replace P1 := Lib.hid (P1.out.bw (show Bw u6 u7 from (by repeat (first | exact Bw.refl _ | assumption | refine Bw.alloc ?_ _ | refine Bw.drew ?_ | refine Bw.trans ?_ (by assumption) | refine Bw.setCell ?_ (by simp; try omega) _))))) | (go_at_call 13; (with_reducible refine Calls.mono (same_same [620, 590, 610] _ _ _ ?_ ?_) ?_); (focus exact R4.out.mono (by repeat (first | exact Bw.refl _ | assumption | refine Bw.alloc ?_ _ | refine Bw.drew ?_ | refine Bw.trans ?_ (by assumption) | refine Bw.setCell ?_ (by simp; try omega) _))); (focus exact RdI.litN _ _ _ [620, 590, 610] _ (by simp) (by rfl) (by decide)); rintro e u5 ⟨rfl, hb5⟩; replace P1 := Lib.hid (P1.out.bw (show Bw u4 u5 from (by repeat (first | exact Bw.refl _ | assumption | refine Bw.alloc ?_ _ | refine Bw.drew ?_ | refine Bw.trans ?_ (by assumption) | refine Bw.setCell ?_ (by simp; try omega) _)))); have P8 := Lib.hid ((((Blk.new u4 34 #[.int .i64 3, .int .i64 100, .slice a4 3 c4]).alloc (.cells #[.int .i64 3920, .int .i64 3] 36)).alloc (.cells #[.int .i64 620, .int .i64 590, .int .i64 610] 3)).bw hb5); have k0 : u5.cell? ⟨u4.heap.size, 0, none⟩ = some (.int .i64 3) := P8.out.cell rfl; have k1 : u5.cell? ⟨u4.heap.size, 1, none⟩ = some (.int .i64 100) := P8.out.cell rfl; have k2 : u5.cell? ⟨u4.heap.size, 2, none⟩ = some (.slice a4 3 c4) := P8.out.cell rfl; replace R4 := Lib.hid (R4.out.mono (show Bw u4 u5 from (by repeat (first | exact Bw.refl _ | assumption | refine Bw.alloc ?_ _ | refine Bw.drew ?_ | refine Bw.trans ?_ (by assumption) | refine Bw.setCell ?_ (by simp; try omega) _))))) | (go_at_call 14; (with_reducible refine Calls.mono (S3.out _ _ _ ?_) ?_); exact R4.out; rintro e u6 ⟨⟨v6, rfl, hr6, _⟩, hb6⟩; obtain ⟨a6, c6, rfl⟩ := hr6.form; have R6 := Lib.hid hr6; clear hr6; replace P1 := Lib.hid (P1.out.bw (show Bw u5 u6 from (by repeat (first | exact Bw.refl _ | assumption | refine Bw.alloc ?_ _ | refine Bw.drew ?_ | refine Bw.trans ?_ (by assumption) | refine Bw.setCell ?_ (by simp; try omega) _)))); clear k0 k1 k2 P8 S3) | (go_at_call 16; with_reducible refine (N2.out _).mono ?_; rintro e u8 ⟨rfl, hb8⟩; replace P1 := Lib.hid (P1.out.bw (show Bw u7 u8 from (by repeat (first | exact Bw.refl _ | assumption | refine Bw.alloc ?_ _ | refine Bw.drew ?_ | refine Bw.trans ?_ (by assumption) | refine Bw.setCell ?_ (by simp; try omega) _)))); clear N2) | (go_at_call 16; with_reducible refine (N3.out _).mono ?_; rintro e u9 ⟨rfl, hb9⟩; replace P1 := Lib.hid (P1.out.bw (show Bw u8 u9 from (by repeat (first | exact Bw.refl _ | assumption | refine Bw.alloc ?_ _ | refine Bw.drew ?_ | refine Bw.trans ?_ (by assumption) | refine Bw.setCell ?_ (by simp; try omega) _)))); clear N3) | (go_at_call 16; with_reducible refine (N4.out _).mono ?_; rintro e u10 ⟨rfl, hb10⟩; replace P1 := Lib.hid (P1.out.bw (show Bw u9 u10 from (by repeat (first | exact Bw.refl _ | assumption | refine Bw.alloc ?_ _ | refine Bw.drew ?_ | refine Bw.trans ?_ (by assumption) | refine Bw.setCell ?_ (by simp; try omega) _)))); have k0 : u10.cell? ⟨u1.heap.size, 0, none⟩ = some (.int .i64 3) := P1.out.cell rfl; have k1 : u10.cell? ⟨u1.heap.size, 1, none⟩ = some (.int .i64 100) := P1.out.cell rfl; have k2 : u10.cell? ⟨u1.heap.size, 2, none⟩ = some (.slice none 0 0) := P1.out.cell rfl; have hz := lt_of_cell k0) | (go_at_call 14; have hg := hb10; with_reducible refine (S4.out _).mono ?_; rintro e u11 ⟨⟨v11, rfl, hr11, _⟩, hb11⟩; obtain ⟨a11, c11, rfl⟩ := hr11.form; have R11 := Lib.hid hr11; clear hr11; clear k0 k1 k2) | (go_at_call 9; refine (awake_any _).mono ?_; rintro e u12 ⟨rfl, hb12⟩))
  go_ret
  exact ⟨rfl, (by repeat (first | exact Bw.refl _ | assumption | refine Bw.alloc ?_ _ | refine Bw.drew ?_ | refine Bw.trans ?_ (by assumption) | refine Bw.setCell ?_ (by simp; try omega) _))⟩
end Go.Proofs.Sky
