/-
  lemmas for the theorems of this claim. No conditions beyond those written in the statements.
-/
import Derived.Test.YtcbkjfakedngbaaCC25
import Derived.Test.YtcbkjfakedngbaaY25
import Derived.Deep.Cut
set_option linter.unusedVariables false
set_option linter.unusedSimpArgs false
set_option linter.unnecessarySimpa false
namespace Go.Proofs.Sky
open Go Go.RowKit Go.Shelf
set_option maxHeartbeats 4000000
set_option maxRecDepth 4000
theorem RdF.lit2 (w : World) (t : TypeId) (a1 n1 : Int) (g1 : Bool) (u1 c1 a2 n2 : Int) (g2 : Bool) (u2 c2 : Int) : RdF (w.alloc (.cells #[.int .i64 a1, .int .i64 n1, .bool g1, .int .i64 u1, .int .i64 c1, .int .i64 a2, .int .i64 n2, .bool g2, .int .i64 u2, .int .i64 c2] t)) (.slice (some ⟨w.heap.size, 0, none⟩) 2 2) [⟨a1, n1, g1, u1, c1⟩, ⟨a2, n2, g2, u2, c2⟩] := by
  refine ⟨by simp, _, _, rfl, .inr ⟨_, 0, rfl, by simp, fun i f hf => ?_⟩⟩
  have hb := Blk.new w t #[.int .i64 a1, .int .i64 n1, .bool g1, .int .i64 u1, .int .i64 c1, .int .i64 a2, .int .i64 n2, .bool g2, .int .i64 u2, .int .i64 c2]
  match i, hf with
  | 0, hf => simp at hf; subst hf; exact ⟨hb.cell rfl, hb.cell rfl, hb.cell rfl, hb.cell rfl, hb.cell rfl⟩
  | 1, hf => simp at hf; subst hf; exact ⟨hb.cell rfl, hb.cell rfl, hb.cell rfl, hb.cell rfl, hb.cell rfl⟩
theorem RdI.litN (w : World) (cs : Array Value) (t : TypeId) (zs : List Int) (n : Nat) (hn : w.heap.size = n) (h : cs.toList = zs.map (Value.int .i64)) (hl : zs.length ≤ 9223372036854775807) : RdI (w.alloc (.cells cs t)) (.slice (some ⟨n, 0, none⟩) zs.length zs.length) zs := by
  subst hn; exact RdI.lit w cs t zs h hl
theorem law_known (w : World) : Calls Try.prog 7 #[] w fun r w' => r = .returned (.bool true) ∧ Bw w w' := by
  have hmk := fun w => makeInt 3 (by decide) w
  simp only [Int.cast_ofNat_Int] at hmk
  have HMK := Lib.hid hmk
  clear hmk
  have PT1 := Lib.hid (fun V W hW => puts_any 0 3 true 10 0 (25) [0, 1, 1] V W hW (by decide +kernel) (by decide +kernel))
  have PT2 := Lib.hid (fun V W hW => puts_any 0 3 true 10 0 (-25) [1, 0, 1] V W hW (by decide +kernel) (by decide +kernel))
  have PT3 := Lib.hid (fun V W hW => puts_any 0 3 true 10 0 (24) [0, 1, 0] V W hW (by decide +kernel) (by decide +kernel))
  have PL4 := Lib.hid (fun W => plain_any 0 3 false W)
  have PT5 := Lib.hid (fun V W hW => puts_any 0 3 false 1 0 (5) [1, 0, 1] V W hW (by decide +kernel) (by decide +kernel))
  have PL6 := Lib.hid (fun W => plain_any 0 3 false W)
  have LM7 := Lib.hid (fun W => Limits_ok 0 3 false 1 0 0 7 W (by unfold fk; decide) (by decide +kernel) (by decide +kernel))
  have PL8 := Lib.hid (fun W => plain_any 0 41 false W)
  have LM9 := Lib.hid (fun W => by have h := Limits_any 0 41 false 1 0 W; rw [limP_no (by unfold fk; decide)] at h; exact h)
  have PE := Lib.hid (fun W V hW => by have h := Put_any (List.replicate 3 0) V 0 3 true 1 0 4 W hW (by decide); unfold PutP at h; rw [show errP (List.replicate 3 0) 0 3 true 1 0 4 = 5 by decide +kernel] at h; exact h)
  have PL11 := Lib.hid (fun W => plain_any 0 3 false W)
  have GT12 := Lib.hid (fun W V hW => by have h := Get_any [1, 0] V 0 3 false 1 0 W hW; unfold GetP at h; rw [show getR [1, 0] 0 3 false 1 0 = 0 by decide +kernel, show errT [1, 0] 0 3 1 0 = 16 by decide +kernel] at h; exact h)
  have PL13 := Lib.hid (fun W => plain_any 0 3 false W)
  have GT14 := Lib.hid (fun W V hW => by have h := Get_any [1, 2, 1] V 0 3 false 1 0 W hW; unfold GetP at h; rw [show getR [1, 2, 1] 0 3 false 1 0 = 0 by decide +kernel, show errT [1, 2, 1] 0 3 1 0 = 3 by decide +kernel] at h; exact h)
  have GT15 := Lib.hid (fun W V hW => by have h := Get_any [0, 1, 1] V 0 3 true 10 0 W hW; unfold GetP at h; rw [show getR [0, 1, 1] 0 3 true 10 0 = 30 by decide +kernel, show errT [0, 1, 1] 0 3 10 0 = 0 by decide +kernel] at h; exact h)
  have PL16 := Lib.hid (fun W => plain_any 0 2 false W)
  have PL17 := Lib.hid (fun W => plain_any 3 2 false W)
  have PK18 := Lib.hid (fun W vf vv hf hv => by have h := Pack_any [⟨0, 2, false, 1, 0⟩, ⟨3, 2, false, 1, 0⟩] [1, 2] vf vv 6 W hf hv; rw [show packR 6 [⟨0, 2, false, 1, 0⟩, ⟨3, 2, false, 1, 0⟩] [1, 2] = ([0, 1, 0, 1, 0, 0], (0, 0)) by decide +kernel] at h; unfold PackP at h; exact h)
  have UN19 := Lib.hid (fun W vf vv hf hv => by have h := Unpack_any [⟨0, 2, false, 1, 0⟩, ⟨3, 2, false, 1, 0⟩] [0, 1, 0, 1, 0, 0] vf vv W hf hv; rw [show unpackR [⟨0, 2, false, 1, 0⟩, ⟨3, 2, false, 1, 0⟩] [0, 1, 0, 1, 0, 0] = ([1, 2], (0, 0)) by decide +kernel] at h; unfold PackP at h; exact h)
  have PK20 := Lib.hid (fun W vf vv hf hv => by have h := Pack_any [⟨0, 2, false, 1, 0⟩, ⟨3, 2, false, 1, 0⟩] [1] vf vv 6 W hf hv; rw [show packR 6 [⟨0, 2, false, 1, 0⟩, ⟨3, 2, false, 1, 0⟩] [1] = ([], (3, 2)) by decide +kernel] at h; unfold PackP at h; exact h)
  have PK21 := Lib.hid (fun W vf vv hf hv => by have h := Pack_any [⟨0, 2, false, 1, 0⟩, ⟨3, 2, false, 1, 0⟩] [1, 4] vf vv 6 W hf hv; rw [show packR 6 [⟨0, 2, false, 1, 0⟩, ⟨3, 2, false, 1, 0⟩] [1, 4] = ([], (5, 1)) by decide +kernel] at h; unfold PackP at h; exact h)
  have PL22 := Lib.hid (fun W => plain_any 0 3 false W)
  have PL23 := Lib.hid (fun W => plain_any 2 2 false W)
  have LY24 := Lib.hid (fun W vf hf => by have h := Layout_any [⟨0, 3, false, 1, 0⟩, ⟨2, 2, false, 1, 0⟩] vf 8 W hf; unfold LayP at h; rw [show layout [⟨0, 3, false, 1, 0⟩, ⟨2, 2, false, 1, 0⟩] 8 = (8, 1) by decide +kernel] at h; exact h)
  have PL25 := Lib.hid (fun W => plain_any 0 3 false W)
  have PL26 := Lib.hid (fun W => plain_any 3 5 false W)
  have LY27 := Lib.hid (fun W vf hf => by have h := Layout_any [⟨0, 3, false, 1, 0⟩, ⟨3, 5, false, 1, 0⟩] vf 8 W hf; unfold LayP at h; rw [show layout [⟨0, 3, false, 1, 0⟩, ⟨3, 5, false, 1, 0⟩] 8 = (0, 0) by decide +kernel] at h; exact h)
  have PL28 := Lib.hid (fun W => plain_any 0 3 false W)
  have PL29 := Lib.hid (fun W => plain_any 3 6 false W)
  have LY30 := Lib.hid (fun W vf hf => by have h := Layout_any [⟨0, 3, false, 1, 0⟩, ⟨3, 6, false, 1, 0⟩] vf 8 W hf; unfold LayP at h; rw [show layout [⟨0, 3, false, 1, 0⟩, ⟨3, 6, false, 1, 0⟩] 8 = (16, 1) by decide +kernel] at h; exact h)
  go_enter Try.func7, Try.ntmps7
  go_upto_region 2 with fail
  have BX := Blk.new w 24 #[.int .i64 0, .int .i64 3, .bool true, .int .i64 10, .int .i64 0]
  have HBW := Lib.hid (Bw.alloc (Bw.refl w) (.cells #[.int .i64 0, .int .i64 3, .bool true, .int .i64 10, .int .i64 0] 24))
  obtain ⟨g0, hg0⟩ : ∃ g0, w.heap.size = g0 := ⟨_, rfl⟩
  rw [hg0] at BX ⊢
  clear hg0
  generalize w.alloc (.cells #[.int .i64 0, .int .i64 3, .bool true, .int .i64 10, .int .i64 0] 24) = u0 at BX HBW ⊢
  have k0 : u0.cell? ⟨g0, 0, none⟩ = some (.int .i64 0) := BX.cell rfl
  have k1 : u0.cell? ⟨g0, 1, none⟩ = some (.int .i64 3) := BX.cell rfl
  have k2 : u0.cell? ⟨g0, 2, none⟩ = some (.bool true) := BX.cell rfl
  have k3 : u0.cell? ⟨g0, 3, none⟩ = some (.int .i64 10) := BX.cell rfl
  have k4 : u0.cell? ⟨g0, 4, none⟩ = some (.int .i64 0) := BX.cell rfl
  have hz := lt_of_cell k4
  clear BX
  go_upto_region 6 with (first | (go_at_call 29; (with_reducible refine Calls.mono (PT1.out _ _ ?_) ?_); (focus exact RdI.litN _ _ _ [0, 1, 1] _ (by simp) (by rfl) (by decide)); rintro e1 u1 ⟨rfl, hb1⟩; have hbt : Bw u0 u1 := (by repeat (first | exact Bw.refl _ | assumption | refine Bw.alloc ?_ _ | refine Bw.drew ?_ | refine Bw.trans ?_ (by assumption) | refine Bw.setCell ?_ (by simp; try omega) _)); replace HBW := Lib.hid (HBW.out.trans hbt); replace k0 := hbt.cell' k0; replace k1 := hbt.cell' k1; replace k2 := hbt.cell' k2; replace k3 := hbt.cell' k3; replace k4 := hbt.cell' k4; (try clear hz); have hz := lt_of_cell k4; clear hb1 hbt PT1) | (go_at_call 29; (with_reducible refine Calls.mono (PT2.out _ _ ?_) ?_); (focus exact RdI.litN _ _ _ [1, 0, 1] _ (by simp) (by rfl) (by decide)); rintro e1 u2 ⟨rfl, hb2⟩; have hbt : Bw u1 u2 := (by repeat (first | exact Bw.refl _ | assumption | refine Bw.alloc ?_ _ | refine Bw.drew ?_ | refine Bw.trans ?_ (by assumption) | refine Bw.setCell ?_ (by simp; try omega) _)); replace HBW := Lib.hid (HBW.out.trans hbt); replace k0 := hbt.cell' k0; replace k1 := hbt.cell' k1; replace k2 := hbt.cell' k2; replace k3 := hbt.cell' k3; replace k4 := hbt.cell' k4; (try clear hz); have hz := lt_of_cell k4; clear hb2 hbt PT2) | (go_at_call 29; (with_reducible refine Calls.mono (PT3.out _ _ ?_) ?_); (focus exact RdI.litN _ _ _ [0, 1, 0] _ (by simp) (by rfl) (by decide)); rintro e1 u3 ⟨rfl, hb3⟩; have hbt : Bw u2 u3 := (by repeat (first | exact Bw.refl _ | assumption | refine Bw.alloc ?_ _ | refine Bw.drew ?_ | refine Bw.trans ?_ (by assumption) | refine Bw.setCell ?_ (by simp; try omega) _)); replace HBW := Lib.hid (HBW.out.trans hbt); replace k0 := hbt.cell' k0; replace k1 := hbt.cell' k1; replace k2 := hbt.cell' k2; replace k3 := hbt.cell' k3; replace k4 := hbt.cell' k4; (try clear hz); have hz := lt_of_cell k4; clear hb3 hbt PT3) | (go_at_call 30; (with_reducible refine Calls.mono (PL4.out _) ?_); rintro e1 u4 ⟨rfl, hb4⟩; have hbt : Bw u3 u4 := (by repeat (first | exact Bw.refl _ | assumption | refine Bw.alloc ?_ _ | refine Bw.drew ?_ | refine Bw.trans ?_ (by assumption) | refine Bw.setCell ?_ (by simp; try omega) _)); replace HBW := Lib.hid (HBW.out.trans hbt); replace k0 := hbt.cell' k0; replace k1 := hbt.cell' k1; replace k2 := hbt.cell' k2; replace k3 := hbt.cell' k3; replace k4 := hbt.cell' k4; (try clear hz); have hz := lt_of_cell k4; clear hb4 hbt PL4) | (go_at_call 29; (with_reducible refine Calls.mono (PT5.out _ _ ?_) ?_); (focus exact RdI.litN _ _ _ [1, 0, 1] _ (by simp) (by rfl) (by decide)); rintro e1 u5 ⟨rfl, hb5⟩; have hbt : Bw u4 u5 := (by repeat (first | exact Bw.refl _ | assumption | refine Bw.alloc ?_ _ | refine Bw.drew ?_ | refine Bw.trans ?_ (by assumption) | refine Bw.setCell ?_ (by simp; try omega) _)); replace HBW := Lib.hid (HBW.out.trans hbt); replace k0 := hbt.cell' k0; replace k1 := hbt.cell' k1; replace k2 := hbt.cell' k2; replace k3 := hbt.cell' k3; replace k4 := hbt.cell' k4; (try clear hz); have hz := lt_of_cell k4; clear hb5 hbt PT5) | (go_at_call 30; (with_reducible refine Calls.mono (PL6.out _) ?_); rintro e1 u6 ⟨rfl, hb6⟩; have hbt : Bw u5 u6 := (by repeat (first | exact Bw.refl _ | assumption | refine Bw.alloc ?_ _ | refine Bw.drew ?_ | refine Bw.trans ?_ (by assumption) | refine Bw.setCell ?_ (by simp; try omega) _)); replace HBW := Lib.hid (HBW.out.trans hbt); replace k0 := hbt.cell' k0; replace k1 := hbt.cell' k1; replace k2 := hbt.cell' k2; replace k3 := hbt.cell' k3; replace k4 := hbt.cell' k4; (try clear hz); have hz := lt_of_cell k4; clear hb6 hbt PL6) | (go_at_call 10; (with_reducible refine Calls.mono (LM7.out _) ?_); rintro e1 u7 ⟨rfl, hb7⟩; have hbt : Bw u6 u7 := (by repeat (first | exact Bw.refl _ | assumption | refine Bw.alloc ?_ _ | refine Bw.drew ?_ | refine Bw.trans ?_ (by assumption) | refine Bw.setCell ?_ (by simp; try omega) _)); replace HBW := Lib.hid (HBW.out.trans hbt); replace k0 := hbt.cell' k0; replace k1 := hbt.cell' k1; replace k2 := hbt.cell' k2; replace k3 := hbt.cell' k3; replace k4 := hbt.cell' k4; (try clear hz); have hz := lt_of_cell k4; clear hb7 hbt LM7) | (go_at_call 30; (with_reducible refine Calls.mono (PL8.out _) ?_); rintro e1 u8 ⟨rfl, hb8⟩; have hbt : Bw u7 u8 := (by repeat (first | exact Bw.refl _ | assumption | refine Bw.alloc ?_ _ | refine Bw.drew ?_ | refine Bw.trans ?_ (by assumption) | refine Bw.setCell ?_ (by simp; try omega) _)); replace HBW := Lib.hid (HBW.out.trans hbt); replace k0 := hbt.cell' k0; replace k1 := hbt.cell' k1; replace k2 := hbt.cell' k2; replace k3 := hbt.cell' k3; replace k4 := hbt.cell' k4; (try clear hz); have hz := lt_of_cell k4; clear hb8 hbt PL8) | (go_at_call 10; (with_reducible refine Calls.mono (LM9.out _) ?_); rintro e1 u9 ⟨rfl, hb9⟩; have hbt : Bw u8 u9 := (by repeat (first | exact Bw.refl _ | assumption | refine Bw.alloc ?_ _ | refine Bw.drew ?_ | refine Bw.trans ?_ (by assumption) | refine Bw.setCell ?_ (by simp; try omega) _)); replace HBW := Lib.hid (HBW.out.trans hbt); replace k0 := hbt.cell' k0; replace k1 := hbt.cell' k1; replace k2 := hbt.cell' k2; replace k3 := hbt.cell' k3; replace k4 := hbt.cell' k4; (try clear hz); have hz := lt_of_cell k4; clear hb9 hbt LM9))
  go_cut [9] from 60 (fun s9 wc => s9 = .int .i64 5 ∧ Hid (Bw u9 wc))
  case first =>
    have hmk := HMK.out
    refine wp_region_held_drew (S := Bw u9) (by kernel_rfl) (Bw.drew (Bw.refl _)) (fun hS => ?_)
    generalize World.drew _ = wd at hS ⊢
    refine wpAnyH_ready (rs := [0, 1]) (by kernel_rfl) (by simp) ?_
    refine AllReadyH.cons rfl (fun K hK => ?_) ?_
    go_simp
    have HZ := Lib.hid (rdI_made 3 (by decide) wd)
    have hba := Bw.alloc (Bw.refl wd) (.cells (madeCells #[.int .i64 0] (3 * 1)) 3)
    refine hK.out _ _ (hS.trans hba) (fun hS => ?_)
    clear hK K
    refine wpAnyH_ready (rs := [1]) (by kernel_rfl) (by simp) ?_
    refine AllReadyH.cons rfl (fun K hK => ?_) ?_
    go_simp
    go_wp2_with (go_at_call 30; (with_reducible refine Calls.mono (plain_any 0 3 true _) ?_); rintro e1 wp ⟨rfl, hbp⟩)
    replace HZ := Lib.hid (HZ.out.mono hbp)
    refine hK.out _ _ (hS.trans hbp) (fun hS => ?_)
    clear hK K
    refine wpAnyH_ready (rs := [2]) (by kernel_rfl) (by simp) ?_
    refine AllReadyH.cons rfl (fun K hK => ?_) ?_
    go_simp
    go_wp2_with (go_at_call 12; (with_reducible refine Calls.mono (PE.out _ _ HZ.out) ?_); rintro e1 w5 ⟨⟨v5, rfl, hr5, _⟩, hb5⟩)
    refine hK.out _ _ (hS.trans hb5) (fun hS => ?_)
    clear hK K
    refine take1 (i := 3) (some 60) rfl rfl (by kernel_rfl) (by kernel_rfl) (by kernel_rfl) (fun _ _ _ _ h => h) rfl hS ?_
    apply Exists.intro
    apply And.intro
    · intro W9 hW9; skip; go_simp; try with_reducible rfl
    simp only [Act.put, List.setIfInBounds_toArray, List.set_cons_zero, List.set_cons_succ]
    refine take1 (i := 4) (some 64) rfl rfl (by kernel_rfl) (by kernel_rfl) (by kernel_rfl) (fun _ _ _ _ h => h) rfl hS ?_
    apply Exists.intro
    apply And.intro
    · intro W9 hW9; skip; go_simp; try with_reducible rfl
    simp only [Act.put, List.setIfInBounds_toArray, List.set_cons_zero, List.set_cons_succ]
    refine take1 (i := 5) (some 65) rfl rfl (by kernel_rfl) (by kernel_rfl) (by kernel_rfl) (fun _ _ _ _ h => h) rfl hS ?_
    apply Exists.intro
    apply And.intro
    · intro W9 hW9; skip; go_simp; try with_reducible rfl
    simp only [Act.put, List.setIfInBounds_toArray, List.set_cons_zero, List.set_cons_succ]
    refine take1 (i := 6) (some 8) rfl rfl (by kernel_rfl) (by kernel_rfl) (by kernel_rfl) (fun _ _ _ _ h => h) rfl hS ?_
    apply Exists.intro
    apply And.intro
    · intro W9 hW9; skip; go_simp; try with_reducible rfl
    simp only [Act.put, List.setIfInBounds_toArray, List.set_cons_zero, List.set_cons_succ]
    refine take1 (i := 7) (some 9) rfl rfl (by kernel_rfl) (by kernel_rfl) (by kernel_rfl) (fun _ _ _ _ h => h) rfl hS ?_
    apply Exists.intro
    apply And.intro
    · intro W9 hW9; skip; go_simp; try with_reducible rfl
    simp only [Act.put, List.setIfInBounds_toArray, List.set_cons_zero, List.set_cons_succ]
    refine wpAnyH_done (by kernel_rfl) ?_ _
    rotate_left
    exact AllReadyH.nil
    exact AllReadyH.nil
    refine AllReadyH.cons rfl (fun K hK => ?_) ?_
    go_simp
    go_wp2_with (go_at_call 30; (with_reducible refine Calls.mono (plain_any 0 3 true _) ?_); rintro e1 wp ⟨rfl, hbp⟩)
    refine hK.out _ _ (hS.trans hbp) (fun hS => ?_)
    clear hK K
    refine wpAnyH_ready (rs := [0]) (by kernel_rfl) (by simp) ?_
    refine AllReadyH.cons rfl (fun K hK => ?_) ?_
    go_simp
    have HZ := Lib.hid (rdI_made 3 (by decide) wp)
    have hba := Bw.alloc (Bw.refl wp) (.cells (madeCells #[.int .i64 0] (3 * 1)) 3)
    refine hK.out _ _ (hS.trans hba) (fun hS => ?_)
    clear hK K
    refine wpAnyH_ready (rs := [2]) (by kernel_rfl) (by simp) ?_
    refine AllReadyH.cons rfl (fun K hK => ?_) ?_
    go_simp
    go_wp2_with (go_at_call 12; (with_reducible refine Calls.mono (PE.out _ _ HZ.out) ?_); rintro e1 w5 ⟨⟨v5, rfl, hr5, _⟩, hb5⟩)
    refine hK.out _ _ (hS.trans hb5) (fun hS => ?_)
    clear hK K
    refine take1 (i := 3) (some 60) rfl rfl (by kernel_rfl) (by kernel_rfl) (by kernel_rfl) (fun _ _ _ _ h => h) rfl hS ?_
    apply Exists.intro
    apply And.intro
    · intro W9 hW9; skip; go_simp; try with_reducible rfl
    simp only [Act.put, List.setIfInBounds_toArray, List.set_cons_zero, List.set_cons_succ]
    refine take1 (i := 4) (some 64) rfl rfl (by kernel_rfl) (by kernel_rfl) (by kernel_rfl) (fun _ _ _ _ h => h) rfl hS ?_
    apply Exists.intro
    apply And.intro
    · intro W9 hW9; skip; go_simp; try with_reducible rfl
    simp only [Act.put, List.setIfInBounds_toArray, List.set_cons_zero, List.set_cons_succ]
    refine take1 (i := 5) (some 65) rfl rfl (by kernel_rfl) (by kernel_rfl) (by kernel_rfl) (fun _ _ _ _ h => h) rfl hS ?_
    apply Exists.intro
    apply And.intro
    · intro W9 hW9; skip; go_simp; try with_reducible rfl
    simp only [Act.put, List.setIfInBounds_toArray, List.set_cons_zero, List.set_cons_succ]
    refine take1 (i := 6) (some 8) rfl rfl (by kernel_rfl) (by kernel_rfl) (by kernel_rfl) (fun _ _ _ _ h => h) rfl hS ?_
    apply Exists.intro
    apply And.intro
    · intro W9 hW9; skip; go_simp; try with_reducible rfl
    simp only [Act.put, List.setIfInBounds_toArray, List.set_cons_zero, List.set_cons_succ]
    refine take1 (i := 7) (some 9) rfl rfl (by kernel_rfl) (by kernel_rfl) (by kernel_rfl) (fun _ _ _ _ h => h) rfl hS ?_
    apply Exists.intro
    apply And.intro
    · intro W9 hW9; skip; go_simp; try with_reducible rfl
    simp only [Act.put, List.setIfInBounds_toArray, List.set_cons_zero, List.set_cons_succ]
    refine wpAnyH_done (by kernel_rfl) ?_ _
    rotate_left
    exact AllReadyH.nil
    exact AllReadyH.nil
    exact AllReadyH.nil
    all_goals
      go_wp2
      go_meet
      exact ⟨rfl, Lib.hid hS⟩
  case rest =>
    obtain ⟨rfl, hc⟩ := hcut
    have hbt := hc.out
    clear hc PE HMK
    obtain ⟨u10, hu⟩ : ∃ u10, wc = u10 := ⟨_, rfl⟩
    subst hu
    replace HBW := Lib.hid (HBW.out.trans hbt)
    replace k0 := hbt.cell' k0; replace k1 := hbt.cell' k1; replace k2 := hbt.cell' k2; replace k3 := hbt.cell' k3; replace k4 := hbt.cell' k4
    clear hz
    have hz := lt_of_cell k4
    clear hbt
    rename World => u10
    go_upto_region 12 with (first | (go_at_call 30; (with_reducible refine Calls.mono (PL11.out _) ?_); rintro e1 u11 ⟨rfl, hb11⟩; have hbt : Bw u10 u11 := (by repeat (first | exact Bw.refl _ | assumption | refine Bw.alloc ?_ _ | refine Bw.drew ?_ | refine Bw.trans ?_ (by assumption) | refine Bw.setCell ?_ (by simp; try omega) _)); replace HBW := Lib.hid (HBW.out.trans hbt); replace k0 := hbt.cell' k0; replace k1 := hbt.cell' k1; replace k2 := hbt.cell' k2; replace k3 := hbt.cell' k3; replace k4 := hbt.cell' k4; (try clear hz); have hz := lt_of_cell k4; clear hbt PL11) | (go_at_call 14; (with_reducible refine Calls.mono (GT12.out _ _ ?_) ?_); (focus exact (RdI.lit u10 _ _ [1, 0] (by rfl) (by decide)).mono (by assumption)); rintro e1 u12 ⟨rfl, hb12⟩; have hbt : Bw u11 u12 := (by repeat (first | exact Bw.refl _ | assumption | refine Bw.alloc ?_ _ | refine Bw.drew ?_ | refine Bw.trans ?_ (by assumption) | refine Bw.setCell ?_ (by simp; try omega) _)); replace HBW := Lib.hid (HBW.out.trans hbt); replace k0 := hbt.cell' k0; replace k1 := hbt.cell' k1; replace k2 := hbt.cell' k2; replace k3 := hbt.cell' k3; replace k4 := hbt.cell' k4; (try clear hz); have hz := lt_of_cell k4; clear hb12 hbt GT12 hb11) | (go_at_call 30; (with_reducible refine Calls.mono (PL13.out _) ?_); rintro e1 u13 ⟨rfl, hb13⟩; have hbt : Bw u12 u13 := (by repeat (first | exact Bw.refl _ | assumption | refine Bw.alloc ?_ _ | refine Bw.drew ?_ | refine Bw.trans ?_ (by assumption) | refine Bw.setCell ?_ (by simp; try omega) _)); replace HBW := Lib.hid (HBW.out.trans hbt); replace k0 := hbt.cell' k0; replace k1 := hbt.cell' k1; replace k2 := hbt.cell' k2; replace k3 := hbt.cell' k3; replace k4 := hbt.cell' k4; (try clear hz); have hz := lt_of_cell k4; clear hbt PL13) | (go_at_call 14; (with_reducible refine Calls.mono (GT14.out _ _ ?_) ?_); (focus exact (RdI.lit u12 _ _ [1, 2, 1] (by rfl) (by decide)).mono (by assumption)); rintro e1 u14 ⟨rfl, hb14⟩; have hbt : Bw u13 u14 := (by repeat (first | exact Bw.refl _ | assumption | refine Bw.alloc ?_ _ | refine Bw.drew ?_ | refine Bw.trans ?_ (by assumption) | refine Bw.setCell ?_ (by simp; try omega) _)); replace HBW := Lib.hid (HBW.out.trans hbt); replace k0 := hbt.cell' k0; replace k1 := hbt.cell' k1; replace k2 := hbt.cell' k2; replace k3 := hbt.cell' k3; replace k4 := hbt.cell' k4; (try clear hz); have hz := lt_of_cell k4; clear hb14 hbt GT14 hb13) | (go_at_call 14; (with_reducible refine Calls.mono (GT15.out _ _ ?_) ?_); (focus exact RdI.lit _ _ _ [0, 1, 1] (by rfl) (by decide)); rintro e1 u15 ⟨rfl, hb15⟩; have hbt : Bw u14 u15 := (by repeat (first | exact Bw.refl _ | assumption | refine Bw.alloc ?_ _ | refine Bw.drew ?_ | refine Bw.trans ?_ (by assumption) | refine Bw.setCell ?_ (by simp; try omega) _)); replace HBW := Lib.hid (HBW.out.trans hbt); replace k0 := hbt.cell' k0; replace k1 := hbt.cell' k1; replace k2 := hbt.cell' k2; replace k3 := hbt.cell' k3; replace k4 := hbt.cell' k4; (try clear hz); have hz := lt_of_cell k4; clear hb15 hbt GT15))
    clear k0 k1 k2 k3 k4 hz
    go_upto_region 17 with (first | (go_at_call 30; (with_reducible refine Calls.mono (PL16.out _) ?_); rintro e1 u16 ⟨rfl, hb16⟩; have hbt : Bw u15 u16 := (by repeat (first | exact Bw.refl _ | assumption | refine Bw.alloc ?_ _ | refine Bw.drew ?_ | refine Bw.trans ?_ (by assumption) | refine Bw.setCell ?_ (by simp; try omega) _)); replace HBW := Lib.hid (HBW.out.trans hbt); clear hb16 hbt PL16) | (go_at_call 30; (with_reducible refine Calls.mono (PL17.out _) ?_); rintro e1 u17 ⟨rfl, hb17⟩; have hbt : Bw u16 u17 := (by repeat (first | exact Bw.refl _ | assumption | refine Bw.alloc ?_ _ | refine Bw.drew ?_ | refine Bw.trans ?_ (by assumption) | refine Bw.setCell ?_ (by simp; try omega) _)); replace HBW := Lib.hid (HBW.out.trans hbt); clear hb17 hbt PL17) | (go_at_call 25; have TW := Lib.hid (RdF.lit2 u17 24 0 2 false 1 0 3 2 false 1 0); (with_reducible refine Calls.mono (PK18.out _ _ _ ?_ ?_) ?_); (focus exact TW.out.mono (Bw.alloc (Bw.refl _) _)); (focus exact RdI.litN _ _ _ [1, 2] _ (by simp) (by rfl) (by decide)); rintro e1 u18 ⟨⟨v18, rfl, hr, _⟩, hb18⟩; obtain ⟨a18, c18, rfl⟩ := hr.form; have S18 := Lib.hid hr; clear hr; replace TW := Lib.hid (TW.out.mono (show Bw (u17.alloc (.cells #[.int .i64 0, .int .i64 2, .bool false, .int .i64 1, .int .i64 0, .int .i64 3, .int .i64 2, .bool false, .int .i64 1, .int .i64 0] 24)) u18 from (by repeat (first | exact Bw.refl _ | assumption | refine Bw.alloc ?_ _ | refine Bw.drew ?_ | refine Bw.trans ?_ (by assumption) | refine Bw.setCell ?_ (by simp; try omega) _)))); have hbt : Bw u17 u18 := (by repeat (first | exact Bw.refl _ | assumption | refine Bw.alloc ?_ _ | refine Bw.drew ?_ | refine Bw.trans ?_ (by assumption) | refine Bw.setCell ?_ (by simp; try omega) _)); replace HBW := Lib.hid (HBW.out.trans hbt); clear hb18 hbt PK18) | (go_at_call 27; (with_reducible refine Calls.mono (UN19.out _ _ _ ?_ ?_) ?_); (focus exact TW.out.mono (by repeat (first | exact Bw.refl _ | assumption | refine Bw.alloc ?_ _ | refine Bw.drew ?_ | refine Bw.trans ?_ (by assumption) | refine Bw.setCell ?_ (by simp; try omega) _))); (focus exact S18.out.mono (by repeat (first | exact Bw.refl _ | assumption | refine Bw.alloc ?_ _ | refine Bw.drew ?_ | refine Bw.trans ?_ (by assumption) | refine Bw.setCell ?_ (by simp; try omega) _))); rintro e1 u19 ⟨⟨v19, rfl, hr, _⟩, hb19⟩; obtain ⟨a19, c19, rfl⟩ := hr.form; have S19 := Lib.hid hr; clear hr; have f180 := (show Bw (u18.alloc (.cells #[.int .i64 0, .int .i64 0] 43)) u19 from (by repeat (first | exact Bw.refl _ | assumption | refine Bw.alloc ?_ _ | refine Bw.drew ?_ | refine Bw.trans ?_ (by assumption) | refine Bw.setCell ?_ (by simp; try omega) _))).cell' ((Blk.new u18 43 #[.int .i64 0, .int .i64 0]).cell (j := 0) rfl); have f181 := (show Bw (u18.alloc (.cells #[.int .i64 0, .int .i64 0] 43)) u19 from (by repeat (first | exact Bw.refl _ | assumption | refine Bw.alloc ?_ _ | refine Bw.drew ?_ | refine Bw.trans ?_ (by assumption) | refine Bw.setCell ?_ (by simp; try omega) _))).cell' ((Blk.new u18 43 #[.int .i64 0, .int .i64 0]).cell (j := 1) rfl); have hbt : Bw u18 u19 := (by repeat (first | exact Bw.refl _ | assumption | refine Bw.alloc ?_ _ | refine Bw.drew ?_ | refine Bw.trans ?_ (by assumption) | refine Bw.setCell ?_ (by simp; try omega) _)); replace HBW := Lib.hid (HBW.out.trans hbt); replace TW := Lib.hid (TW.out.mono hbt); replace S18 := Lib.hid (S18.out.mono hbt); clear hb19 hbt UN19) | (go_at_call 25; (with_reducible refine Calls.mono (PK20.out _ _ _ ?_ ?_) ?_); (focus exact TW.out.mono (by repeat (first | exact Bw.refl _ | assumption | refine Bw.alloc ?_ _ | refine Bw.drew ?_ | refine Bw.trans ?_ (by assumption) | refine Bw.setCell ?_ (by simp; try omega) _))); (focus exact RdI.litN _ _ _ [1] _ (by simp) (by rfl) (by decide)); rintro e1 u20 ⟨⟨v20, rfl, hr, _⟩, hb20⟩; obtain ⟨a20, c20, rfl⟩ := hr.form; have S20 := Lib.hid hr; clear hr; have f190 := (show Bw (u19.alloc (.cells #[.int .i64 0, .int .i64 0] 43)) u20 from (by repeat (first | exact Bw.refl _ | assumption | refine Bw.alloc ?_ _ | refine Bw.drew ?_ | refine Bw.trans ?_ (by assumption) | refine Bw.setCell ?_ (by simp; try omega) _))).cell' ((Blk.new u19 43 #[.int .i64 0, .int .i64 0]).cell (j := 0) rfl); have f191 := (show Bw (u19.alloc (.cells #[.int .i64 0, .int .i64 0] 43)) u20 from (by repeat (first | exact Bw.refl _ | assumption | refine Bw.alloc ?_ _ | refine Bw.drew ?_ | refine Bw.trans ?_ (by assumption) | refine Bw.setCell ?_ (by simp; try omega) _))).cell' ((Blk.new u19 43 #[.int .i64 0, .int .i64 0]).cell (j := 1) rfl); have hbt : Bw u19 u20 := (by repeat (first | exact Bw.refl _ | assumption | refine Bw.alloc ?_ _ | refine Bw.drew ?_ | refine Bw.trans ?_ (by assumption) | refine Bw.setCell ?_ (by simp; try omega) _)); replace HBW := Lib.hid (HBW.out.trans hbt); replace TW := Lib.hid (TW.out.mono hbt); replace S18 := Lib.hid (S18.out.mono hbt); replace f180 := hbt.cell' f180; replace f181 := hbt.cell' f181; replace S19 := Lib.hid (S19.out.mono hbt); (try clear hz); have hz := lt_of_cell f181; clear hb20 hbt PK20 S20) | (go_at_call 25; (with_reducible refine Calls.mono (PK21.out _ _ _ ?_ ?_) ?_); (focus exact TW.out.mono (by repeat (first | exact Bw.refl _ | assumption | refine Bw.alloc ?_ _ | refine Bw.drew ?_ | refine Bw.trans ?_ (by assumption) | refine Bw.setCell ?_ (by simp; try omega) _))); (focus exact RdI.litN _ _ _ [1, 4] _ (by simp) (by rfl) (by decide)); rintro e1 u21 ⟨⟨v21, rfl, hr, _⟩, hb21⟩; obtain ⟨a21, c21, rfl⟩ := hr.form; have S21 := Lib.hid hr; clear hr; have f200 := (show Bw (u20.alloc (.cells #[.int .i64 3, .int .i64 2] 43)) u21 from (by repeat (first | exact Bw.refl _ | assumption | refine Bw.alloc ?_ _ | refine Bw.drew ?_ | refine Bw.trans ?_ (by assumption) | refine Bw.setCell ?_ (by simp; try omega) _))).cell' ((Blk.new u20 43 #[.int .i64 3, .int .i64 2]).cell (j := 0) rfl); have f201 := (show Bw (u20.alloc (.cells #[.int .i64 3, .int .i64 2] 43)) u21 from (by repeat (first | exact Bw.refl _ | assumption | refine Bw.alloc ?_ _ | refine Bw.drew ?_ | refine Bw.trans ?_ (by assumption) | refine Bw.setCell ?_ (by simp; try omega) _))).cell' ((Blk.new u20 43 #[.int .i64 3, .int .i64 2]).cell (j := 1) rfl); have hbt : Bw u20 u21 := (by repeat (first | exact Bw.refl _ | assumption | refine Bw.alloc ?_ _ | refine Bw.drew ?_ | refine Bw.trans ?_ (by assumption) | refine Bw.setCell ?_ (by simp; try omega) _)); replace HBW := Lib.hid (HBW.out.trans hbt); replace TW := Lib.hid (TW.out.mono hbt); replace S18 := Lib.hid (S18.out.mono hbt); replace f180 := hbt.cell' f180; replace f181 := hbt.cell' f181; replace S19 := Lib.hid (S19.out.mono hbt); replace f190 := hbt.cell' f190; replace f191 := hbt.cell' f191; (try clear hz); have hz := lt_of_cell f191; clear hb21 hbt PK21 S21))
    go_wp2_with (first | (go_at_call 30; (with_reducible refine Calls.mono (PL22.out _) ?_); rintro e1 u22 ⟨rfl, hb22⟩; have f210 := (show Bw (u21.alloc (.cells #[.int .i64 5, .int .i64 1] 43)) u22 from (by repeat (first | exact Bw.refl _ | assumption | refine Bw.alloc ?_ _ | refine Bw.drew ?_ | refine Bw.trans ?_ (by assumption) | refine Bw.setCell ?_ (by simp; try omega) _))).cell' ((Blk.new u21 43 #[.int .i64 5, .int .i64 1]).cell (j := 0) rfl); have f211 := (show Bw (u21.alloc (.cells #[.int .i64 5, .int .i64 1] 43)) u22 from (by repeat (first | exact Bw.refl _ | assumption | refine Bw.alloc ?_ _ | refine Bw.drew ?_ | refine Bw.trans ?_ (by assumption) | refine Bw.setCell ?_ (by simp; try omega) _))).cell' ((Blk.new u21 43 #[.int .i64 5, .int .i64 1]).cell (j := 1) rfl); have hbt : Bw u21 u22 := (by repeat (first | exact Bw.refl _ | assumption | refine Bw.alloc ?_ _ | refine Bw.drew ?_ | refine Bw.trans ?_ (by assumption) | refine Bw.setCell ?_ (by simp; try omega) _)); replace HBW := Lib.hid (HBW.out.trans hbt); replace TW := Lib.hid (TW.out.mono hbt); replace S18 := Lib.hid (S18.out.mono hbt); replace f180 := hbt.cell' f180; replace f181 := hbt.cell' f181; replace S19 := Lib.hid (S19.out.mono hbt); replace f190 := hbt.cell' f190; replace f191 := hbt.cell' f191; replace f200 := hbt.cell' f200; replace f201 := hbt.cell' f201; (try clear hz); have hz := lt_of_cell f201; clear hb22 hbt PL22) | (go_at_call 30; (with_reducible refine Calls.mono (PL23.out _) ?_); rintro e1 u23 ⟨rfl, hb23⟩; have hbt : Bw u22 u23 := (by repeat (first | exact Bw.refl _ | assumption | refine Bw.alloc ?_ _ | refine Bw.drew ?_ | refine Bw.trans ?_ (by assumption) | refine Bw.setCell ?_ (by simp; try omega) _)); replace HBW := Lib.hid (HBW.out.trans hbt); replace TW := Lib.hid (TW.out.mono hbt); replace S18 := Lib.hid (S18.out.mono hbt); replace f180 := hbt.cell' f180; replace f181 := hbt.cell' f181; replace S19 := Lib.hid (S19.out.mono hbt); replace f190 := hbt.cell' f190; replace f191 := hbt.cell' f191; replace f200 := hbt.cell' f200; replace f201 := hbt.cell' f201; replace f210 := hbt.cell' f210; replace f211 := hbt.cell' f211; (try clear hz); have hz := lt_of_cell f211; clear hb23 hbt PL23) | (go_at_call 23; (with_reducible refine Calls.mono (LY24.out _ _ ?_) ?_); (focus exact RdF.lit2 _ 24 0 3 false 1 0 2 2 false 1 0); rintro e1 u24 ⟨rfl, hb24⟩; have hbt : Bw u23 u24 := (by repeat (first | exact Bw.refl _ | assumption | refine Bw.alloc ?_ _ | refine Bw.drew ?_ | refine Bw.trans ?_ (by assumption) | refine Bw.setCell ?_ (by simp; try omega) _)); replace HBW := Lib.hid (HBW.out.trans hbt); replace TW := Lib.hid (TW.out.mono hbt); replace S18 := Lib.hid (S18.out.mono hbt); replace f180 := hbt.cell' f180; replace f181 := hbt.cell' f181; replace S19 := Lib.hid (S19.out.mono hbt); replace f190 := hbt.cell' f190; replace f191 := hbt.cell' f191; replace f200 := hbt.cell' f200; replace f201 := hbt.cell' f201; replace f210 := hbt.cell' f210; replace f211 := hbt.cell' f211; (try clear hz); have hz := lt_of_cell f211; clear hb24 hbt LY24) | (go_at_call 30; (with_reducible refine Calls.mono (PL25.out _) ?_); rintro e1 u25 ⟨rfl, hb25⟩; have hbt : Bw u24 u25 := (by repeat (first | exact Bw.refl _ | assumption | refine Bw.alloc ?_ _ | refine Bw.drew ?_ | refine Bw.trans ?_ (by assumption) | refine Bw.setCell ?_ (by simp; try omega) _)); replace HBW := Lib.hid (HBW.out.trans hbt); replace TW := Lib.hid (TW.out.mono hbt); replace S18 := Lib.hid (S18.out.mono hbt); replace f180 := hbt.cell' f180; replace f181 := hbt.cell' f181; replace S19 := Lib.hid (S19.out.mono hbt); replace f190 := hbt.cell' f190; replace f191 := hbt.cell' f191; replace f200 := hbt.cell' f200; replace f201 := hbt.cell' f201; replace f210 := hbt.cell' f210; replace f211 := hbt.cell' f211; (try clear hz); have hz := lt_of_cell f211; clear hb25 hbt PL25) | (go_at_call 30; (with_reducible refine Calls.mono (PL26.out _) ?_); rintro e1 u26 ⟨rfl, hb26⟩; have hbt : Bw u25 u26 := (by repeat (first | exact Bw.refl _ | assumption | refine Bw.alloc ?_ _ | refine Bw.drew ?_ | refine Bw.trans ?_ (by assumption) | refine Bw.setCell ?_ (by simp; try omega) _)); replace HBW := Lib.hid (HBW.out.trans hbt); replace TW := Lib.hid (TW.out.mono hbt); replace S18 := Lib.hid (S18.out.mono hbt); replace f180 := hbt.cell' f180; replace f181 := hbt.cell' f181; replace S19 := Lib.hid (S19.out.mono hbt); replace f190 := hbt.cell' f190; replace f191 := hbt.cell' f191; replace f200 := hbt.cell' f200; replace f201 := hbt.cell' f201; replace f210 := hbt.cell' f210; replace f211 := hbt.cell' f211; (try clear hz); have hz := lt_of_cell f211; clear hb26 hbt PL26) | (go_at_call 23; (with_reducible refine Calls.mono (LY27.out _ _ ?_) ?_); (focus exact RdF.lit2 _ 24 0 3 false 1 0 3 5 false 1 0); rintro e1 u27 ⟨rfl, hb27⟩; have hbt : Bw u26 u27 := (by repeat (first | exact Bw.refl _ | assumption | refine Bw.alloc ?_ _ | refine Bw.drew ?_ | refine Bw.trans ?_ (by assumption) | refine Bw.setCell ?_ (by simp; try omega) _)); replace HBW := Lib.hid (HBW.out.trans hbt); replace TW := Lib.hid (TW.out.mono hbt); replace S18 := Lib.hid (S18.out.mono hbt); replace f180 := hbt.cell' f180; replace f181 := hbt.cell' f181; replace S19 := Lib.hid (S19.out.mono hbt); replace f190 := hbt.cell' f190; replace f191 := hbt.cell' f191; replace f200 := hbt.cell' f200; replace f201 := hbt.cell' f201; replace f210 := hbt.cell' f210; replace f211 := hbt.cell' f211; (try clear hz); have hz := lt_of_cell f211; clear hb27 hbt LY27) | (go_at_call 30; (with_reducible refine Calls.mono (PL28.out _) ?_); rintro e1 u28 ⟨rfl, hb28⟩; have hbt : Bw u27 u28 := (by repeat (first | exact Bw.refl _ | assumption | refine Bw.alloc ?_ _ | refine Bw.drew ?_ | refine Bw.trans ?_ (by assumption) | refine Bw.setCell ?_ (by simp; try omega) _)); replace HBW := Lib.hid (HBW.out.trans hbt); replace TW := Lib.hid (TW.out.mono hbt); replace S18 := Lib.hid (S18.out.mono hbt); replace f180 := hbt.cell' f180; replace f181 := hbt.cell' f181; replace S19 := Lib.hid (S19.out.mono hbt); replace f190 := hbt.cell' f190; replace f191 := hbt.cell' f191; replace f200 := hbt.cell' f200; replace f201 := hbt.cell' f201; replace f210 := hbt.cell' f210; replace f211 := hbt.cell' f211; (try clear hz); have hz := lt_of_cell f211; clear hb28 hbt PL28) | (go_at_call 30; (with_reducible refine Calls.mono (PL29.out _) ?_); rintro e1 u29 ⟨rfl, hb29⟩; have hbt : Bw u28 u29 := (by repeat (first | exact Bw.refl _ | assumption | refine Bw.alloc ?_ _ | refine Bw.drew ?_ | refine Bw.trans ?_ (by assumption) | refine Bw.setCell ?_ (by simp; try omega) _)); replace HBW := Lib.hid (HBW.out.trans hbt); replace TW := Lib.hid (TW.out.mono hbt); replace S18 := Lib.hid (S18.out.mono hbt); replace f180 := hbt.cell' f180; replace f181 := hbt.cell' f181; replace S19 := Lib.hid (S19.out.mono hbt); replace f190 := hbt.cell' f190; replace f191 := hbt.cell' f191; replace f200 := hbt.cell' f200; replace f201 := hbt.cell' f201; replace f210 := hbt.cell' f210; replace f211 := hbt.cell' f211; (try clear hz); have hz := lt_of_cell f211; clear hb29 hbt PL29) | (go_at_call 23; (with_reducible refine Calls.mono (LY30.out _ _ ?_) ?_); (focus exact RdF.lit2 _ 24 0 3 false 1 0 3 6 false 1 0); rintro e1 u30 ⟨rfl, hb30⟩; have hbt : Bw u29 u30 := (by repeat (first | exact Bw.refl _ | assumption | refine Bw.alloc ?_ _ | refine Bw.drew ?_ | refine Bw.trans ?_ (by assumption) | refine Bw.setCell ?_ (by simp; try omega) _)); replace HBW := Lib.hid (HBW.out.trans hbt); replace TW := Lib.hid (TW.out.mono hbt); replace S18 := Lib.hid (S18.out.mono hbt); replace f180 := hbt.cell' f180; replace f181 := hbt.cell' f181; replace S19 := Lib.hid (S19.out.mono hbt); replace f190 := hbt.cell' f190; replace f191 := hbt.cell' f191; replace f200 := hbt.cell' f200; replace f201 := hbt.cell' f201; replace f210 := hbt.cell' f210; replace f211 := hbt.cell' f211; (try clear hz); have hz := lt_of_cell f211; clear hb30 hbt LY30) | (go_at_call 18; (with_reducible refine Calls.mono (alike_same [0, 1, 0, 1, 0, 0] _ _ _ ?_ ?_) ?_); (focus exact S18.out.mono (by repeat (first | exact Bw.refl _ | assumption | refine Bw.alloc ?_ _ | refine Bw.drew ?_ | refine Bw.trans ?_ (by assumption) | refine Bw.setCell ?_ (by simp; try omega) _))); (focus exact RdI.litN _ _ _ [0, 1, 0, 1, 0, 0] _ (by simp) (by rfl) (by decide)); rintro e1 u31 ⟨rfl, hb31⟩; have hbt : Bw u30 u31 := (by repeat (first | exact Bw.refl _ | assumption | refine Bw.alloc ?_ _ | refine Bw.drew ?_ | refine Bw.trans ?_ (by assumption) | refine Bw.setCell ?_ (by simp; try omega) _)); replace HBW := Lib.hid (HBW.out.trans hbt); replace TW := Lib.hid (TW.out.mono hbt); replace S18 := Lib.hid (S18.out.mono hbt); replace f180 := hbt.cell' f180; replace f181 := hbt.cell' f181; replace S19 := Lib.hid (S19.out.mono hbt); replace f190 := hbt.cell' f190; replace f191 := hbt.cell' f191; replace f200 := hbt.cell' f200; replace f201 := hbt.cell' f201; replace f210 := hbt.cell' f210; replace f211 := hbt.cell' f211; (try clear hz); have hz := lt_of_cell f211; clear hb31 hbt S18) | (go_at_call 18; (with_reducible refine Calls.mono (alike_same [1, 2] _ _ _ ?_ ?_) ?_); (focus exact S19.out.mono (by repeat (first | exact Bw.refl _ | assumption | refine Bw.alloc ?_ _ | refine Bw.drew ?_ | refine Bw.trans ?_ (by assumption) | refine Bw.setCell ?_ (by simp; try omega) _))); (focus exact RdI.litN _ _ _ [1, 2] _ (by simp) (by rfl) (by decide)); rintro e1 u32 ⟨rfl, hb32⟩; have hbt : Bw u31 u32 := (by repeat (first | exact Bw.refl _ | assumption | refine Bw.alloc ?_ _ | refine Bw.drew ?_ | refine Bw.trans ?_ (by assumption) | refine Bw.setCell ?_ (by simp; try omega) _)); replace HBW := Lib.hid (HBW.out.trans hbt); replace TW := Lib.hid (TW.out.mono hbt); replace f180 := hbt.cell' f180; replace f181 := hbt.cell' f181; replace S19 := Lib.hid (S19.out.mono hbt); replace f190 := hbt.cell' f190; replace f191 := hbt.cell' f191; replace f200 := hbt.cell' f200; replace f201 := hbt.cell' f201; replace f210 := hbt.cell' f210; replace f211 := hbt.cell' f211; (try clear hz); have hz := lt_of_cell f211; clear hb32 hbt S19) | (go_at_call 9; (with_reducible refine Calls.mono (awake_any _) ?_); rintro e1 u33 ⟨rfl, hb33⟩; have hbt : Bw u32 u33 := (by repeat (first | exact Bw.refl _ | assumption | refine Bw.alloc ?_ _ | refine Bw.drew ?_ | refine Bw.trans ?_ (by assumption) | refine Bw.setCell ?_ (by simp; try omega) _)); replace HBW := Lib.hid (HBW.out.trans hbt); replace TW := Lib.hid (TW.out.mono hbt); replace f180 := hbt.cell' f180; replace f181 := hbt.cell' f181; replace f190 := hbt.cell' f190; replace f191 := hbt.cell' f191; replace f200 := hbt.cell' f200; replace f201 := hbt.cell' f201; replace f210 := hbt.cell' f210; replace f211 := hbt.cell' f211; (try clear hz); have hz := lt_of_cell f211; clear hb33 hbt ))
    go_ret
    exact ⟨rfl, HBW.out⟩
end Go.Proofs.Sky
