/-
  lemmas for the theorems of this claim. No conditions beyond those written in the statements.
-/
import Derived.Test.YtcbkjfakedngbaaAA25
import Derived.Test.YtcbkjfakedngbaaU25d
set_option linter.unusedVariables false
set_option linter.unusedSimpArgs false
set_option linter.unnecessarySimpa false
namespace Go.Proofs.Sky
open Go Go.RowKit Go.Shelf
set_option maxHeartbeats 4000000
theorem puts_any (a n : Int) (g : Bool) (u c x : Int) (want : List Int) (v : Value) (w : World) (hv : RdI w v want) (h1 : errP (List.replicate 3 0) a n g u c x = 0) (h2 : putR (List.replicate 3 0) a n g u c x = want) :
    Calls Try.prog 29 #[.agg #[.int .i64 a, .int .i64 n, .bool g, .int .i64 u, .int .i64 c], .int .i64 x, v] w fun r w' => r = .returned (.bool true) ∧ Bw w w' := by
  have HV := Lib.hid hv
  obtain ⟨ad, cap, rfl⟩ := hv.form
  clear hv
  have HP := Lib.hid (fun W V hW => Put_ok (List.replicate 3 0) want V a n g u c x W hW (by decide) h1 h2)
  unfold PutOk at HP
  have hmk := fun w => makeInt 3 (by decide) w
  simp only [Int.cast_ofNat_Int] at hmk
  clear h1 h2
  have BX := Lib.hid (Blk.new w 24 #[.int .i64 a, .int .i64 n, .bool g, .int .i64 u, .int .i64 c])
  have HB0 := Lib.hid (Bw.alloc (Bw.refl w) (.cells #[.int .i64 a, .int .i64 n, .bool g, .int .i64 u, .int .i64 c] 24))
  go_enter Try.func29, Try.ntmps29
  go_wp2
  refine wp_region_held_drew (S := Bw (w.alloc (.cells #[.int .i64 a, .int .i64 n, .bool g, .int .i64 u, .int .i64 c] 24))) (by kernel_rfl) (Bw.drew (Bw.refl _)) (fun hS => ?_)
  generalize World.drew _ = wd at hS ⊢
  refine take1 (i := 1) (some 11) rfl rfl (by kernel_rfl) (by kernel_rfl) (by kernel_rfl) (fun _ _ _ _ h => h) rfl hS ?_
  apply Exists.intro
  apply And.intro
  · intro W9 hW9; skip; exact run_load_row 24 _ rfl _ rfl 24 _ _ (BX.out.bw hW9) Try.underlying24 rfl (by kernel_rfl)
  simp only [Act.put, List.setIfInBounds_toArray, List.set_cons_zero, List.set_cons_succ]
  refine take1 (i := 2) (some 12) rfl rfl (by kernel_rfl) (by kernel_rfl) (by kernel_rfl) (fun _ _ _ _ h => h) rfl hS ?_
  apply Exists.intro
  apply And.intro
  · intro W9 hW9; skip; go_simp; try with_reducible rfl
  simp only [Act.put, List.setIfInBounds_toArray, List.set_cons_zero, List.set_cons_succ]
  refine wpAnyH_ready (rs := [0]) (by kernel_rfl) (by simp) ?_
  refine AllReadyH.cons rfl (fun K hK => ?_) ?_
  go_simp
  have HZ := Lib.hid (rdI_made 3 (by decide) wd)
  have hba := Bw.alloc (Bw.refl wd) (.cells (madeCells #[.int .i64 0] (3 * 1)) 3)
  refine hK.out _ _ (hS.trans hba) (fun hS => ?_)
  clear hK K
  refine wpAnyH_ready (rs := [3]) (by kernel_rfl) (by simp) ?_
  refine AllReadyH.cons rfl (fun K hK => ?_) ?_
  go_simp
  go_wp2_with ((go_at_call 12; (with_reducible refine Calls.mono (HP.out _ _ HZ.out) ?_); rintro e1 w5 ⟨⟨v5, rfl, hr5, _⟩, hb5⟩; obtain ⟨a5, c5, rfl⟩ := hr5.form; have HR := Lib.hid hr5; clear hr5))
  refine hK.out _ _ (hS.trans hb5) (fun hS => ?_)
  clear hK K
  refine take1 (i := 4) (some 9) rfl rfl (by kernel_rfl) (by kernel_rfl) (by kernel_rfl) (fun _ _ _ _ h => h) rfl hS ?_
  apply Exists.intro
  apply And.intro
  · intro W9 hW9; skip; go_simp; try with_reducible rfl
  simp only [Act.put, List.setIfInBounds_toArray, List.set_cons_zero, List.set_cons_succ]
  refine take1 (i := 5) (some 14) rfl rfl (by kernel_rfl) (by kernel_rfl) (by kernel_rfl) (fun _ _ _ _ h => h) rfl hS ?_
  apply Exists.intro
  apply And.intro
  · intro W9 hW9; skip; go_simp; try with_reducible rfl
  simp only [Act.put, List.setIfInBounds_toArray, List.set_cons_zero, List.set_cons_succ]
  refine take1 (i := 6) (some 15) rfl rfl (by kernel_rfl) (by kernel_rfl) (by kernel_rfl) (fun _ _ _ _ h => h) rfl hS ?_
  apply Exists.intro
  apply And.intro
  · intro W9 hW9; skip; go_simp; try with_reducible rfl
  simp only [Act.put, List.setIfInBounds_toArray, List.set_cons_zero, List.set_cons_succ]
  refine take1 (i := 7) (some 7) rfl rfl (by kernel_rfl) (by kernel_rfl) (by kernel_rfl) (fun _ _ _ _ h => h) rfl hS ?_
  apply Exists.intro
  apply And.intro
  · intro W9 hW9; skip; go_simp; try with_reducible rfl
  simp only [Act.put, List.setIfInBounds_toArray, List.set_cons_zero, List.set_cons_succ]
  refine take1 (i := 8) (some 8) rfl rfl (by kernel_rfl) (by kernel_rfl) (by kernel_rfl) (fun _ _ _ _ h => h) rfl hS ?_
  apply Exists.intro
  apply And.intro
  · intro W9 hW9; skip; go_simp; try with_reducible rfl
  simp only [Act.put, List.setIfInBounds_toArray, List.set_cons_zero, List.set_cons_succ]
  refine wpAnyH_done (by kernel_rfl) ?_ _
  rotate_left
  exact AllReadyH.nil
  exact AllReadyH.nil
  go_wp2_with (go_at_call 18; (with_reducible refine Calls.mono (alike_same want _ _ _ HR.out (HV.out.mono (HB0.out.trans hS))) ?_); rintro e1 w6 ⟨rfl, hb6⟩)
  go_ret
  exact ⟨rfl, HB0.out.trans (hS.trans hb6)⟩
end Go.Proofs.Sky
