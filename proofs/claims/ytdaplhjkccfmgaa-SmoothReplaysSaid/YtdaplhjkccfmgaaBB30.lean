/-
  lemmas for the theorems of this claim. No conditions beyond those written in the statements.
-/
import Derived.Test.YtdaplhjkccfmgaaAA30
import Derived.Test.YtdaplhjkccfmgaaW30
set_option linter.unusedVariables false
set_option linter.unusedSimpArgs false
set_option linter.unnecessarySimpa false
namespace Go.Proofs.Sky
open Go Go.RowKit Go.Shelf
set_option maxHeartbeats 4000000
set_option maxRecDepth 4000
theorem infoPr : (Try.prog.info? 24).map (fun i => (i.zero, i.size, i.bytes)) = some (some (.agg #[.int .i64 0, .int .i64 0]), 2, 16) := by kernel_rfl
theorem scTs_len (zs : List Int) (k : Nat) : (scTs zs k).length = k := by simp [scTs]
def SceneP (B : Nat) (zs : List Int) (e g c : Int) (KK : Nat) (r : Ending) (w' : World) : Prop := ∃ v1 v2, r = .returned (.tuple #[v1, v2]) ∧ (RdS w' v1 (scMs zs e g c KK) ∧ Fresh B v1 ∧ w'.ownsRow B 24 2 v1 (scMs zs e g c KK).length (flat (scMs zs e g c KK))) ∧ (RdI w' v2 (scTs zs KK) ∧ Fresh B v2)
theorem scene_any (zs : List Int) (v : Value) (e g c : Int) (w : World) (hv : RdI w v zs) (he : 0 ≤ e) (he2 : e ≤ 10000) (hg : 0 ≤ g) (hg2 : g ≤ 100) (hc : -1000000 ≤ c) (hc2 : c ≤ 1000000) :
    Calls Try.prog 22 #[v, .int .i64 e, .int .i64 g, .int .i64 c] w fun r w' => SceneP w.heap.size zs e g c (scK zs) r w' ∧ Bw w w' := by
  obtain ⟨hlen, ad, cap, rfl, hz⟩ := hv
  have HZ := Lib.hid hz; clear hz
  obtain ⟨n, hn⟩ : ∃ n, n = zs.length := ⟨_, rfl⟩
  rw [← hn] at hlen ⊢
  have HN := Lib.hid hn; clear hn
  have HKN := Lib.hid (show scK zs = min 40 (n / 3) by unfold scK; rw [HN.out])
  obtain ⟨B, hB⟩ : ∃ B, w.heap.size = B := ⟨_, rfl⟩
  rw [hB]
  have HB := Lib.hid hB; clear hB
  generalize scK zs = KK at HKN ⊢
  go_enter Try.func22, Try.ntmps22
  go_wp2
  go_loopg [8, 9, 10, 11] 40 (fun gg s8 s9 s10 s11 wr => ∃ k : Nat, k ≤ KK ∧ 40 - k ≤ gg ∧ s11 = .int .i64 (3 * k) ∧ s10 = .int .i64 (scA zs k) ∧ Hid (Bw w wr) ∧ Hid (wr.ownsRow B 24 2 s8 (scMs zs e g c k).length (flat (scMs zs e g c k))) ∧ Hid (wr.ownsRow B 3 1 s9 (scTs zs k).length ((scTs zs k).map (Value.int .i64))))
  case atStart => exact ⟨0, Nat.zero_le _, by omega, rfl, rfl, Lib.hid (Bw.refl _), Lib.hid (World.ownsRow_nil _ _ _ _), Lib.hid (World.ownsRow_nil _ _ _ _)⟩
  case round =>
    obtain ⟨k, hk, hgg, rfl, rfl, HW, O1, O2⟩ := hrel
    have hKN := HKN.out
    have ⟨a1, a2⟩ := scA_bd zs k
    have hk40 : k ≤ 40 := by omega
    by_cases hlt : k < KK
    · have h1 : (3 * (k : Int)) + 2 < n := by omega
      have h2 : 3 * (k : Int) < 120 := by omega
      have hq := HN.out
      obtain ⟨b, off, rfl, hb, hc3⟩ := HZ.out.resolve_left (by intro h; rw [h] at hq; simp at hq; omega)
      have f2 := Lib.hid (hc3 (3 * k + 1) (by omega))
      have f3 := Lib.hid (hc3 (3 * k + 2) (by omega))
      have e1 := HW.out.cell' (hc3 (3 * k) (by omega))
      have HP1 := Lib.hid (fun W => pick_any (zs.getD (3 * k) 0) 2001 W (by omega) (by omega))
      have HP2 := Lib.hid (fun W => pick_any (zs.getD (3 * k + 1) 0) (2 * e + 1) W (by omega) (by omega))
      have HP3 := Lib.hid (fun W => pick_any (zs.getD (3 * k + 2) 0) (2 * g + 1) W (by omega) (by omega))
      have hM := scMs_succ zs e g c k
      have hT := scTs_succ zs k
      have ⟨p1, p2⟩ := bel_bd (zs.getD (3 * k) 0) 2001 (by omega)
      have ⟨p3, p4⟩ := bel_bd (zs.getD (3 * k + 1) 0) (2 * e + 1) (by omega)
      have ⟨p5, p6⟩ := bel_bd (zs.getD (3 * k + 2) 0) (2 * g + 1) (by omega)
      have HA1 := Lib.hid (show scA zs (k + 1) = scA zs k + bel (zs.getD (3 * k) 0) 2001 - 1000 from rfl)
      unfold scM at hM
      rw [HA1.out] at hM hT
      have HTL := Lib.hid (show (scTs zs k).length + 1 ≤ 1000 by rw [scTs_len]; omega)
      have HML := Lib.hid (show (scMs zs e g c k).length + 1 ≤ 1000 by rw [scMs_len]; omega)
      have HM := Lib.hid hM; have HT := Lib.hid hT
      clear hM hT hc3 hq
      generalize zs.getD (3 * k) 0 = z1 at *
      generalize zs.getD (3 * k + 1) 0 = z2 at *
      generalize zs.getD (3 * k + 2) 0 = z3 at *
      generalize bel z1 2001 = q1 at *
      generalize bel z2 (2 * e + 1) = q2 at *
      generalize bel z3 (2 * g + 1) = q3 at *
      generalize scA zs k = s0 at *
      go_wp2_with (first | (go_at_call 21; (with_reducible refine Calls.mono (HP1.out _) ?_); rintro e w1 ⟨rfl, hb1⟩; replace O1 := Lib.hid (own_bw O1.out hb1); replace O2 := Lib.hid (own_bw O2.out hb1); replace HW := Lib.hid (HW.out.trans hb1); clear hb1 HP1 e1) | (at_builtin; refine wpList_append_int1 rfl (.tmp 31) (.tmp 33) _ rfl B 3 Try.underlying26 infoInt _ (scTs zs k) (s0 + q1 - 1000) rfl (own_bw O2.out (Bw.alloc (Bw.refl _) _)) _ rfl (by simp [go_sem]) (by have := HTL.out; omega) (by have := HW.out.size; have := HB.out; simp; omega) ?_; intro v2 w3 hown hgr; have hba := Bw.alloc (Bw.refl w1) (.cells #[.int .i64 (s0 + q1 - 1000)] 3); replace HW := Lib.hid (Bw.grownN HB.out (HW.out.trans hba) (own_bw O2.out hba) hgr); replace O1 := Lib.hid (own_other (own_bw O1.out hba) (own_bw O2.out hba) (by decide) hgr); obtain ⟨A2, c2, rfl⟩ := own_form2 hown; have O3 := Lib.hid hown; clear hown hgr hba O2; have e2 := HW.out.cell' f2.out; have e3 := HW.out.cell' f3.out))
      clear e2 e3
      have hx1 : 3 * (k : Int) + 1 < n := by omega
      refine wp_region_held_drew (S := Bw w) (by kernel_rfl) (HW.out.trans (Bw.drew (Bw.refl _))) (fun hS => ?_)
      have hbd := Bw.drew (Bw.refl w3)
      replace O1 := Lib.hid (own_bw O1.out hbd); replace O3 := Lib.hid (own_bw O3.out hbd)
      clear hbd HW
      generalize World.drew _ = wd at hS O1 O3 ⊢
      refine take1 (i := 0) (some 35) rfl rfl (by kernel_rfl) (by kernel_rfl) (by kernel_rfl) (fun _ _ _ _ h => h) rfl hS ?_
      apply Exists.intro
      apply And.intro
      · intro W9 hW9; have y2 := hW9.cell' f2.out; have y3 := hW9.cell' f3.out; go_simp; try with_reducible rfl
      simp only [Act.put, List.setIfInBounds_toArray, List.set_cons_zero, List.set_cons_succ]
      refine take1 (i := 1) (some 36) rfl rfl (by kernel_rfl) (by kernel_rfl) (by kernel_rfl) (fun _ _ _ _ h => h) rfl hS ?_
      apply Exists.intro
      apply And.intro
      · intro W9 hW9; have y2 := hW9.cell' f2.out; have y3 := hW9.cell' f3.out; go_simp; try with_reducible rfl
      simp only [Act.put, List.setIfInBounds_toArray, List.set_cons_zero, List.set_cons_succ]
      refine take1 (i := 2) (some 37) rfl rfl (by kernel_rfl) (by kernel_rfl) (by kernel_rfl) (fun _ _ _ _ h => h) rfl hS ?_
      apply Exists.intro
      apply And.intro
      · intro W9 hW9; have y2 := hW9.cell' f2.out; have y3 := hW9.cell' f3.out; go_simp; try with_reducible rfl
      simp only [Act.put, List.setIfInBounds_toArray, List.set_cons_zero, List.set_cons_succ]
      refine take1 (i := 3) (some 38) rfl rfl (by kernel_rfl) (by kernel_rfl) (by kernel_rfl) (fun _ _ _ _ h => h) rfl hS ?_
      apply Exists.intro
      apply And.intro
      · intro W9 hW9; have y2 := hW9.cell' f2.out; have y3 := hW9.cell' f3.out; go_simp; try with_reducible rfl
      simp only [Act.put, List.setIfInBounds_toArray, List.set_cons_zero, List.set_cons_succ]
      refine take1 (i := 4) (some 39) rfl rfl (by kernel_rfl) (by kernel_rfl) (by kernel_rfl) (fun _ _ _ _ h => h) rfl hS ?_
      refine Exists.intro (.int .i64 (3 * (k : Int) + 1)) ?_
      apply And.intro
      · intro W9 hW9; have y2 := hW9.cell' f2.out; have y3 := hW9.cell' f3.out; go_simp; (try go_bits); (try with_reducible rfl); (try trivial)
      simp only [Act.put, List.setIfInBounds_toArray, List.set_cons_zero, List.set_cons_succ]
      refine take1 (i := 5) (some 40) rfl rfl (by kernel_rfl) (by kernel_rfl) (by kernel_rfl) (fun _ _ _ _ h => h) rfl hS ?_
      refine Exists.intro (.pointer (some ⟨b, off + (3 * k + 1), none⟩)) ?_
      apply And.intro
      · intro W9 hW9; have y2 := hW9.cell' f2.out; have y3 := hW9.cell' f3.out; go_simp; rw [if_pos (by omega), show (3 * (k : Int) + 1).toNat = 3 * k + 1 by omega]
      simp only [Act.put, List.setIfInBounds_toArray, List.set_cons_zero, List.set_cons_succ]
      refine take1 (i := 6) (some 41) rfl rfl (by kernel_rfl) (by kernel_rfl) (by kernel_rfl) (fun _ _ _ _ h => h) rfl hS ?_
      refine Exists.intro (.int .i64 (z2)) ?_
      apply And.intro
      · intro W9 hW9; have y2 := hW9.cell' f2.out; have y3 := hW9.cell' f3.out; go_simp; (try go_bits); (try with_reducible rfl); (try trivial)
      simp only [Act.put, List.setIfInBounds_toArray, List.set_cons_zero, List.set_cons_succ]
      refine take1 (i := 7) (some 42) rfl rfl (by kernel_rfl) (by kernel_rfl) (by kernel_rfl) (fun _ _ _ _ h => h) rfl hS ?_
      apply Exists.intro
      apply And.intro
      · intro W9 hW9; have y2 := hW9.cell' f2.out; have y3 := hW9.cell' f3.out; go_simp; try with_reducible rfl
      simp only [Act.put, List.setIfInBounds_toArray, List.set_cons_zero, List.set_cons_succ]
      refine take1 (i := 8) (some 43) rfl rfl (by kernel_rfl) (by kernel_rfl) (by kernel_rfl) (fun _ _ _ _ h => h) rfl hS ?_
      refine Exists.intro (.int .i64 (2 * e)) ?_
      apply And.intro
      · intro W9 hW9; have y2 := hW9.cell' f2.out; have y3 := hW9.cell' f3.out; go_simp; (try go_bits); (try with_reducible rfl); (try trivial)
      simp only [Act.put, List.setIfInBounds_toArray, List.set_cons_zero, List.set_cons_succ]
      refine take1 (i := 9) (some 44) rfl rfl (by kernel_rfl) (by kernel_rfl) (by kernel_rfl) (fun _ _ _ _ h => h) rfl hS ?_
      refine Exists.intro (.int .i64 (2 * e + 1)) ?_
      apply And.intro
      · intro W9 hW9; have y2 := hW9.cell' f2.out; have y3 := hW9.cell' f3.out; go_simp; (try go_bits); (try with_reducible rfl); (try trivial)
      simp only [Act.put, List.setIfInBounds_toArray, List.set_cons_zero, List.set_cons_succ]
      refine take1 (i := 12) (some 47) rfl rfl (by kernel_rfl) (by kernel_rfl) (by kernel_rfl) (fun _ _ _ _ h => h) rfl hS ?_
      apply Exists.intro
      apply And.intro
      · intro W9 hW9; have y2 := hW9.cell' f2.out; have y3 := hW9.cell' f3.out; go_simp; try with_reducible rfl
      simp only [Act.put, List.setIfInBounds_toArray, List.set_cons_zero, List.set_cons_succ]
      refine take1 (i := 14) (some 49) rfl rfl (by kernel_rfl) (by kernel_rfl) (by kernel_rfl) (fun _ _ _ _ h => h) rfl hS ?_
      apply Exists.intro
      apply And.intro
      · intro W9 hW9; have y2 := hW9.cell' f2.out; have y3 := hW9.cell' f3.out; go_simp; try with_reducible rfl
      simp only [Act.put, List.setIfInBounds_toArray, List.set_cons_zero, List.set_cons_succ]
      refine take1 (i := 15) (some 50) rfl rfl (by kernel_rfl) (by kernel_rfl) (by kernel_rfl) (fun _ _ _ _ h => h) rfl hS ?_
      apply Exists.intro
      apply And.intro
      · intro W9 hW9; have y2 := hW9.cell' f2.out; have y3 := hW9.cell' f3.out; go_simp; try with_reducible rfl
      simp only [Act.put, List.setIfInBounds_toArray, List.set_cons_zero, List.set_cons_succ]
      refine take1 (i := 16) (some 51) rfl rfl (by kernel_rfl) (by kernel_rfl) (by kernel_rfl) (fun _ _ _ _ h => h) rfl hS ?_
      refine Exists.intro (.int .i64 (s0 + q1 - 1000 + c)) ?_
      apply And.intro
      · intro W9 hW9; have y2 := hW9.cell' f2.out; have y3 := hW9.cell' f3.out; go_simp; (try go_bits); (try with_reducible rfl); (try trivial)
      simp only [Act.put, List.setIfInBounds_toArray, List.set_cons_zero, List.set_cons_succ]
      refine take1 (i := 17) (some 52) rfl rfl (by kernel_rfl) (by kernel_rfl) (by kernel_rfl) (fun _ _ _ _ h => h) rfl hS ?_
      apply Exists.intro
      apply And.intro
      · intro W9 hW9; have y2 := hW9.cell' f2.out; have y3 := hW9.cell' f3.out; go_simp; try with_reducible rfl
      simp only [Act.put, List.setIfInBounds_toArray, List.set_cons_zero, List.set_cons_succ]
      refine take1 (i := 18) (some 53) rfl rfl (by kernel_rfl) (by kernel_rfl) (by kernel_rfl) (fun _ _ _ _ h => h) rfl hS ?_
      apply Exists.intro
      apply And.intro
      · intro W9 hW9; have y2 := hW9.cell' f2.out; have y3 := hW9.cell' f3.out; go_simp; try with_reducible rfl
      simp only [Act.put, List.setIfInBounds_toArray, List.set_cons_zero, List.set_cons_succ]
      refine take1 (i := 19) (some 54) rfl rfl (by kernel_rfl) (by kernel_rfl) (by kernel_rfl) (fun _ _ _ _ h => h) rfl hS ?_
      refine Exists.intro (.int .i64 (3 * (k : Int) + 2)) ?_
      apply And.intro
      · intro W9 hW9; have y2 := hW9.cell' f2.out; have y3 := hW9.cell' f3.out; go_simp; (try go_bits); (try with_reducible rfl); (try trivial)
      simp only [Act.put, List.setIfInBounds_toArray, List.set_cons_zero, List.set_cons_succ]
      refine take1 (i := 20) (some 55) rfl rfl (by kernel_rfl) (by kernel_rfl) (by kernel_rfl) (fun _ _ _ _ h => h) rfl hS ?_
      refine Exists.intro (.pointer (some ⟨b, off + (3 * k + 2), none⟩)) ?_
      apply And.intro
      · intro W9 hW9; have y2 := hW9.cell' f2.out; have y3 := hW9.cell' f3.out; go_simp; rw [if_pos (by omega), show (3 * (k : Int) + 2).toNat = 3 * k + 2 by omega]
      simp only [Act.put, List.setIfInBounds_toArray, List.set_cons_zero, List.set_cons_succ]
      refine take1 (i := 21) (some 56) rfl rfl (by kernel_rfl) (by kernel_rfl) (by kernel_rfl) (fun _ _ _ _ h => h) rfl hS ?_
      refine Exists.intro (.int .i64 (z3)) ?_
      apply And.intro
      · intro W9 hW9; have y2 := hW9.cell' f2.out; have y3 := hW9.cell' f3.out; go_simp; (try go_bits); (try with_reducible rfl); (try trivial)
      simp only [Act.put, List.setIfInBounds_toArray, List.set_cons_zero, List.set_cons_succ]
      refine take1 (i := 22) (some 57) rfl rfl (by kernel_rfl) (by kernel_rfl) (by kernel_rfl) (fun _ _ _ _ h => h) rfl hS ?_
      apply Exists.intro
      apply And.intro
      · intro W9 hW9; have y2 := hW9.cell' f2.out; have y3 := hW9.cell' f3.out; go_simp; try with_reducible rfl
      simp only [Act.put, List.setIfInBounds_toArray, List.set_cons_zero, List.set_cons_succ]
      refine take1 (i := 23) (some 58) rfl rfl (by kernel_rfl) (by kernel_rfl) (by kernel_rfl) (fun _ _ _ _ h => h) rfl hS ?_
      refine Exists.intro (.int .i64 (2 * g)) ?_
      apply And.intro
      · intro W9 hW9; have y2 := hW9.cell' f2.out; have y3 := hW9.cell' f3.out; go_simp; (try go_bits); (try with_reducible rfl); (try trivial)
      simp only [Act.put, List.setIfInBounds_toArray, List.set_cons_zero, List.set_cons_succ]
      refine take1 (i := 24) (some 59) rfl rfl (by kernel_rfl) (by kernel_rfl) (by kernel_rfl) (fun _ _ _ _ h => h) rfl hS ?_
      refine Exists.intro (.int .i64 (2 * g + 1)) ?_
      apply And.intro
      · intro W9 hW9; have y2 := hW9.cell' f2.out; have y3 := hW9.cell' f3.out; go_simp; (try go_bits); (try with_reducible rfl); (try trivial)
      simp only [Act.put, List.setIfInBounds_toArray, List.set_cons_zero, List.set_cons_succ]
      refine take1 (i := 27) (some 62) rfl rfl (by kernel_rfl) (by kernel_rfl) (by kernel_rfl) (fun _ _ _ _ h => h) rfl hS ?_
      apply Exists.intro
      apply And.intro
      · intro W9 hW9; have y2 := hW9.cell' f2.out; have y3 := hW9.cell' f3.out; go_simp; try with_reducible rfl
      simp only [Act.put, List.setIfInBounds_toArray, List.set_cons_zero, List.set_cons_succ]
      refine wpAnyH_ready (rs := [10]) (by kernel_rfl) (by simp) ?_
      refine AllReadyH.cons rfl (fun K hK => ?_) ?_
      go_simp
      go_wp2_with (go_at_call 21; (with_reducible refine Calls.mono (HP2.out _) ?_); rintro e1 w4 ⟨rfl, hb4⟩)
      replace O1 := Lib.hid (own_bw O1.out hb4)
      replace O3 := Lib.hid (own_bw O3.out hb4)
      refine hK.out _ _ (hS.trans hb4) (fun hS => ?_)
      clear hK K
      refine take1 (i := 11) (some 46) rfl rfl (by kernel_rfl) (by kernel_rfl) (by kernel_rfl) (fun _ _ _ _ h => h) rfl hS ?_
      refine Exists.intro (.int .i64 (s0 + q1 - 1000 + q2)) ?_
      apply And.intro
      · intro W9 hW9; have y2 := hW9.cell' f2.out; have y3 := hW9.cell' f3.out; go_simp; (try go_bits); (try with_reducible rfl); (try trivial)
      simp only [Act.put, List.setIfInBounds_toArray, List.set_cons_zero, List.set_cons_succ]
      refine take1 (i := 13) (some 48) rfl rfl (by kernel_rfl) (by kernel_rfl) (by kernel_rfl) (fun _ _ _ _ h => h) rfl hS ?_
      refine Exists.intro (.int .i64 (s0 + q1 - 1000 + q2 - e)) ?_
      apply And.intro
      · intro W9 hW9; have y2 := hW9.cell' f2.out; have y3 := hW9.cell' f3.out; go_simp; (try go_bits); (try with_reducible rfl); (try trivial)
      simp only [Act.put, List.setIfInBounds_toArray, List.set_cons_zero, List.set_cons_succ]
      refine wpAnyH_ready (rs := [25]) (by kernel_rfl) (by simp) ?_
      refine AllReadyH.cons rfl (fun K hK => ?_) ?_
      go_simp
      go_wp2_with (go_at_call 21; (with_reducible refine Calls.mono (HP3.out _) ?_); rintro e1 w5 ⟨rfl, hb5⟩)
      replace O1 := Lib.hid (own_bw O1.out hb5)
      replace O3 := Lib.hid (own_bw O3.out hb5)
      refine hK.out _ _ (hS.trans hb5) (fun hS => ?_)
      clear hK K
      refine take1 (i := 26) (some 61) rfl rfl (by kernel_rfl) (by kernel_rfl) (by kernel_rfl) (fun _ _ _ _ h => h) rfl hS ?_
      refine Exists.intro (.int .i64 (s0 + q1 - 1000 + c + q3)) ?_
      apply And.intro
      · intro W9 hW9; have y2 := hW9.cell' f2.out; have y3 := hW9.cell' f3.out; go_simp; (try go_bits); (try with_reducible rfl); (try trivial)
      simp only [Act.put, List.setIfInBounds_toArray, List.set_cons_zero, List.set_cons_succ]
      refine take1 (i := 28) (some 63) rfl rfl (by kernel_rfl) (by kernel_rfl) (by kernel_rfl) (fun _ _ _ _ h => h) rfl hS ?_
      refine Exists.intro (.int .i64 (s0 + q1 - 1000 + c + q3 - g)) ?_
      apply And.intro
      · intro W9 hW9; have y2 := hW9.cell' f2.out; have y3 := hW9.cell' f3.out; go_simp; (try go_bits); (try with_reducible rfl); (try trivial)
      simp only [Act.put, List.setIfInBounds_toArray, List.set_cons_zero, List.set_cons_succ]
      refine take1 (i := 29) (some 64) rfl rfl (by kernel_rfl) (by kernel_rfl) (by kernel_rfl) (fun _ _ _ _ h => h) rfl hS ?_
      apply Exists.intro
      apply And.intro
      · intro W9 hW9; have y2 := hW9.cell' f2.out; have y3 := hW9.cell' f3.out; go_simp; try with_reducible rfl
      simp only [Act.put, List.setIfInBounds_toArray, List.set_cons_zero, List.set_cons_succ]
      refine wpAnyH_ready (rs := [30]) (by kernel_rfl) (by simp) ?_
      refine AllReadyH.cons rfl (fun K hK => ?_) ?_
      go_simp
      have hb6 := Bw.alloc (Bw.refl w5) (.cells #[.int .i64 (s0 + q1 - 1000 + q2 - e), .int .i64 (s0 + q1 - 1000 + c + q3 - g)] 24)
      have NB := Lib.hid (Blk.new w5 24 #[.int .i64 (s0 + q1 - 1000 + q2 - e), .int .i64 (s0 + q1 - 1000 + c + q3 - g)])
      replace O1 := Lib.hid (own_bw O1.out hb6)
      replace O3 := Lib.hid (own_bw O3.out hb6)
      refine hK.out _ _ (hS.trans hb6) (fun hS => ?_)
      clear hK K
      refine wpAnyH_ready (rs := [31]) (by kernel_rfl) (by simp) ?_
      refine AllReadyH.cons rfl (fun K hK => ?_) ?_
      rw [if_pos (by rfl)]
      refine wp_append_pair (.tmp 35) (.tmp 65) _ rfl (some 66) rfl B 24 Try.underlying22 infoPr _ (scMs zs e g c k) (s0 + q1 - 1000 + q2 - e) (s0 + q1 - 1000 + c + q3 - g) rfl O1.out _ rfl (NB.out.cell rfl) (NB.out.cell rfl) (by have := HML.out; omega) (by have := hS.size; have := HB.out; omega) ?_
      intro v4 w7 hown hgr
      simp only [Act.put, List.setIfInBounds_toArray, List.set_cons_zero, List.set_cons_succ]
      have HO := O1.out
      replace O3 := Lib.hid (own_other O3.out HO (by decide) hgr)
      have hS' := Bw.grownN HB.out hS HO hgr
      obtain ⟨A4, c4, rfl⟩ := own_form2 hown
      have O4 := Lib.hid hown
      clear hown hgr HO
      refine hK.out _ _ hS' (fun hS => ?_)
      clear hK K
      refine take1 (i := 32) (some 8) rfl rfl (by kernel_rfl) (by kernel_rfl) (by kernel_rfl) (fun _ _ _ _ h => h) rfl hS ?_
      apply Exists.intro
      apply And.intro
      · intro W9 hW9; have y2 := hW9.cell' f2.out; have y3 := hW9.cell' f3.out; go_simp; try with_reducible rfl
      simp only [Act.put, List.setIfInBounds_toArray, List.set_cons_zero, List.set_cons_succ]
      refine wpAnyH_done (by kernel_rfl) ?_ _
      rotate_left
      exact AllReadyH.nil
      exact AllReadyH.nil
      exact AllReadyH.nil
      exact AllReadyH.nil
      go_wp2
      go_roundg (40 - (k + 1))
      case measure => omega
      case rel =>
        refine ⟨k + 1, by omega, by omega, by go_num, by rw [HA1.out], Lib.hid hS, Lib.hid ?_, Lib.hid ?_⟩
        · have h9 := O4.out; rw [HM.out]; simpa only [List.length_append, List.length_cons, List.length_nil, Nat.zero_add] using h9
        · have h9 := O3.out; rw [HT.out]; simpa only [List.length_append, List.length_cons, List.length_nil, Nat.zero_add] using h9
    · obtain rfl : k = KK := by omega
      have HR1 := Lib.hid (own_rdS2 O1.out (by rw [scMs_len]; omega))
      have HR3 := Lib.hid O1.out
      have HR2 := Lib.hid (own_rd O2.out (by rw [scTs_len]; omega))
      clear O1 O2
      by_cases h1 : (3 * (k : Int)) + 2 < n
      · have h2 : ¬ 3 * (k : Int) < 120 := by omega
        clear hKN
        go_wp2
        refine bodyPost_ret (v := .tuple #[u8, u9]) ?_ rfl ⟨⟨_, _, rfl, ⟨HR1.out.1, HR1.out.2, HR3.out⟩, HR2.out⟩, HW.out⟩
        simp [results, Try.results22, go_sem]
      · clear hKN
        go_wp2
        refine bodyPost_ret (v := .tuple #[u8, u9]) ?_ rfl ⟨⟨_, _, rfl, ⟨HR1.out.1, HR1.out.2, HR3.out⟩, HR2.out⟩, HW.out⟩
        simp [results, Try.results22, go_sem]
end Go.Proofs.Sky
