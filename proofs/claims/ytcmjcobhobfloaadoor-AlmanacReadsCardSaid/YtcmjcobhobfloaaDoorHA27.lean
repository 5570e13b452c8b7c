/-
  lemmas for the theorems of this claim. No conditions beyond those written in the statements.
-/
import Derived.Test.YtcmjcobhobfloaaDoorG27
import Derived.Deep.Cut
set_option linter.unusedVariables false
set_option linter.unusedSimpArgs false
set_option linter.unnecessarySimpa false
namespace Go.Proofs.Sky
open Go Go.RowKit Go.Shelf
set_option maxHeartbeats 4000000
set_option maxRecDepth 8000
/-! chapter 27: the reference's Read -/
theorem zeroPgA (w : World) : (zeroValue 27).run Tryd.prog w = .ok (.agg #[.int .i64 0, .int .i64 0, .int .i64 0, .int .i64 0, .int .i64 0, .int .i64 0, .int .i64 0, .int .i64 0, .int .i64 0, .int .i64 0, .int .i64 0, .int .i64 0, .int .i64 0]) w := by kernel_rfl
theorem getN_next (zs : List Int) (a k : Nat) : getN zs a (k + 1) = 2 * getN zs a k + zs.getD (a + k) 0 := rfl
theorem pow20 : ∀ N, N ≤ 20 → (2 : Int) ^ N ≤ 1048576 ∧ 1 ≤ (2 : Int) ^ N := by decide
theorem RRead27_main (t k : Int) (zs : List Int) (a : Option Addr) (c : Nat) (w : World) (RX : Nat → Int) (RE : Int)
    (hv : RdI w (.slice a zs.length c) zs) (hc : zs.length ≤ c ∧ c ≤ 9223372036854775807)
    (h : (rdGood27 t k zs ∧ RX = rv27 zs ∧ RE = 0) ∨ (¬ rdGood27 t k zs ∧ RX = (fun _ => 0) ∧ RE = 3)) :
    Calls Tryd.prog 26 #[.agg #[.int .i64 t, .int .i64 k, .slice a zs.length c]] w fun e w' => e = .returned (.tuple #[.agg (pgV RX), .int .i64 RE]) ∧ Bw w w' := by
  have HV := Lib.hid hv
  have HNO : Hid (¬ rdGood27 t k zs → RX = (fun _ => 0) ∧ RE = 3) := Lib.hid (fun hn => by rcases h with h | h; exact absurd h.1 hn; exact h.2)
  have HYE : Hid (rdGood27 t k zs → RX = rv27 zs ∧ RE = 0) := Lib.hid (fun hn => by rcases h with h | h; exact h.2; exact absurd hn h.1)
  clear h hv
  have HBW := Lib.hid (Bw.alloc (Bw.alloc (Bw.refl w) (.cells #[.int .i64 t, .int .i64 k, .slice a zs.length c] 40)) (.cells #[.int .i64 0, .int .i64 0, .int .i64 0, .int .i64 0, .int .i64 0, .int .i64 0, .int .i64 0, .int .i64 0, .int .i64 0, .int .i64 0, .int .i64 0, .int .i64 0, .int .i64 0] 27))
  have KX := Lib.hid ((Blk.new w 40 #[.int .i64 t, .int .i64 k, .slice a zs.length c]).alloc (.cells #[.int .i64 0, .int .i64 0, .int .i64 0, .int .i64 0, .int .i64 0, .int .i64 0, .int .i64 0, .int .i64 0, .int .i64 0, .int .i64 0, .int .i64 0, .int .i64 0, .int .i64 0] 27))
  have RX0 : Hid (Blk ((w.alloc (.cells #[.int .i64 t, .int .i64 k, .slice a zs.length c] 40)).alloc (.cells #[.int .i64 0, .int .i64 0, .int .i64 0, .int .i64 0, .int .i64 0, .int .i64 0, .int .i64 0, .int .i64 0, .int .i64 0, .int .i64 0, .int .i64 0, .int .i64 0, .int .i64 0] 27)) (w.heap.size + 1) 27 #[.int .i64 0, .int .i64 0, .int .i64 0, .int .i64 0, .int .i64 0, .int .i64 0, .int .i64 0, .int .i64 0, .int .i64 0, .int .i64 0, .int .i64 0, .int .i64 0, .int .i64 0]) := Lib.hid (by have h9 := Blk.new (w.alloc (.cells #[.int .i64 t, .int .i64 k, .slice a zs.length c] 40)) 27 #[.int .i64 0, .int .i64 0, .int .i64 0, .int .i64 0, .int .i64 0, .int .i64 0, .int .i64 0, .int .i64 0, .int .i64 0, .int .i64 0, .int .i64 0, .int .i64 0, .int .i64 0]; simpa using h9)
  have NM := Lib.hid (fun W => rnumbers27_any (fun _ => 0) W)
  have PK := Lib.hid (fun W => rPgCheck_any (rv27 zs) W)
  unfold NumQ at NM
  rw [show pgV (fun _ => 0) = #[.int .i64 0, .int .i64 0, .int .i64 0, .int .i64 0, .int .i64 0, .int .i64 0, .int .i64 0, .int .i64 0, .int .i64 0, .int .i64 0, .int .i64 0, .int .i64 0, .int .i64 0] from rfl] at NM
  obtain ⟨g, hg⟩ : ∃ g, w.heap.size = g := ⟨_, rfl⟩
  rw [hg] at KX RX0
  have HG := Lib.hid hg
  go_enter Tryd.func26, Tryd.ntmps26
  go_upto_region 1 with fail
  obtain ⟨W0, hW0⟩ : ∃ W0, (w.alloc (.cells #[.int .i64 t, .int .i64 k, .slice a zs.length c] 40)).alloc (.cells #[.int .i64 0, .int .i64 0, .int .i64 0, .int .i64 0, .int .i64 0, .int .i64 0, .int .i64 0, .int .i64 0, .int .i64 0, .int .i64 0, .int .i64 0, .int .i64 0, .int .i64 0] 27) = W0 := ⟨_, rfl⟩
  rw [hW0] at HBW KX RX0 ⊢
  clear hW0 hg
  have c0 : W0.cell? ⟨g, 0, none⟩ = some (.int .i64 t) := KX.out.cell rfl
  have c1 : W0.cell? ⟨g, 1, none⟩ = some (.int .i64 k) := KX.out.cell rfl
  have c2 : W0.cell? ⟨g, 2, none⟩ = some (.slice a zs.length c) := KX.out.cell rfl
  by_cases q1 : k = 4
  case neg =>
    have q1b : (k != 4) = true := by simpa using q1
    go_wp2_with ((with_reducible refine at_store 27 (.tmp 2) (.tmp 32) ?_); refine wpList_store_row rfl 27 (.tmp 2) (.tmp 32) rfl (g + 1) #[.int .i64 0, .int .i64 0, .int .i64 0, .int .i64 0, .int .i64 0, .int .i64 0, .int .i64 0, .int .i64 0, .int .i64 0, .int .i64 0, .int .i64 0, .int .i64 0, .int .i64 0] rfl rfl 27 _ RX0.out (by kernel_rfl) rfl (by simp [Value.oneCell', pgV]) ?_)
    have F9 := RX0.out.row #[.int .i64 0, .int .i64 0, .int .i64 0, .int .i64 0, .int .i64 0, .int .i64 0, .int .i64 0, .int .i64 0, .int .i64 0, .int .i64 0, .int .i64 0, .int .i64 0, .int .i64 0]
    have B9 := Bw.setRow HBW.out (show w.heap.size ≤ g + 1 by have := HG.out; omega) #[.int .i64 0, .int .i64 0, .int .i64 0, .int .i64 0, .int .i64 0, .int .i64 0, .int .i64 0, .int .i64 0, .int .i64 0, .int .i64 0, .int .i64 0, .int .i64 0, .int .i64 0]
    refine bodyPost_ret (v := .tuple #[.agg #[.int .i64 0, .int .i64 0, .int .i64 0, .int .i64 0, .int .i64 0, .int .i64 0, .int .i64 0, .int .i64 0, .int .i64 0, .int .i64 0, .int .i64 0, .int .i64 0, .int .i64 0], .int .i64 3]) ?_ rfl ⟨?_, B9⟩
    · exact results_two_row (p := 2) (u := 3) rfl _ _ (g + 1) _ rfl (run_loadVar_row _ (g + 1) 27 27 #[.int .i64 0, .int .i64 0, .int .i64 0, .int .i64 0, .int .i64 0, .int .i64 0, .int .i64 0, .int .i64 0, .int .i64 0, .int .i64 0, .int .i64 0, .int .i64 0, .int .i64 0] (0, 0) _ F9 Tryd.underlying27 rfl (by kernel_rfl))
    · have h9 := HNO.out (by unfold rdGood27; omega)
      rw [h9.1, h9.2]
      rfl
  subst q1
  by_cases q2 : t < 0
  case pos =>
    go_wp2_with ((with_reducible refine at_store 27 (.tmp 2) (.tmp 32) ?_); refine wpList_store_row rfl 27 (.tmp 2) (.tmp 32) rfl (g + 1) #[.int .i64 0, .int .i64 0, .int .i64 0, .int .i64 0, .int .i64 0, .int .i64 0, .int .i64 0, .int .i64 0, .int .i64 0, .int .i64 0, .int .i64 0, .int .i64 0, .int .i64 0] rfl rfl 27 _ RX0.out (by kernel_rfl) rfl (by simp [Value.oneCell', pgV]) ?_)
    have F9 := RX0.out.row #[.int .i64 0, .int .i64 0, .int .i64 0, .int .i64 0, .int .i64 0, .int .i64 0, .int .i64 0, .int .i64 0, .int .i64 0, .int .i64 0, .int .i64 0, .int .i64 0, .int .i64 0]
    have B9 := Bw.setRow HBW.out (show w.heap.size ≤ g + 1 by have := HG.out; omega) #[.int .i64 0, .int .i64 0, .int .i64 0, .int .i64 0, .int .i64 0, .int .i64 0, .int .i64 0, .int .i64 0, .int .i64 0, .int .i64 0, .int .i64 0, .int .i64 0, .int .i64 0]
    refine bodyPost_ret (v := .tuple #[.agg #[.int .i64 0, .int .i64 0, .int .i64 0, .int .i64 0, .int .i64 0, .int .i64 0, .int .i64 0, .int .i64 0, .int .i64 0, .int .i64 0, .int .i64 0, .int .i64 0, .int .i64 0], .int .i64 3]) ?_ rfl ⟨?_, B9⟩
    · exact results_two_row (p := 2) (u := 3) rfl _ _ (g + 1) _ rfl (run_loadVar_row _ (g + 1) 27 27 #[.int .i64 0, .int .i64 0, .int .i64 0, .int .i64 0, .int .i64 0, .int .i64 0, .int .i64 0, .int .i64 0, .int .i64 0, .int .i64 0, .int .i64 0, .int .i64 0, .int .i64 0] (0, 0) _ F9 Tryd.underlying27 rfl (by kernel_rfl))
    · have h9 := HNO.out (by unfold rdGood27; omega)
      rw [h9.1, h9.2]
      rfl
  by_cases q3 : 131071 < t
  case pos =>
    go_wp2_with ((with_reducible refine at_store 27 (.tmp 2) (.tmp 32) ?_); refine wpList_store_row rfl 27 (.tmp 2) (.tmp 32) rfl (g + 1) #[.int .i64 0, .int .i64 0, .int .i64 0, .int .i64 0, .int .i64 0, .int .i64 0, .int .i64 0, .int .i64 0, .int .i64 0, .int .i64 0, .int .i64 0, .int .i64 0, .int .i64 0] rfl rfl 27 _ RX0.out (by kernel_rfl) rfl (by simp [Value.oneCell', pgV]) ?_)
    have F9 := RX0.out.row #[.int .i64 0, .int .i64 0, .int .i64 0, .int .i64 0, .int .i64 0, .int .i64 0, .int .i64 0, .int .i64 0, .int .i64 0, .int .i64 0, .int .i64 0, .int .i64 0, .int .i64 0]
    have B9 := Bw.setRow HBW.out (show w.heap.size ≤ g + 1 by have := HG.out; omega) #[.int .i64 0, .int .i64 0, .int .i64 0, .int .i64 0, .int .i64 0, .int .i64 0, .int .i64 0, .int .i64 0, .int .i64 0, .int .i64 0, .int .i64 0, .int .i64 0, .int .i64 0]
    refine bodyPost_ret (v := .tuple #[.agg #[.int .i64 0, .int .i64 0, .int .i64 0, .int .i64 0, .int .i64 0, .int .i64 0, .int .i64 0, .int .i64 0, .int .i64 0, .int .i64 0, .int .i64 0, .int .i64 0, .int .i64 0], .int .i64 3]) ?_ rfl ⟨?_, B9⟩
    · exact results_two_row (p := 2) (u := 3) rfl _ _ (g + 1) _ rfl (run_loadVar_row _ (g + 1) 27 27 #[.int .i64 0, .int .i64 0, .int .i64 0, .int .i64 0, .int .i64 0, .int .i64 0, .int .i64 0, .int .i64 0, .int .i64 0, .int .i64 0, .int .i64 0, .int .i64 0, .int .i64 0] (0, 0) _ F9 Tryd.underlying27 rfl (by kernel_rfl))
    · have h9 := HNO.out (by unfold rdGood27; omega)
      rw [h9.1, h9.2]
      rfl
  by_cases q4 : zs.length = 206
  case neg =>
    have q4b : ((zs.length : Int) != 206) = true := by simp; omega
    have HQ4 := Lib.hid q4
    clear q4
    go_wp2_with ((with_reducible refine at_store 27 (.tmp 2) (.tmp 32) ?_); refine wpList_store_row rfl 27 (.tmp 2) (.tmp 32) rfl (g + 1) #[.int .i64 0, .int .i64 0, .int .i64 0, .int .i64 0, .int .i64 0, .int .i64 0, .int .i64 0, .int .i64 0, .int .i64 0, .int .i64 0, .int .i64 0, .int .i64 0, .int .i64 0] rfl rfl 27 _ RX0.out (by kernel_rfl) rfl (by simp [Value.oneCell', pgV]) ?_)
    have F9 := RX0.out.row #[.int .i64 0, .int .i64 0, .int .i64 0, .int .i64 0, .int .i64 0, .int .i64 0, .int .i64 0, .int .i64 0, .int .i64 0, .int .i64 0, .int .i64 0, .int .i64 0, .int .i64 0]
    have B9 := Bw.setRow HBW.out (show w.heap.size ≤ g + 1 by have := HG.out; omega) #[.int .i64 0, .int .i64 0, .int .i64 0, .int .i64 0, .int .i64 0, .int .i64 0, .int .i64 0, .int .i64 0, .int .i64 0, .int .i64 0, .int .i64 0, .int .i64 0, .int .i64 0]
    refine bodyPost_ret (v := .tuple #[.agg #[.int .i64 0, .int .i64 0, .int .i64 0, .int .i64 0, .int .i64 0, .int .i64 0, .int .i64 0, .int .i64 0, .int .i64 0, .int .i64 0, .int .i64 0, .int .i64 0, .int .i64 0], .int .i64 3]) ?_ rfl ⟨?_, B9⟩
    · exact results_two_row (p := 2) (u := 3) rfl _ _ (g + 1) _ rfl (run_loadVar_row _ (g + 1) 27 27 #[.int .i64 0, .int .i64 0, .int .i64 0, .int .i64 0, .int .i64 0, .int .i64 0, .int .i64 0, .int .i64 0, .int .i64 0, .int .i64 0, .int .i64 0, .int .i64 0, .int .i64 0] (0, 0) _ F9 Tryd.underlying27 rfl (by kernel_rfl))
    · have h9 := HNO.out (by have := HQ4.out; unfold rdGood27; omega)
      rw [h9.1, h9.2]
      rfl
  have HQ4 := Lib.hid q4
  obtain ⟨db, dof, dc, he, hdb, hcz⟩ := (HV.out.mono HBW.out).at (by omega)
  injection he with he1 he2 he3
  subst he1 he3
  clear he2
  rw [q4] at KX c2 hc hcz
  have HCZ := Lib.hid hcz
  have HC2 := Lib.hid c2
  clear q4 hcz hdb
  go_upto_region 3 with fail
  clear c0 c1 c2
  go_wp2
  go_loopg [4] 206 (fun gg s4 wr => ∃ i : Nat, i ≤ 206 ∧ 206 - i ≤ gg ∧ s4 = .int .i64 i ∧ wr = W0 ∧ Hid (∀ p, p < i → zs.getD p 0 = 0 ∨ (zs.getD p 0 = 1 ∧ p < 200)))
  case atStart => exact ⟨0, by omega, by omega, rfl, rfl, Lib.hid (fun p hp => absurd hp (by omega))⟩
  case round =>
    obtain ⟨i, hi, hgg, rfl, hwr, HP⟩ := hrel
    subst hwr
    by_cases hlt : i < 206
    · have hiz : (i : Int) < 206 := by omega
      have hi0 : (0 : Int) ≤ i := by omega
      have c2 := HC2.out
      have cz := HCZ.out i hlt
      have HPI := Lib.hid (fun (hz : zs.getD i 0 = 0 ∨ (zs.getD i 0 = 1 ∧ i < 200)) => (fun p (hp : p < i + 1) => (by
        rcases Nat.lt_succ_iff_lt_or_eq.1 hp with h9 | rfl
        · exact HP.out p h9
        · exact hz) : ∀ p, p < i + 1 → zs.getD p 0 = 0 ∨ (zs.getD p 0 = 1 ∧ p < 200)))
      have HNI := Lib.hid (fun (hz : ¬ (zs.getD i 0 = 0 ∨ (zs.getD i 0 = 1 ∧ i < 200))) (h : rdGood27 t 4 zs) => hz (h.2.2.2.2.1 i hlt))
      generalize zs.getD i 0 = z at cz HPI HNI
      by_cases z0 : z = 0
      · subst z0
        have HP2 := Lib.hid (HPI.out (.inl rfl))
        by_cases h2 : i < 200
        · have h2z : ¬ (200 : Int) ≤ i := by omega
          go_wp2
          go_roundg (206 - (i + 1))
          case measure => omega
          case rel => exact ⟨i + 1, by omega, by omega, by go_num, rfl, HP2⟩
        · have h2z : (200 : Int) ≤ i := by omega
          go_wp2
          go_roundg (206 - (i + 1))
          case measure => omega
          case rel => exact ⟨i + 1, by omega, by omega, by go_num, rfl, HP2⟩
      by_cases z1 : z = 1
      · subst z1
        by_cases h2 : i < 200
        · have HP2 := Lib.hid (HPI.out (.inr ⟨rfl, h2⟩))
          have h2z : ¬ (200 : Int) ≤ i := by omega
          go_wp2
          go_roundg (206 - (i + 1))
          case measure => omega
          case rel => exact ⟨i + 1, by omega, by omega, by go_num, rfl, HP2⟩
        · have HN2 := Lib.hid (HNI.out (by omega))
          have h2z : (200 : Int) ≤ i := by omega
          go_wp2_with ((with_reducible refine at_store 27 (.tmp 2) (.tmp 63) ?_); refine wpList_store_row rfl 27 (.tmp 2) (.tmp 63) rfl (g + 1) #[.int .i64 0, .int .i64 0, .int .i64 0, .int .i64 0, .int .i64 0, .int .i64 0, .int .i64 0, .int .i64 0, .int .i64 0, .int .i64 0, .int .i64 0, .int .i64 0, .int .i64 0] rfl rfl 27 _ RX0.out (by kernel_rfl) rfl (by simp [Value.oneCell', pgV]) ?_)
          have F9 := RX0.out.row #[.int .i64 0, .int .i64 0, .int .i64 0, .int .i64 0, .int .i64 0, .int .i64 0, .int .i64 0, .int .i64 0, .int .i64 0, .int .i64 0, .int .i64 0, .int .i64 0, .int .i64 0]
          have B9 := Bw.setRow HBW.out (show w.heap.size ≤ g + 1 by have := HG.out; omega) #[.int .i64 0, .int .i64 0, .int .i64 0, .int .i64 0, .int .i64 0, .int .i64 0, .int .i64 0, .int .i64 0, .int .i64 0, .int .i64 0, .int .i64 0, .int .i64 0, .int .i64 0]
          refine bodyPost_ret (v := .tuple #[.agg #[.int .i64 0, .int .i64 0, .int .i64 0, .int .i64 0, .int .i64 0, .int .i64 0, .int .i64 0, .int .i64 0, .int .i64 0, .int .i64 0, .int .i64 0, .int .i64 0, .int .i64 0], .int .i64 3]) ?_ rfl ⟨?_, B9⟩
          · exact results_two_row (p := 2) (u := 3) rfl _ _ (g + 1) _ rfl (run_loadVar_row _ (g + 1) 27 27 #[.int .i64 0, .int .i64 0, .int .i64 0, .int .i64 0, .int .i64 0, .int .i64 0, .int .i64 0, .int .i64 0, .int .i64 0, .int .i64 0, .int .i64 0, .int .i64 0, .int .i64 0] (0, 0) _ F9 Tryd.underlying27 rfl (by kernel_rfl))
          · have h9 := HNO.out (HN2.out)
            rw [h9.1, h9.2]
            rfl
      · have HN2 := Lib.hid (HNI.out (by omega))
        have z0b : (z != 0) = true := by simpa using z0
        have z1b : (z != 1) = true := by simpa using z1
        go_wp2_with ((with_reducible refine at_store 27 (.tmp 2) (.tmp 63) ?_); refine wpList_store_row rfl 27 (.tmp 2) (.tmp 63) rfl (g + 1) #[.int .i64 0, .int .i64 0, .int .i64 0, .int .i64 0, .int .i64 0, .int .i64 0, .int .i64 0, .int .i64 0, .int .i64 0, .int .i64 0, .int .i64 0, .int .i64 0, .int .i64 0] rfl rfl 27 _ RX0.out (by kernel_rfl) rfl (by simp [Value.oneCell', pgV]) ?_)
        have F9 := RX0.out.row #[.int .i64 0, .int .i64 0, .int .i64 0, .int .i64 0, .int .i64 0, .int .i64 0, .int .i64 0, .int .i64 0, .int .i64 0, .int .i64 0, .int .i64 0, .int .i64 0, .int .i64 0]
        have B9 := Bw.setRow HBW.out (show w.heap.size ≤ g + 1 by have := HG.out; omega) #[.int .i64 0, .int .i64 0, .int .i64 0, .int .i64 0, .int .i64 0, .int .i64 0, .int .i64 0, .int .i64 0, .int .i64 0, .int .i64 0, .int .i64 0, .int .i64 0, .int .i64 0]
        refine bodyPost_ret (v := .tuple #[.agg #[.int .i64 0, .int .i64 0, .int .i64 0, .int .i64 0, .int .i64 0, .int .i64 0, .int .i64 0, .int .i64 0, .int .i64 0, .int .i64 0, .int .i64 0, .int .i64 0, .int .i64 0], .int .i64 3]) ?_ rfl ⟨?_, B9⟩
        · exact results_two_row (p := 2) (u := 3) rfl _ _ (g + 1) _ rfl (run_loadVar_row _ (g + 1) 27 27 #[.int .i64 0, .int .i64 0, .int .i64 0, .int .i64 0, .int .i64 0, .int .i64 0, .int .i64 0, .int .i64 0, .int .i64 0, .int .i64 0, .int .i64 0, .int .i64 0, .int .i64 0] (0, 0) _ F9 Tryd.underlying27 rfl (by kernel_rfl))
        · have h9 := HNO.out (HN2.out)
          rw [h9.1, h9.2]
          rfl
    · obtain rfl : i = 206 := by omega
      have hiz : ¬ ((206 : Nat) : Int) < 206 := by omega
      have HB01 := Lib.hid (show ∀ p, p < 206 → zs.getD p 0 = 0 ∨ zs.getD p 0 = 1 from fun p hp => (HP.out p hp).imp id (·.1))
      go_upto_region 9 with (go_at_call 44; (with_reducible refine Calls.mono (NM.out _) ?_); rintro e1 w3 ⟨⟨b1, o1, c1, b2, o2, c2, rfl, hc1, hc2⟩, hb1⟩; have HCB := Lib.hid hc2; replace KX := Lib.hid (KX.out.bw hb1); replace RX0 := Lib.hid (RX0.out.bw hb1); replace HCZ := Lib.hid (fun i hi => hb1.cell' (HCZ.out i hi)); replace HBW := Lib.hid (HBW.out.trans hb1); clear hb1 hc1 hc2)
      go_wp2
      obtain ⟨BB, hBB⟩ : ∃ BB, w3.heap.size = BB := ⟨_, rfl⟩
      have HB := Lib.hid hBB
      have HB2 := Lib.hid (show g + 1 < BB by have := RX0.out.lt; omega)
      have HNB := Lib.hid nN_bd
      obtain ⟨AT, hAT⟩ : ∃ AT : Nat → Nat, AT = fun i => if i = 13 then 200 else atN i := ⟨_, rfl⟩
      have HA0 := Lib.hid (show AT 0 = 0 from by rw [hAT]; rfl)
      have HAI := Lib.hid (show ∀ i, i < 13 → AT i = atN i ∧ AT (i + 1) = atN i + nN i from fun i hi => by
        rw [hAT]
        dsimp only
        rw [if_neg (by omega), atN_step i hi]
        refine ⟨rfl, ?_⟩
        by_cases h12 : i = 12
        · rw [if_pos (by omega), if_pos h12]
        · rw [if_neg (by omega), if_neg h12])
      clear hBB hAT
      go_loopg [7, 8, 9] 13 (fun gg s7 s8 s9 wr => ∃ i : Nat, i ≤ 13 ∧ 13 - i ≤ gg ∧ s9 = .int .i64 i ∧ s8 = .int .i64 (AT i : Nat) ∧ Hid (Bw w3 wr) ∧ Hid (wr.ownsRow BB 3 1 s7 ((List.range i).map (rv27 zs)).length (((List.range i).map (rv27 zs)).map (Value.int .i64))))
      case atStart => exact ⟨0, by omega, by omega, rfl, by rw [HA0.out]; rfl, Lib.hid (Bw.refl _), Lib.hid (World.ownsRow_nil _ _ _ _)⟩
      case round =>
        obtain ⟨i, hi, hgg, rfl, rfl, HW, O1⟩ := hrel
        obtain ⟨wa, rfl⟩ : ∃ wa, wa = wr := ⟨_, rfl⟩
        by_cases hlt : i < 13
        · have hiz : (i : Int) < 13 := by omega
          have hi0 : (0 : Int) ≤ i := by omega
          have hn1 := HNB.out i hlt
          have HA := Lib.hid (HAI.out i hlt)
          rw [HA.out.1]
          have HRV := Lib.hid (show rv27 zs i = if 3 < i ∧ zs.getD (atN i) 0 = 1 then getN zs (atN i) (nN i) - 2 ^ nN i else getN zs (atN i) (nN i) from rfl)
          have HT := Lib.hid (show (List.range (i + 1)).map (rv27 zs) = (List.range i).map (rv27 zs) ++ [rv27 zs i] by rw [List.range_succ, List.map_append]; rfl)
          have HLN := Lib.hid (show ((List.range i).map (rv27 zs)).length = i by rw [List.length_map, List.length_range])
          have HD2 := Lib.hid (HCB.out i hlt)
          have HPW := Lib.hid (pow20 (nN i) hn1.2.1)
          generalize (List.range i).map (rv27 zs) = l1 at O1 HT HLN
          generalize hrv : rv27 zs i = rvi at *
          clear hrv
          generalize atN i = AN at *
          generalize nN i = N at *
          have HKZ := Lib.hid (KX.out.cell (show (#[.int .i64 t, .int .i64 4, .slice (some ⟨db, dof, none⟩) 206 c] : Array Value)[2]? = _ from rfl))
          go_wp2
          go_loopg [10, 11] 20 (fun gg s10 s11 wx => ∃ r : Nat, r ≤ N ∧ N - r ≤ gg ∧ s11 = .int .i64 r ∧ s10 = .int .i64 (getN zs AN r) ∧ wx = wa)
          case atStart => exact ⟨0, by omega, by omega, rfl, rfl, rfl⟩
          case round =>
            obtain ⟨r, hr9, hgg2, rfl, rfl, hwx⟩ := hrel
            subst hwx
            have d2 := HW.out.cell' HD2.out
            have d3 := HW.out.cell' HKZ.out
            by_cases hrN : r < N
            · have hrz : (r : Int) < N := by omega
              have hr0 : (0 : Int) ≤ r := by omega
              have hbd := getN_bd zs AN r (fun j hj => HB01.out _ (by omega))
              have hp2 := pow20 r (by omega)
              have d4 := HW.out.cell' (HCZ.out (AN + r) (by omega))
              have hb1 := HB01.out (AN + r) (by omega)
              have HGN := Lib.hid (getN_next zs AN r)
              have hai : (AN : Int) + r < 206 := by omega
              have han : ((AN : Int) + r).toNat = AN + r := by omega
              generalize zs.getD (AN + r) 0 = z at *
              generalize getN zs AN r = gn at *
              generalize (2 : Int) ^ r = P at *
              go_wp2
              go_roundg (N - (r + 1))
              case measure => omega
              case rel => exact ⟨r + 1, by omega, by omega, by go_num, by rw [HGN.out], rfl⟩
            · obtain rfl : r = N := by omega
              have hrz : ¬ (r : Int) < r := by omega
              have hbd := getN_bd zs AN r (fun j hj => HB01.out _ (by omega))
              have d4 := HW.out.cell' (HCZ.out AN (by omega))
              have hb1 := HB01.out AN (by omega)
              have hai : (AN : Int) < 206 := by omega
              obtain ⟨PW, hPW⟩ : ∃ PW : Int, PW = 2 ^ r := ⟨_, rfl⟩
              have hpw := HPW.out
              have hwp : IntKind.i64.wrap ((2 : Int) ^ r) = PW := by
                rw [hPW, IntKind.wrap_i64]
                generalize (2 : Int) ^ r = m at *
                omega
              rw [← hPW] at HRV hbd hpw
              have hrr : r < 64 := by omega
              clear hPW
              generalize getN zs AN r = gn at *
              generalize hz : zs.getD AN 0 = z at *
              clear hz
              by_cases h4 : 4 ≤ i
              · have h4z : (4 : Int) ≤ i := by omega
                by_cases hz1 : z = 1
                · subst hz1
                  have HRV2 := Lib.hid (HRV.out.trans (if_pos ⟨by omega, rfl⟩))
                  go_wp2_with (at_builtin; have hba := Bw.alloc (Bw.refl wr) (.cells #[.int .i64 (gn - PW)] 3); replace O1 := Lib.hid (own_bw O1.out hba); replace HW := Lib.hid (HW.out.trans hba); clear hba; refine wpList_append_int1 rfl (.tmp 111) (.tmp 113) _ rfl BB 3 Tryd.underlying22 infoInt _ l1 (gn - PW) rfl O1.out _ rfl (by simp [go_sem]) (by have := HLN.out; omega) (by have := HW.out.size; have := HB.out; simp only [World.size_alloc] at *; omega) ?_; intro v8 w8 hown hgr; replace HW := Lib.hid (bw_grownN HB.out HW.out O1.out hgr); replace O1 := Lib.hid hown; clear hown hgr d2 d3 d4; have d2 := HW.out.cell' HD2.out)
                  go_roundg (13 - (i + 1))
                  case measure => omega
                  case rel => exact ⟨i + 1, by omega, by omega, by go_num, by rw [HA.out.2]; go_num, HW, Lib.hid (by rw [HT.out, HRV2.out]; exact O1.out)⟩
                · obtain rfl : z = 0 := by omega
                  have HRV2 := Lib.hid (HRV.out.trans (if_neg (by omega)))
                  go_wp2_with (at_builtin; have hba := Bw.alloc (Bw.refl wr) (.cells #[.int .i64 gn] 3); replace O1 := Lib.hid (own_bw O1.out hba); replace HW := Lib.hid (HW.out.trans hba); clear hba; refine wpList_append_int1 rfl (.tmp 111) (.tmp 113) _ rfl BB 3 Tryd.underlying22 infoInt _ l1 gn rfl O1.out _ rfl (by simp [go_sem]) (by have := HLN.out; omega) (by have := HW.out.size; have := HB.out; simp only [World.size_alloc] at *; omega) ?_; intro v8 w8 hown hgr; replace HW := Lib.hid (bw_grownN HB.out HW.out O1.out hgr); replace O1 := Lib.hid hown; clear hown hgr d2 d3 d4; have d2 := HW.out.cell' HD2.out)
                  go_roundg (13 - (i + 1))
                  case measure => omega
                  case rel => exact ⟨i + 1, by omega, by omega, by go_num, by rw [HA.out.2]; go_num, HW, Lib.hid (by rw [HT.out, HRV2.out]; exact O1.out)⟩
              · have h4z : ¬ (4 : Int) ≤ i := by omega
                have HRV2 := Lib.hid (HRV.out.trans (if_neg (by omega)))
                go_wp2_with (at_builtin; have hba := Bw.alloc (Bw.refl wr) (.cells #[.int .i64 gn] 3); replace O1 := Lib.hid (own_bw O1.out hba); replace HW := Lib.hid (HW.out.trans hba); clear hba; refine wpList_append_int1 rfl (.tmp 111) (.tmp 113) _ rfl BB 3 Tryd.underlying22 infoInt _ l1 gn rfl O1.out _ rfl (by simp [go_sem]) (by have := HLN.out; omega) (by have := HW.out.size; have := HB.out; simp only [World.size_alloc] at *; omega) ?_; intro v8 w8 hown hgr; replace HW := Lib.hid (bw_grownN HB.out HW.out O1.out hgr); replace O1 := Lib.hid hown; clear hown hgr d2 d3 d4; have d2 := HW.out.cell' HD2.out)
                go_roundg (13 - (i + 1))
                case measure => omega
                case rel => exact ⟨i + 1, by omega, by omega, by go_num, by rw [HA.out.2]; go_num, HW, Lib.hid (by rw [HT.out, HRV2.out]; exact O1.out)⟩
        · obtain rfl : i = 13 := by omega
          have hiz : ¬ ((13 : Nat) : Int) < 13 := by omega
          replace KX := Lib.hid (KX.out.bw HW.out)
          replace RX0 := Lib.hid (RX0.out.bw HW.out)
          replace HBW := Lib.hid (HBW.out.trans HW.out)
          have hrd := (own_rd O1.out (by rw [List.length_map, List.length_range]; decide)).1
          obtain ⟨b7, o7, c7, he7, hlt7, hc7⟩ := hrd.at (by rw [List.length_map, List.length_range]; decide)
          rw [List.length_map, List.length_range] at he7 hc7
          subst he7
          have HC7 := Lib.hid (show ∀ j, j < 13 → wa.cell? ⟨b7, o7 + j, none⟩ = some (.int .i64 (rv27 zs j)) from fun j hj => by have h9 := hc7 j hj; rw [getD_map13 _ j hj] at h9; exact h9)
          clear hrd hc7 hlt7 O1 HW
          have l0 : wa.cell? ⟨b7, o7, none⟩ = some (.int .i64 (rv27 zs 0)) := HC7.out 0 (by omega)
          have l1 := HC7.out 1 (by omega)
          have l2 := HC7.out 2 (by omega)
          have l3 := HC7.out 3 (by omega)
          have l4 := HC7.out 4 (by omega)
          have l5 := HC7.out 5 (by omega)
          have l6 := HC7.out 6 (by omega)
          have l7 := HC7.out 7 (by omega)
          have l8 := HC7.out 8 (by omega)
          have l9 := HC7.out 9 (by omega)
          have l10 := HC7.out 10 (by omega)
          have l11 := HC7.out 11 (by omega)
          have l12 := HC7.out 12 (by omega)
          have HRX := Lib.hid (show pgV (rv27 zs) = #[.int .i64 (rv27 zs 0), .int .i64 (rv27 zs 1), .int .i64 (rv27 zs 2), .int .i64 (rv27 zs 3), .int .i64 (rv27 zs 4), .int .i64 (rv27 zs 5), .int .i64 (rv27 zs 6), .int .i64 (rv27 zs 7), .int .i64 (rv27 zs 8), .int .i64 (rv27 zs 9), .int .i64 (rv27 zs 10), .int .i64 (rv27 zs 11), .int .i64 (rv27 zs 12)] from rfl)
          have HGO := Lib.hid (show errPg (rv27 zs) = 0 → rdGood27 t 4 zs from fun he => ⟨rfl, by omega, by omega, HQ4.out, HP.out, he⟩)
          have HBA := Lib.hid (show errPg (rv27 zs) ≠ 0 → ¬ rdGood27 t 4 zs from fun he h => he h.2.2.2.2.2)
          generalize errPg (rv27 zs) = er at *
          have HYR := Lib.hid (fun hn => (HYE.out hn))
          rw [HRX.out] at PK
          generalize rv27 zs 0 = p0 at *
          generalize rv27 zs 1 = p1 at *
          generalize rv27 zs 2 = p2 at *
          generalize rv27 zs 3 = p3 at *
          generalize rv27 zs 4 = p4 at *
          generalize rv27 zs 5 = p5 at *
          generalize rv27 zs 6 = p6 at *
          generalize rv27 zs 7 = p7 at *
          generalize rv27 zs 8 = p8 at *
          generalize rv27 zs 9 = p9 at *
          generalize rv27 zs 10 = p10 at *
          generalize rv27 zs 11 = p11 at *
          generalize rv27 zs 12 = p12 at *
          obtain ⟨ub, hub⟩ : ∃ ub, ub = wa := ⟨_, rfl⟩
          subst hub
          go_upto_region 23 with fail
          refine wp_region_held_drew (S := Bw ub) (by kernel_rfl) (Bw.drew (Bw.refl _)) (fun hS => ?_)
          generalize World.drew _ = wd at hS ⊢
          refine take1 (i := 0) (some 121) rfl rfl (by kernel_rfl) (by kernel_rfl) (by kernel_rfl) (fun _ _ _ _ h => h) rfl hS ?_
          apply Exists.intro
          apply And.intro
          · intro W9 hW9; skip; go_simp; try with_reducible rfl
          simp only [Act.put, List.setIfInBounds_toArray, List.set_cons_zero, List.set_cons_succ]
          refine take1 (i := 1) (some 122) rfl rfl (by kernel_rfl) (by kernel_rfl) (by kernel_rfl) (fun _ _ _ _ h => h) rfl hS ?_
          apply Exists.intro
          apply And.intro
          · intro W9 hW9; skip; go_simp; try with_reducible rfl
          simp only [Act.put, List.setIfInBounds_toArray, List.set_cons_zero, List.set_cons_succ]
          refine take1 (i := 2) (some 123) rfl rfl (by kernel_rfl) (by kernel_rfl) (by kernel_rfl) (fun _ _ _ _ h => h) rfl hS ?_
          refine Exists.intro (.int .i64 p0) ?_
          apply And.intro
          · intro W9 hW9; skip; have y9 := hW9.cell' l0; go_simp; (try with_reducible rfl); (try trivial)
          simp only [Act.put, List.setIfInBounds_toArray, List.set_cons_zero, List.set_cons_succ]
          refine take1 (i := 3) (some 124) rfl rfl (by kernel_rfl) (by kernel_rfl) (by kernel_rfl) (fun _ _ _ _ h => h) rfl hS ?_
          apply Exists.intro
          apply And.intro
          · intro W9 hW9; skip; go_simp; try with_reducible rfl
          simp only [Act.put, List.setIfInBounds_toArray, List.set_cons_zero, List.set_cons_succ]
          refine take1 (i := 4) (some 125) rfl rfl (by kernel_rfl) (by kernel_rfl) (by kernel_rfl) (fun _ _ _ _ h => h) rfl hS ?_
          apply Exists.intro
          apply And.intro
          · intro W9 hW9; skip; go_simp; try with_reducible rfl
          simp only [Act.put, List.setIfInBounds_toArray, List.set_cons_zero, List.set_cons_succ]
          refine take1 (i := 5) (some 126) rfl rfl (by kernel_rfl) (by kernel_rfl) (by kernel_rfl) (fun _ _ _ _ h => h) rfl hS ?_
          refine Exists.intro (.int .i64 p1) ?_
          apply And.intro
          · intro W9 hW9; skip; have y9 := hW9.cell' l1; go_simp; (try with_reducible rfl); (try trivial)
          simp only [Act.put, List.setIfInBounds_toArray, List.set_cons_zero, List.set_cons_succ]
          refine take1 (i := 6) (some 127) rfl rfl (by kernel_rfl) (by kernel_rfl) (by kernel_rfl) (fun _ _ _ _ h => h) rfl hS ?_
          apply Exists.intro
          apply And.intro
          · intro W9 hW9; skip; go_simp; try with_reducible rfl
          simp only [Act.put, List.setIfInBounds_toArray, List.set_cons_zero, List.set_cons_succ]
          refine take1 (i := 7) (some 128) rfl rfl (by kernel_rfl) (by kernel_rfl) (by kernel_rfl) (fun _ _ _ _ h => h) rfl hS ?_
          apply Exists.intro
          apply And.intro
          · intro W9 hW9; skip; go_simp; try with_reducible rfl
          simp only [Act.put, List.setIfInBounds_toArray, List.set_cons_zero, List.set_cons_succ]
          refine take1 (i := 8) (some 129) rfl rfl (by kernel_rfl) (by kernel_rfl) (by kernel_rfl) (fun _ _ _ _ h => h) rfl hS ?_
          refine Exists.intro (.int .i64 p2) ?_
          apply And.intro
          · intro W9 hW9; skip; have y9 := hW9.cell' l2; go_simp; (try with_reducible rfl); (try trivial)
          simp only [Act.put, List.setIfInBounds_toArray, List.set_cons_zero, List.set_cons_succ]
          refine take1 (i := 9) (some 130) rfl rfl (by kernel_rfl) (by kernel_rfl) (by kernel_rfl) (fun _ _ _ _ h => h) rfl hS ?_
          apply Exists.intro
          apply And.intro
          · intro W9 hW9; skip; go_simp; try with_reducible rfl
          simp only [Act.put, List.setIfInBounds_toArray, List.set_cons_zero, List.set_cons_succ]
          refine take1 (i := 10) (some 131) rfl rfl (by kernel_rfl) (by kernel_rfl) (by kernel_rfl) (fun _ _ _ _ h => h) rfl hS ?_
          apply Exists.intro
          apply And.intro
          · intro W9 hW9; skip; go_simp; try with_reducible rfl
          simp only [Act.put, List.setIfInBounds_toArray, List.set_cons_zero, List.set_cons_succ]
          refine take1 (i := 11) (some 132) rfl rfl (by kernel_rfl) (by kernel_rfl) (by kernel_rfl) (fun _ _ _ _ h => h) rfl hS ?_
          refine Exists.intro (.int .i64 p3) ?_
          apply And.intro
          · intro W9 hW9; skip; have y9 := hW9.cell' l3; go_simp; (try with_reducible rfl); (try trivial)
          simp only [Act.put, List.setIfInBounds_toArray, List.set_cons_zero, List.set_cons_succ]
          refine take1 (i := 12) (some 133) rfl rfl (by kernel_rfl) (by kernel_rfl) (by kernel_rfl) (fun _ _ _ _ h => h) rfl hS ?_
          apply Exists.intro
          apply And.intro
          · intro W9 hW9; skip; go_simp; try with_reducible rfl
          simp only [Act.put, List.setIfInBounds_toArray, List.set_cons_zero, List.set_cons_succ]
          refine take1 (i := 13) (some 134) rfl rfl (by kernel_rfl) (by kernel_rfl) (by kernel_rfl) (fun _ _ _ _ h => h) rfl hS ?_
          apply Exists.intro
          apply And.intro
          · intro W9 hW9; skip; go_simp; try with_reducible rfl
          simp only [Act.put, List.setIfInBounds_toArray, List.set_cons_zero, List.set_cons_succ]
          refine take1 (i := 14) (some 135) rfl rfl (by kernel_rfl) (by kernel_rfl) (by kernel_rfl) (fun _ _ _ _ h => h) rfl hS ?_
          refine Exists.intro (.int .i64 p4) ?_
          apply And.intro
          · intro W9 hW9; skip; have y9 := hW9.cell' l4; go_simp; (try with_reducible rfl); (try trivial)
          simp only [Act.put, List.setIfInBounds_toArray, List.set_cons_zero, List.set_cons_succ]
          refine take1 (i := 15) (some 136) rfl rfl (by kernel_rfl) (by kernel_rfl) (by kernel_rfl) (fun _ _ _ _ h => h) rfl hS ?_
          apply Exists.intro
          apply And.intro
          · intro W9 hW9; skip; go_simp; try with_reducible rfl
          simp only [Act.put, List.setIfInBounds_toArray, List.set_cons_zero, List.set_cons_succ]
          refine take1 (i := 16) (some 137) rfl rfl (by kernel_rfl) (by kernel_rfl) (by kernel_rfl) (fun _ _ _ _ h => h) rfl hS ?_
          apply Exists.intro
          apply And.intro
          · intro W9 hW9; skip; go_simp; try with_reducible rfl
          simp only [Act.put, List.setIfInBounds_toArray, List.set_cons_zero, List.set_cons_succ]
          refine take1 (i := 17) (some 138) rfl rfl (by kernel_rfl) (by kernel_rfl) (by kernel_rfl) (fun _ _ _ _ h => h) rfl hS ?_
          refine Exists.intro (.int .i64 p5) ?_
          apply And.intro
          · intro W9 hW9; skip; have y9 := hW9.cell' l5; go_simp; (try with_reducible rfl); (try trivial)
          simp only [Act.put, List.setIfInBounds_toArray, List.set_cons_zero, List.set_cons_succ]
          refine take1 (i := 18) (some 139) rfl rfl (by kernel_rfl) (by kernel_rfl) (by kernel_rfl) (fun _ _ _ _ h => h) rfl hS ?_
          apply Exists.intro
          apply And.intro
          · intro W9 hW9; skip; go_simp; try with_reducible rfl
          simp only [Act.put, List.setIfInBounds_toArray, List.set_cons_zero, List.set_cons_succ]
          refine take1 (i := 19) (some 140) rfl rfl (by kernel_rfl) (by kernel_rfl) (by kernel_rfl) (fun _ _ _ _ h => h) rfl hS ?_
          apply Exists.intro
          apply And.intro
          · intro W9 hW9; skip; go_simp; try with_reducible rfl
          simp only [Act.put, List.setIfInBounds_toArray, List.set_cons_zero, List.set_cons_succ]
          refine take1 (i := 20) (some 141) rfl rfl (by kernel_rfl) (by kernel_rfl) (by kernel_rfl) (fun _ _ _ _ h => h) rfl hS ?_
          refine Exists.intro (.int .i64 p6) ?_
          apply And.intro
          · intro W9 hW9; skip; have y9 := hW9.cell' l6; go_simp; (try with_reducible rfl); (try trivial)
          simp only [Act.put, List.setIfInBounds_toArray, List.set_cons_zero, List.set_cons_succ]
          refine take1 (i := 21) (some 142) rfl rfl (by kernel_rfl) (by kernel_rfl) (by kernel_rfl) (fun _ _ _ _ h => h) rfl hS ?_
          apply Exists.intro
          apply And.intro
          · intro W9 hW9; skip; go_simp; try with_reducible rfl
          simp only [Act.put, List.setIfInBounds_toArray, List.set_cons_zero, List.set_cons_succ]
          refine take1 (i := 22) (some 143) rfl rfl (by kernel_rfl) (by kernel_rfl) (by kernel_rfl) (fun _ _ _ _ h => h) rfl hS ?_
          apply Exists.intro
          apply And.intro
          · intro W9 hW9; skip; go_simp; try with_reducible rfl
          simp only [Act.put, List.setIfInBounds_toArray, List.set_cons_zero, List.set_cons_succ]
          refine take1 (i := 23) (some 144) rfl rfl (by kernel_rfl) (by kernel_rfl) (by kernel_rfl) (fun _ _ _ _ h => h) rfl hS ?_
          apply Exists.intro
          apply And.intro
          · intro W9 hW9; skip; go_simp; try with_reducible rfl
          simp only [Act.put, List.setIfInBounds_toArray, List.set_cons_zero, List.set_cons_succ]
          refine take1 (i := 24) (some 145) rfl rfl (by kernel_rfl) (by kernel_rfl) (by kernel_rfl) (fun _ _ _ _ h => h) rfl hS ?_
          refine Exists.intro (.int .i64 p7) ?_
          apply And.intro
          · intro W9 hW9; skip; have y9 := hW9.cell' l7; go_simp; (try with_reducible rfl); (try trivial)
          simp only [Act.put, List.setIfInBounds_toArray, List.set_cons_zero, List.set_cons_succ]
          refine take1 (i := 25) (some 146) rfl rfl (by kernel_rfl) (by kernel_rfl) (by kernel_rfl) (fun _ _ _ _ h => h) rfl hS ?_
          apply Exists.intro
          apply And.intro
          · intro W9 hW9; skip; go_simp; try with_reducible rfl
          simp only [Act.put, List.setIfInBounds_toArray, List.set_cons_zero, List.set_cons_succ]
          refine take1 (i := 26) (some 147) rfl rfl (by kernel_rfl) (by kernel_rfl) (by kernel_rfl) (fun _ _ _ _ h => h) rfl hS ?_
          apply Exists.intro
          apply And.intro
          · intro W9 hW9; skip; go_simp; try with_reducible rfl
          simp only [Act.put, List.setIfInBounds_toArray, List.set_cons_zero, List.set_cons_succ]
          refine take1 (i := 27) (some 148) rfl rfl (by kernel_rfl) (by kernel_rfl) (by kernel_rfl) (fun _ _ _ _ h => h) rfl hS ?_
          refine Exists.intro (.int .i64 p8) ?_
          apply And.intro
          · intro W9 hW9; skip; have y9 := hW9.cell' l8; go_simp; (try with_reducible rfl); (try trivial)
          simp only [Act.put, List.setIfInBounds_toArray, List.set_cons_zero, List.set_cons_succ]
          refine take1 (i := 28) (some 149) rfl rfl (by kernel_rfl) (by kernel_rfl) (by kernel_rfl) (fun _ _ _ _ h => h) rfl hS ?_
          apply Exists.intro
          apply And.intro
          · intro W9 hW9; skip; go_simp; try with_reducible rfl
          simp only [Act.put, List.setIfInBounds_toArray, List.set_cons_zero, List.set_cons_succ]
          refine take1 (i := 29) (some 150) rfl rfl (by kernel_rfl) (by kernel_rfl) (by kernel_rfl) (fun _ _ _ _ h => h) rfl hS ?_
          apply Exists.intro
          apply And.intro
          · intro W9 hW9; skip; go_simp; try with_reducible rfl
          simp only [Act.put, List.setIfInBounds_toArray, List.set_cons_zero, List.set_cons_succ]
          refine take1 (i := 30) (some 151) rfl rfl (by kernel_rfl) (by kernel_rfl) (by kernel_rfl) (fun _ _ _ _ h => h) rfl hS ?_
          refine Exists.intro (.int .i64 p9) ?_
          apply And.intro
          · intro W9 hW9; skip; have y9 := hW9.cell' l9; go_simp; (try with_reducible rfl); (try trivial)
          simp only [Act.put, List.setIfInBounds_toArray, List.set_cons_zero, List.set_cons_succ]
          refine take1 (i := 31) (some 152) rfl rfl (by kernel_rfl) (by kernel_rfl) (by kernel_rfl) (fun _ _ _ _ h => h) rfl hS ?_
          apply Exists.intro
          apply And.intro
          · intro W9 hW9; skip; go_simp; try with_reducible rfl
          simp only [Act.put, List.setIfInBounds_toArray, List.set_cons_zero, List.set_cons_succ]
          refine take1 (i := 32) (some 153) rfl rfl (by kernel_rfl) (by kernel_rfl) (by kernel_rfl) (fun _ _ _ _ h => h) rfl hS ?_
          apply Exists.intro
          apply And.intro
          · intro W9 hW9; skip; go_simp; try with_reducible rfl
          simp only [Act.put, List.setIfInBounds_toArray, List.set_cons_zero, List.set_cons_succ]
          refine take1 (i := 33) (some 154) rfl rfl (by kernel_rfl) (by kernel_rfl) (by kernel_rfl) (fun _ _ _ _ h => h) rfl hS ?_
          apply Exists.intro
          apply And.intro
          · intro W9 hW9; skip; go_simp; try with_reducible rfl
          simp only [Act.put, List.setIfInBounds_toArray, List.set_cons_zero, List.set_cons_succ]
          refine take1 (i := 34) (some 155) rfl rfl (by kernel_rfl) (by kernel_rfl) (by kernel_rfl) (fun _ _ _ _ h => h) rfl hS ?_
          refine Exists.intro (.int .i64 p10) ?_
          apply And.intro
          · intro W9 hW9; skip; have y9 := hW9.cell' l10; go_simp; (try with_reducible rfl); (try trivial)
          simp only [Act.put, List.setIfInBounds_toArray, List.set_cons_zero, List.set_cons_succ]
          refine take1 (i := 35) (some 156) rfl rfl (by kernel_rfl) (by kernel_rfl) (by kernel_rfl) (fun _ _ _ _ h => h) rfl hS ?_
          apply Exists.intro
          apply And.intro
          · intro W9 hW9; skip; go_simp; try with_reducible rfl
          simp only [Act.put, List.setIfInBounds_toArray, List.set_cons_zero, List.set_cons_succ]
          refine take1 (i := 36) (some 157) rfl rfl (by kernel_rfl) (by kernel_rfl) (by kernel_rfl) (fun _ _ _ _ h => h) rfl hS ?_
          apply Exists.intro
          apply And.intro
          · intro W9 hW9; skip; go_simp; try with_reducible rfl
          simp only [Act.put, List.setIfInBounds_toArray, List.set_cons_zero, List.set_cons_succ]
          refine take1 (i := 37) (some 158) rfl rfl (by kernel_rfl) (by kernel_rfl) (by kernel_rfl) (fun _ _ _ _ h => h) rfl hS ?_
          refine Exists.intro (.int .i64 p11) ?_
          apply And.intro
          · intro W9 hW9; skip; have y9 := hW9.cell' l11; go_simp; (try with_reducible rfl); (try trivial)
          simp only [Act.put, List.setIfInBounds_toArray, List.set_cons_zero, List.set_cons_succ]
          refine take1 (i := 38) (some 159) rfl rfl (by kernel_rfl) (by kernel_rfl) (by kernel_rfl) (fun _ _ _ _ h => h) rfl hS ?_
          apply Exists.intro
          apply And.intro
          · intro W9 hW9; skip; go_simp; try with_reducible rfl
          simp only [Act.put, List.setIfInBounds_toArray, List.set_cons_zero, List.set_cons_succ]
          refine take1 (i := 39) (some 160) rfl rfl (by kernel_rfl) (by kernel_rfl) (by kernel_rfl) (fun _ _ _ _ h => h) rfl hS ?_
          apply Exists.intro
          apply And.intro
          · intro W9 hW9; skip; go_simp; try with_reducible rfl
          simp only [Act.put, List.setIfInBounds_toArray, List.set_cons_zero, List.set_cons_succ]
          refine take1 (i := 40) (some 161) rfl rfl (by kernel_rfl) (by kernel_rfl) (by kernel_rfl) (fun _ _ _ _ h => h) rfl hS ?_
          refine Exists.intro (.int .i64 p12) ?_
          apply And.intro
          · intro W9 hW9; skip; have y9 := hW9.cell' l12; go_simp; (try with_reducible rfl); (try trivial)
          simp only [Act.put, List.setIfInBounds_toArray, List.set_cons_zero, List.set_cons_succ]
          refine take1 (i := 41) (some 162) rfl rfl (by kernel_rfl) (by kernel_rfl) (by kernel_rfl) (fun _ _ _ _ h => h) rfl hS ?_
          apply Exists.intro
          apply And.intro
          · intro W9 hW9; skip; go_simp; try with_reducible rfl
          simp only [Act.put, List.setIfInBounds_toArray, List.set_cons_zero, List.set_cons_succ]
          refine take1 (i := 42) (some 163) rfl rfl (by kernel_rfl) (by kernel_rfl) (by kernel_rfl) (fun _ _ _ _ h => h) rfl hS ?_
          refine Exists.intro (.agg #[.int .i64 p0, .int .i64 p1, .int .i64 p2, .int .i64 p3, .int .i64 p4, .int .i64 p5, .int .i64 p6, .int .i64 p7, .int .i64 p8, .int .i64 p9, .int .i64 p10, .int .i64 p11, .int .i64 p12]) ?_
          apply And.intro
          · intro W9 hW9; skip; go_simp; (try go_bits); (try with_reducible rfl); (try trivial)
          simp only [Act.put, List.setIfInBounds_toArray, List.set_cons_zero, List.set_cons_succ]
          refine wpAnyH_ready (rs := [43]) (by kernel_rfl) (by simp) ?_
          refine AllReadyH.cons rfl (fun K hK => ?_) ?_
          rw [if_pos (by rfl)]
          refine wp_alloc_new28 27 rfl (some 12) rfl _ (zeroPgA _) ?_
          intro g12 w6 hg9 hN hbw
          simp only [Act.put, List.setIfInBounds_toArray, List.set_cons_zero, List.set_cons_succ]
          have K12 := Lib.hid hN
          have H12 := Lib.hid (Nat.le_trans hS.size hg9)
          clear hN
          refine hK.out _ _ (hS.trans hbw) (fun hS => ?_)
          clear hK K
          clear hbw hg9
          refine wpAnyH_ready (rs := [44]) (by kernel_rfl) (by simp) ?_
          refine AllReadyH.cons rfl (fun K hK => ?_) ?_
          rw [if_pos (by rfl)]
          refine wp_store_row0 27 _ _ rfl rfl g12 #[.int .i64 p0, .int .i64 p1, .int .i64 p2, .int .i64 p3, .int .i64 p4, .int .i64 p5, .int .i64 p6, .int .i64 p7, .int .i64 p8, .int .i64 p9, .int .i64 p10, .int .i64 p11, .int .i64 p12] rfl rfl 27 #[.int .i64 0, .int .i64 0, .int .i64 0, .int .i64 0, .int .i64 0, .int .i64 0, .int .i64 0, .int .i64 0, .int .i64 0, .int .i64 0, .int .i64 0, .int .i64 0, .int .i64 0] K12.out (by kernel_rfl) (by simp) (by simp [Value.oneCell']) ?_
          replace K12 := Lib.hid (K12.out.row #[.int .i64 p0, .int .i64 p1, .int .i64 p2, .int .i64 p3, .int .i64 p4, .int .i64 p5, .int .i64 p6, .int .i64 p7, .int .i64 p8, .int .i64 p9, .int .i64 p10, .int .i64 p11, .int .i64 p12])
          have hst := Bw.setRow hS H12.out #[.int .i64 p0, .int .i64 p1, .int .i64 p2, .int .i64 p3, .int .i64 p4, .int .i64 p5, .int .i64 p6, .int .i64 p7, .int .i64 p8, .int .i64 p9, .int .i64 p10, .int .i64 p11, .int .i64 p12]
          refine hK.out _ _ hst (fun hS => ?_)
          clear hK K
          clear hst
          refine wpAnyH_done (by kernel_rfl) ?_ _
          rotate_left
          exact AllReadyH.nil
          exact AllReadyH.nil
          all_goals
            replace RX0 := Lib.hid (RX0.out.bw hS)
            replace HBW := Lib.hid (HBW.out.trans hS)
            have HSG : Hid ((Tryd.prog.info? 27).map (·.size) = some (#[.int .i64 p0, .int .i64 p1, .int .i64 p2, .int .i64 p3, .int .i64 p4, .int .i64 p5, .int .i64 p6, .int .i64 p7, .int .i64 p8, .int .i64 p9, .int .i64 p10, .int .i64 p11, .int .i64 p12] : Array Value).size) := Lib.hid (by kernel_rfl)
            clear hS
            by_cases q6 : er = 0
            case neg =>
              have q6b : (er != 0) = true := by simpa using q6
              have HN2 := Lib.hid (HBA.out q6)
              clear q6
              go_wp2_with (first | ((with_reducible refine at_load 27 (.tmp 12) ?_); refine wpList_load_row rfl 27 _ rfl g12 rfl 27 #[.int .i64 p0, .int .i64 p1, .int .i64 p2, .int .i64 p3, .int .i64 p4, .int .i64 p5, .int .i64 p6, .int .i64 p7, .int .i64 p8, .int .i64 p9, .int .i64 p10, .int .i64 p11, .int .i64 p12] (0, 0) _ K12.out Tryd.underlying27 rfl HSG.out ?_) | (go_at_call 23; (with_reducible refine Calls.mono (PK.out _) ?_); rintro e1 w5 ⟨rfl, hb1⟩; replace K12 := Lib.hid (K12.out.bw hb1); replace RX0 := Lib.hid (RX0.out.bw hb1); replace HBW := Lib.hid (HBW.out.trans hb1); clear hb1) | ((with_reducible refine at_store 27 (.tmp 2) (.tmp 167) ?_); refine wpList_store_row rfl 27 (.tmp 2) (.tmp 167) rfl (g + 1) #[.int .i64 0, .int .i64 0, .int .i64 0, .int .i64 0, .int .i64 0, .int .i64 0, .int .i64 0, .int .i64 0, .int .i64 0, .int .i64 0, .int .i64 0, .int .i64 0, .int .i64 0] rfl rfl 27 _ RX0.out (by kernel_rfl) rfl (by simp [Value.oneCell', pgV]) ?_))
              have F9 := RX0.out.row #[.int .i64 0, .int .i64 0, .int .i64 0, .int .i64 0, .int .i64 0, .int .i64 0, .int .i64 0, .int .i64 0, .int .i64 0, .int .i64 0, .int .i64 0, .int .i64 0, .int .i64 0]
              have B9 := Bw.setRow HBW.out (show w.heap.size ≤ g + 1 by have := HG.out; omega) #[.int .i64 0, .int .i64 0, .int .i64 0, .int .i64 0, .int .i64 0, .int .i64 0, .int .i64 0, .int .i64 0, .int .i64 0, .int .i64 0, .int .i64 0, .int .i64 0, .int .i64 0]
              refine bodyPost_ret (v := .tuple #[.agg #[.int .i64 0, .int .i64 0, .int .i64 0, .int .i64 0, .int .i64 0, .int .i64 0, .int .i64 0, .int .i64 0, .int .i64 0, .int .i64 0, .int .i64 0, .int .i64 0, .int .i64 0], .int .i64 3]) ?_ rfl ⟨?_, B9⟩
              · exact results_two_row (p := 2) (u := 3) rfl _ _ (g + 1) _ rfl (run_loadVar_row _ (g + 1) 27 27 #[.int .i64 0, .int .i64 0, .int .i64 0, .int .i64 0, .int .i64 0, .int .i64 0, .int .i64 0, .int .i64 0, .int .i64 0, .int .i64 0, .int .i64 0, .int .i64 0, .int .i64 0] (0, 0) _ F9 Tryd.underlying27 rfl (by kernel_rfl))
              · have h9 := HNO.out (HN2.out)
                rw [h9.1, h9.2]
                rfl
            case pos =>
              have HY2 := Lib.hid (HYE.out (HGO.out q6))
              subst q6
              go_wp2_with (first | ((with_reducible refine at_load 27 (.tmp 12) ?_); refine wpList_load_row rfl 27 _ rfl g12 rfl 27 #[.int .i64 p0, .int .i64 p1, .int .i64 p2, .int .i64 p3, .int .i64 p4, .int .i64 p5, .int .i64 p6, .int .i64 p7, .int .i64 p8, .int .i64 p9, .int .i64 p10, .int .i64 p11, .int .i64 p12] (0, 0) _ K12.out Tryd.underlying27 rfl HSG.out ?_) | (go_at_call 23; (with_reducible refine Calls.mono (PK.out _) ?_); rintro e1 w5 ⟨rfl, hb1⟩; replace K12 := Lib.hid (K12.out.bw hb1); replace RX0 := Lib.hid (RX0.out.bw hb1); replace HBW := Lib.hid (HBW.out.trans hb1); clear hb1) | ((with_reducible refine at_store 27 (.tmp 2) (.tmp 168) ?_); refine wpList_store_row rfl 27 (.tmp 2) (.tmp 168) rfl (g + 1) #[.int .i64 p0, .int .i64 p1, .int .i64 p2, .int .i64 p3, .int .i64 p4, .int .i64 p5, .int .i64 p6, .int .i64 p7, .int .i64 p8, .int .i64 p9, .int .i64 p10, .int .i64 p11, .int .i64 p12] rfl rfl 27 _ RX0.out (by kernel_rfl) rfl (by simp [Value.oneCell', pgV]) ?_))
              have F9 := RX0.out.row #[.int .i64 p0, .int .i64 p1, .int .i64 p2, .int .i64 p3, .int .i64 p4, .int .i64 p5, .int .i64 p6, .int .i64 p7, .int .i64 p8, .int .i64 p9, .int .i64 p10, .int .i64 p11, .int .i64 p12]
              have B9 := Bw.setRow HBW.out (show w.heap.size ≤ g + 1 by have := HG.out; omega) #[.int .i64 p0, .int .i64 p1, .int .i64 p2, .int .i64 p3, .int .i64 p4, .int .i64 p5, .int .i64 p6, .int .i64 p7, .int .i64 p8, .int .i64 p9, .int .i64 p10, .int .i64 p11, .int .i64 p12]
              refine bodyPost_ret (v := .tuple #[.agg #[.int .i64 p0, .int .i64 p1, .int .i64 p2, .int .i64 p3, .int .i64 p4, .int .i64 p5, .int .i64 p6, .int .i64 p7, .int .i64 p8, .int .i64 p9, .int .i64 p10, .int .i64 p11, .int .i64 p12], .int .i64 0]) ?_ rfl ⟨?_, B9⟩
              · exact results_two_row (p := 2) (u := 3) rfl _ _ (g + 1) _ rfl (run_loadVar_row _ (g + 1) 27 27 #[.int .i64 p0, .int .i64 p1, .int .i64 p2, .int .i64 p3, .int .i64 p4, .int .i64 p5, .int .i64 p6, .int .i64 p7, .int .i64 p8, .int .i64 p9, .int .i64 p10, .int .i64 p11, .int .i64 p12] (0, 0) _ F9 Tryd.underlying27 rfl (by kernel_rfl))
              · rw [HY2.out.1, HY2.out.2, HRX.out]
end Go.Proofs.Sky

namespace Go.Proofs.Sky
open Go Go.RowKit Go.Shelf
set_option maxHeartbeats 4000000
set_option maxRecDepth 8000
/-! chapter 27: AlmanacReads -/
theorem reads27 (t k : Int) (zs : List Int) (a : Option Addr) (c : Nat) (hc : zs.length ≤ c ∧ c ≤ 9223372036854775807) : ∃ (RX : Nat → Int) (RE : Int), (∀ W, WdAt W → RdI W (.slice a zs.length c) zs → Calls Tryd.prog 25 #[.agg #[.int .i64 t, .int .i64 k, .slice a zs.length c]] W fun e w' => e = .returned (.tuple #[.agg (pgV RX), .int .i64 RE]) ∧ Bw W w') ∧ (∀ W, RdI W (.slice a zs.length c) zs → Calls Tryd.prog 26 #[.agg #[.int .i64 t, .int .i64 k, .slice a zs.length c]] W fun e w' => e = .returned (.tuple #[.agg (pgV RX), .int .i64 RE]) ∧ Bw W w') := by
  by_cases h : rdGood27 t k zs
  · exact ⟨rv27 zs, 0, fun W hW hv => AlRead_any t k zs a c W hW _ _ (.inl ⟨h, rfl, rfl⟩) hv hc, fun W hv => RRead27_main t k zs a c W _ _ hv hc (.inl ⟨h, rfl, rfl⟩)⟩
  · exact ⟨fun _ => 0, 3, fun W hW hv => AlRead_any t k zs a c W hW _ _ (.inr ⟨h, rfl, rfl⟩) hv hc, fun W hv => RRead27_main t k zs a c W _ _ hv hc (.inr ⟨h, rfl, rfl⟩)⟩
theorem law_reads27 (t k : Int) (zs : List Int) (v : Value) (w : World) (hw : WdAt w) (hv : RdI w v zs) (hcd : Capd v) : Calls Tryd.prog 5 #[.agg #[.int .i64 t, .int .i64 k, v]] w fun e w' => e = .returned (.bool true) ∧ Bw w w' := by
  obtain ⟨a, c, rfl⟩ := hv.form
  obtain ⟨RX, RE, h1, h2⟩ := reads27 t k zs a c (hcd _ _ _ rfl)
  have HWD := Lib.hid hw
  have HV := Lib.hid hv
  have RD := Lib.hid h1
  have RR := Lib.hid h2
  have AW := Lib.hid (fun W h => awake27_any W h)
  have KX := Lib.hid (Blk.new w 40 #[.int .i64 t, .int .i64 k, .slice a zs.length c])
  have HW := Lib.hid (Bw.alloc (Bw.refl w) (.cells #[.int .i64 t, .int .i64 k, .slice a zs.length c] 40))
  have HQ := Lib.hid (fun W => eqPg_self RX W)
  have hg := fun W a b op p q => eqPg_guard a b op p q W
  have HSZ : Hid ((Tryd.prog.info? 27).map (·.size) = some (pgV RX).size) := Lib.hid (by kernel_rfl)
  have HPX : Hid ((pgV RX).all (·.oneCell') = true) := Lib.hid (by simp [Value.oneCell', pgV])
  have HN13 : Hid ((#[.int .i64 0, .int .i64 0, .int .i64 0, .int .i64 0, .int .i64 0, .int .i64 0, .int .i64 0, .int .i64 0, .int .i64 0, .int .i64 0, .int .i64 0, .int .i64 0, .int .i64 0] : Array Value).size = (pgV RX).size) := Lib.hid rfl
  obtain ⟨A, hA⟩ : ∃ A, A = pgV RX := ⟨_, rfl⟩
  rw [← hA] at RD RR HQ HSZ HPX HN13
  have HF2 := Lib.hid (show (#[.int .i64 t, .int .i64 k, .slice a zs.length c] : Array Value)[2]? = some (.slice a zs.length c) from rfl)
  have HFZ : Hid ((Tryd.prog.info? 40).map (·.size) = some (#[.int .i64 t, .int .i64 k, .slice a zs.length c] : Array Value).size) := Lib.hid (by kernel_rfl)
  obtain ⟨FA, hFA⟩ : ∃ FA, FA = (#[.int .i64 t, .int .i64 k, .slice a zs.length c] : Array Value) := ⟨_, rfl⟩
  rw [← hFA] at RD RR KX HW HF2 HFZ ⊢
  clear hA hFA h1 h2 hw hv hcd
  obtain ⟨g, hgg⟩ : ∃ g, w.heap.size = g := ⟨_, rfl⟩
  rw [hgg] at KX
  go_enter Tryd.func5, Tryd.ntmps5
  go_upto_region 1 with fail
  obtain ⟨W0, hW0⟩ : ∃ W0, w.alloc (.cells FA 40) = W0 := ⟨_, rfl⟩
  rw [hW0] at KX HW ⊢
  clear hW0 hgg
  have c2 := KX.out.cell HF2.out
  by_cases q1 : 300 < zs.length
  · have q1z : (300 : Int) < zs.length := by omega
    go_wp2_with (go_at_call 15; (with_reducible refine Calls.mono (AW.out _ (HWD.out.bw HW.out)) ?_); rintro e1 w9 ⟨rfl, hb1⟩; replace HW := Lib.hid (HW.out.trans hb1); clear hb1)
    go_ret
    exact ⟨rfl, HW.out⟩
  have q1z : ¬ (300 : Int) < zs.length := by omega
  go_upto_region 3 with fail
  clear c2
  replace HV := Lib.hid (HV.out.mono HW.out)
  go_upto_region 4 with (first | ((with_reducible refine at_load 40 (.tmp 1) ?_); refine wpList_load_row rfl 40 _ rfl g rfl 40 FA (0, 0) _ KX.out Tryd.underlying40 rfl HFZ.out ?_) | (go_at_call 25; (with_reducible refine Calls.mono (RD.out _ (HWD.out.bw HW.out) HV.out) ?_); rintro e1 w0 ⟨rfl, hb1⟩; replace KX := Lib.hid (KX.out.bw hb1); replace HV := Lib.hid (HV.out.mono hb1); replace HW := Lib.hid (HW.out.trans hb1); clear hb1) | ((with_reducible refine at_store 27 (.tmp 3) (.tmp 15) ?_); refine wpList_store_row rfl 27 (.tmp 3) (.tmp 15) rfl w0.heap.size A rfl rfl 27 #[.int .i64 0, .int .i64 0, .int .i64 0, .int .i64 0, .int .i64 0, .int .i64 0, .int .i64 0, .int .i64 0, .int .i64 0, .int .i64 0, .int .i64 0, .int .i64 0, .int .i64 0] (Blk.new w0 27 #[.int .i64 0, .int .i64 0, .int .i64 0, .int .i64 0, .int .i64 0, .int .i64 0, .int .i64 0, .int .i64 0, .int .i64 0, .int .i64 0, .int .i64 0, .int .i64 0, .int .i64 0]) HSZ.out HN13.out HPX.out ?_))
  obtain ⟨g3, hg1⟩ : ∃ g3, w0.heap.size = g3 := ⟨_, rfl⟩
  have hb1 := Bw.setRow (Bw.alloc (Bw.refl w0) (.cells #[.int .i64 0, .int .i64 0, .int .i64 0, .int .i64 0, .int .i64 0, .int .i64 0, .int .i64 0, .int .i64 0, .int .i64 0, .int .i64 0, .int .i64 0, .int .i64 0, .int .i64 0] 27)) (Nat.le_of_eq hg1) A
  have K3 := Lib.hid ((Blk.new w0 27 #[.int .i64 0, .int .i64 0, .int .i64 0, .int .i64 0, .int .i64 0, .int .i64 0, .int .i64 0, .int .i64 0, .int .i64 0, .int .i64 0, .int .i64 0, .int .i64 0, .int .i64 0]).row A)
  rw [hg1] at K3 ⊢
  replace KX := Lib.hid (KX.out.bw hb1); replace HV := Lib.hid (HV.out.mono hb1); replace HW := Lib.hid (HW.out.trans hb1); clear hb1
  generalize World.setRow (World.alloc w0 _) _ _ = z0 at *
  clear hg1
  go_upto_region 5 with (first | ((with_reducible refine at_load 40 (.tmp 1) ?_); refine wpList_load_row rfl 40 _ rfl g rfl 40 FA (0, 0) _ KX.out Tryd.underlying40 rfl HFZ.out ?_) | (go_at_call 26; (with_reducible refine Calls.mono (RR.out _ HV.out) ?_); rintro e1 w1 ⟨rfl, hb1⟩; replace KX := Lib.hid (KX.out.bw hb1); replace K3 := Lib.hid (K3.out.bw hb1); replace HV := Lib.hid (HV.out.mono hb1); replace HW := Lib.hid (HW.out.trans hb1); clear hb1) | ((with_reducible refine at_store 27 (.tmp 5) (.tmp 20) ?_); refine wpList_store_row rfl 27 (.tmp 5) (.tmp 20) rfl w1.heap.size A rfl rfl 27 #[.int .i64 0, .int .i64 0, .int .i64 0, .int .i64 0, .int .i64 0, .int .i64 0, .int .i64 0, .int .i64 0, .int .i64 0, .int .i64 0, .int .i64 0, .int .i64 0, .int .i64 0] (Blk.new w1 27 #[.int .i64 0, .int .i64 0, .int .i64 0, .int .i64 0, .int .i64 0, .int .i64 0, .int .i64 0, .int .i64 0, .int .i64 0, .int .i64 0, .int .i64 0, .int .i64 0, .int .i64 0]) HSZ.out HN13.out HPX.out ?_))
  obtain ⟨g5, hg1⟩ : ∃ g5, w1.heap.size = g5 := ⟨_, rfl⟩
  have hb1 := Bw.setRow (Bw.alloc (Bw.refl w1) (.cells #[.int .i64 0, .int .i64 0, .int .i64 0, .int .i64 0, .int .i64 0, .int .i64 0, .int .i64 0, .int .i64 0, .int .i64 0, .int .i64 0, .int .i64 0, .int .i64 0, .int .i64 0] 27)) (Nat.le_of_eq hg1) A
  have K5 := Lib.hid ((Blk.new w1 27 #[.int .i64 0, .int .i64 0, .int .i64 0, .int .i64 0, .int .i64 0, .int .i64 0, .int .i64 0, .int .i64 0, .int .i64 0, .int .i64 0, .int .i64 0, .int .i64 0, .int .i64 0]).row A)
  rw [hg1] at K5 ⊢
  replace KX := Lib.hid (KX.out.bw hb1); replace K3 := Lib.hid (K3.out.bw hb1); replace HV := Lib.hid (HV.out.mono hb1); replace HW := Lib.hid (HW.out.trans hb1); clear hb1
  generalize World.setRow (World.alloc w1 _) _ _ = z1 at *
  clear hg1
  have hq2 := HQ.out
  go_wp2_with (first | (go_at_call 15; (with_reducible refine Calls.mono (AW.out _ (HWD.out.bw HW.out)) ?_); rintro e1 w9 ⟨rfl, hb1⟩; replace HW := Lib.hid (HW.out.trans hb1); clear hb1) | ((with_reducible refine at_load 27 (.tmp 3) ?_); refine wpList_load_roww28 27 _ rfl g3 rfl 27 A (0, 0) _ K3.out Tryd.underlying27 rfl HSZ.out (by rfl) ?_) | ((with_reducible refine at_load 27 (.tmp 5) ?_); refine wpList_load_roww28 27 _ rfl g5 rfl 27 A (0, 0) _ K5.out Tryd.underlying27 rfl HSZ.out (by rfl) ?_))
  go_ret
  exact ⟨rfl, HW.out⟩
end Go.Proofs.Sky
