/-
  lemmas for the theorems of this claim. No conditions beyond those written in the statements.
-/
import Derived.Test.YtiohoallllkagaaWA31
import Derived.Deep.Cut
set_option linter.unusedVariables false
set_option linter.unusedSimpArgs false
set_option linter.unnecessarySimpa false
namespace Go.Proofs.Sky
open Go Go.RowKit Go.Shelf
set_option maxHeartbeats 4000000
set_option maxRecDepth 4000
/-! chapter 31: the reference's Read -/
theorem RRead_main (t k : Int) (zs : List Int) (a : Option Addr) (c : Nat) (w : World) (RX : Nat → Int) (RE : Int)
    (hv : RdI w (.slice a zs.length c) zs) (hc : zs.length ≤ c ∧ c ≤ 9223372036854775807)
    (h : (rdGood t k zs ∧ RX = rv zs ∧ RE = 0) ∨ (¬ rdGood t k zs ∧ RX = (fun _ => 0) ∧ RE = 3)) :
    Calls Try.prog 21 #[.agg #[.int .i64 t, .int .i64 k, .slice a zs.length c]] w fun e w' => e = .returned (.tuple #[.agg (atV RX), .int .i64 RE]) ∧ Bw w w' := by
  have HV := Lib.hid hv
  clear hv
  have HNO : Hid (¬ rdGood t k zs → RX = (fun _ => 0) ∧ RE = 3) := Lib.hid (fun hn => by rcases h with h | h; exact absurd h.1 hn; exact h.2)
  have HYE : Hid (rdGood t k zs → RX = rv zs ∧ RE = 0) := Lib.hid (fun hn => by rcases h with h | h; exact h.2; exact absurd hn h.1)
  clear h
  have WT := Lib.hid (fun W v h => rwithin_any 0 131071 [t] v W h)
  have WA := Lib.hid (fun W v h => rwithin_any 0 1 zs v W h)
  have WD := Lib.hid (fun W v h => rwithin_any 0 0 (zs.drop 187) v W h)
  have hT : [t].all (inR 0 131071) = decide (0 ≤ t ∧ t < 131072) := by simp only [List.all_cons, List.all_nil, inR, Bool.and_true]; rw [decide_eq_decide]; omega
  rw [hT] at WT
  clear hT
  have HAL := Lib.hid (fun (h : zs.all (inR 0 1) = true) p => all01 h p)
  have RB := Lib.hid (fun i W => rbits_any i W)
  have HBW := Lib.hid (Bw.alloc (Bw.alloc (Bw.refl w) (.cells #[.int .i64 t, .int .i64 k, .slice a zs.length c] 38)) (.cells #[.int .i64 0, .int .i64 0, .int .i64 0, .int .i64 0, .int .i64 0, .int .i64 0, .int .i64 0, .int .i64 0, .int .i64 0] 25))
  have KX := Lib.hid ((Blk.new w 38 #[.int .i64 t, .int .i64 k, .slice a zs.length c]).alloc (.cells #[.int .i64 0, .int .i64 0, .int .i64 0, .int .i64 0, .int .i64 0, .int .i64 0, .int .i64 0, .int .i64 0, .int .i64 0] 25))
  have RX0 : Hid (Blk ((w.alloc (.cells #[.int .i64 t, .int .i64 k, .slice a zs.length c] 38)).alloc (.cells #[.int .i64 0, .int .i64 0, .int .i64 0, .int .i64 0, .int .i64 0, .int .i64 0, .int .i64 0, .int .i64 0, .int .i64 0] 25)) (w.heap.size + 1) 25 #[.int .i64 0, .int .i64 0, .int .i64 0, .int .i64 0, .int .i64 0, .int .i64 0, .int .i64 0, .int .i64 0, .int .i64 0]) := Lib.hid (by have h9 := Blk.new (w.alloc (.cells #[.int .i64 t, .int .i64 k, .slice a zs.length c] 38)) 25 #[.int .i64 0, .int .i64 0, .int .i64 0, .int .i64 0, .int .i64 0, .int .i64 0, .int .i64 0, .int .i64 0, .int .i64 0]; simpa using h9)
  go_enter Try.func21, Try.ntmps21
  go_upto_region 1 with fail
  obtain ⟨W0, hW0⟩ : ∃ W0, ((w.alloc (.cells #[.int .i64 t, .int .i64 k, .slice a zs.length c] 38)).alloc (.cells #[.int .i64 0, .int .i64 0, .int .i64 0, .int .i64 0, .int .i64 0, .int .i64 0, .int .i64 0, .int .i64 0, .int .i64 0] 25)) = W0 := ⟨_, rfl⟩
  rw [hW0] at HBW KX RX0 ⊢
  clear hW0
  have c0 : W0.cell? ⟨w.heap.size, 0, none⟩ = some (.int .i64 t) := KX.out.cell rfl
  have c1 : W0.cell? ⟨w.heap.size, 1, none⟩ = some (.int .i64 k) := KX.out.cell rfl
  have c2 : W0.cell? ⟨w.heap.size, 2, none⟩ = some (.slice a zs.length c) := KX.out.cell rfl
  by_cases q1 : k = 5
  case neg =>
    have q1b : (k != 5) = true := by simpa using q1
    go_wp2_with (first | ((with_reducible refine at_store 25 (.tmp 2) (.tmp 32) ?_); refine wpList_store_row rfl 25 (.tmp 2) (.tmp 32) rfl (w.heap.size + 1) #[.int .i64 0, .int .i64 0, .int .i64 0, .int .i64 0, .int .i64 0, .int .i64 0, .int .i64 0, .int .i64 0, .int .i64 0] rfl rfl 25 _ RX0.out (by kernel_rfl) rfl (by simp [Value.oneCell']) ?_))
    have F3 := RX0.out.row #[.int .i64 0, .int .i64 0, .int .i64 0, .int .i64 0, .int .i64 0, .int .i64 0, .int .i64 0, .int .i64 0, .int .i64 0]
    have B3 := Bw.setRow HBW.out (show w.heap.size ≤ w.heap.size + 1 by omega) #[.int .i64 0, .int .i64 0, .int .i64 0, .int .i64 0, .int .i64 0, .int .i64 0, .int .i64 0, .int .i64 0, .int .i64 0]
    have m0 := F3.cell (j := 0) (v := .int .i64 (0)) rfl
    have m1 := F3.cell (j := 1) (v := .int .i64 (0)) rfl
    have m2 := F3.cell (j := 2) (v := .int .i64 (0)) rfl
    have m3 := F3.cell (j := 3) (v := .int .i64 (0)) rfl
    have m4 := F3.cell (j := 4) (v := .int .i64 (0)) rfl
    have m5 := F3.cell (j := 5) (v := .int .i64 (0)) rfl
    have m6 := F3.cell (j := 6) (v := .int .i64 (0)) rfl
    have m7 := F3.cell (j := 7) (v := .int .i64 (0)) rfl
    have m8 := F3.cell (j := 8) (v := .int .i64 (0)) rfl
    generalize World.setRow W0 _ _ = WF at m0 m1 m2 m3 m4 m5 m6 m7 m8 B3 ⊢
    clear F3
    refine bodyPost_ret (v := .tuple #[.agg #[.int .i64 0, .int .i64 0, .int .i64 0, .int .i64 0, .int .i64 0, .int .i64 0, .int .i64 0, .int .i64 0, .int .i64 0], .int .i64 3]) ?_ rfl ⟨?_, B3⟩
    · simp [results, Try.results21, go_sem, m0, m1, m2, m3, m4, m5, m6, m7, m8]
    · have h9 := HNO.out (by unfold rdGood; omega); rw [h9.1, h9.2]; rfl
  subst q1
  by_cases q2 : 0 ≤ t ∧ t < 131072
  case neg =>
    rw [decide_eq_false q2] at WT
    go_wp2_with (first | (go_at_call 32; (with_reducible refine Calls.mono (WT.out _ _ ?_) ?_); (focus exact RdI.litN _ _ _ [t] _ (by simp) (by rfl) (by simp)); rintro e1 w1 ⟨rfl, hb9⟩; replace hb9 := (Bw.alloc (Bw.refl W0) (.cells #[.int .i64 t] 3)).trans hb9; replace KX := Lib.hid (KX.out.bw hb9); replace RX0 := Lib.hid (RX0.out.bw hb9); replace HBW := Lib.hid (HBW.out.trans hb9); clear hb9; clear c0 c1 c2; have c0 : w1.cell? ⟨w.heap.size, 0, none⟩ = some (.int .i64 t) := KX.out.cell rfl; have c1 : w1.cell? ⟨w.heap.size, 1, none⟩ = some (.int .i64 5) := KX.out.cell rfl; have c2 : w1.cell? ⟨w.heap.size, 2, none⟩ = some (.slice a zs.length c) := KX.out.cell rfl) | ((with_reducible refine at_store 25 (.tmp 2) (.tmp 32) ?_); refine wpList_store_row rfl 25 (.tmp 2) (.tmp 32) rfl (w.heap.size + 1) #[.int .i64 0, .int .i64 0, .int .i64 0, .int .i64 0, .int .i64 0, .int .i64 0, .int .i64 0, .int .i64 0, .int .i64 0] rfl rfl 25 _ RX0.out (by kernel_rfl) rfl (by simp [Value.oneCell']) ?_))
    have F3 := RX0.out.row #[.int .i64 0, .int .i64 0, .int .i64 0, .int .i64 0, .int .i64 0, .int .i64 0, .int .i64 0, .int .i64 0, .int .i64 0]
    have B3 := Bw.setRow HBW.out (show w.heap.size ≤ w.heap.size + 1 by omega) #[.int .i64 0, .int .i64 0, .int .i64 0, .int .i64 0, .int .i64 0, .int .i64 0, .int .i64 0, .int .i64 0, .int .i64 0]
    have m0 := F3.cell (j := 0) (v := .int .i64 (0)) rfl
    have m1 := F3.cell (j := 1) (v := .int .i64 (0)) rfl
    have m2 := F3.cell (j := 2) (v := .int .i64 (0)) rfl
    have m3 := F3.cell (j := 3) (v := .int .i64 (0)) rfl
    have m4 := F3.cell (j := 4) (v := .int .i64 (0)) rfl
    have m5 := F3.cell (j := 5) (v := .int .i64 (0)) rfl
    have m6 := F3.cell (j := 6) (v := .int .i64 (0)) rfl
    have m7 := F3.cell (j := 7) (v := .int .i64 (0)) rfl
    have m8 := F3.cell (j := 8) (v := .int .i64 (0)) rfl
    generalize World.setRow w1 _ _ = WF at m0 m1 m2 m3 m4 m5 m6 m7 m8 B3 ⊢
    clear F3
    refine bodyPost_ret (v := .tuple #[.agg #[.int .i64 0, .int .i64 0, .int .i64 0, .int .i64 0, .int .i64 0, .int .i64 0, .int .i64 0, .int .i64 0, .int .i64 0], .int .i64 3]) ?_ rfl ⟨?_, B3⟩
    · simp [results, Try.results21, go_sem, m0, m1, m2, m3, m4, m5, m6, m7, m8]
    · have h9 := HNO.out (by unfold rdGood; omega); rw [h9.1, h9.2]; rfl
  rw [decide_eq_true q2] at WT
  by_cases q4 : zs.length = 206
  case neg =>
    have q4b : ((zs.length : Int) != 206) = true := by simp; omega
    go_wp2_with (first | (go_at_call 32; (with_reducible refine Calls.mono (WT.out _ _ ?_) ?_); (focus exact RdI.litN _ _ _ [t] _ (by simp) (by rfl) (by simp)); rintro e1 w1 ⟨rfl, hb9⟩; replace hb9 := (Bw.alloc (Bw.refl W0) (.cells #[.int .i64 t] 3)).trans hb9; replace KX := Lib.hid (KX.out.bw hb9); replace RX0 := Lib.hid (RX0.out.bw hb9); replace HBW := Lib.hid (HBW.out.trans hb9); clear hb9; clear c0 c1 c2; have c0 : w1.cell? ⟨w.heap.size, 0, none⟩ = some (.int .i64 t) := KX.out.cell rfl; have c1 : w1.cell? ⟨w.heap.size, 1, none⟩ = some (.int .i64 5) := KX.out.cell rfl; have c2 : w1.cell? ⟨w.heap.size, 2, none⟩ = some (.slice a zs.length c) := KX.out.cell rfl) | ((with_reducible refine at_store 25 (.tmp 2) (.tmp 32) ?_); refine wpList_store_row rfl 25 (.tmp 2) (.tmp 32) rfl (w.heap.size + 1) #[.int .i64 0, .int .i64 0, .int .i64 0, .int .i64 0, .int .i64 0, .int .i64 0, .int .i64 0, .int .i64 0, .int .i64 0] rfl rfl 25 _ RX0.out (by kernel_rfl) rfl (by simp [Value.oneCell']) ?_))
    have F3 := RX0.out.row #[.int .i64 0, .int .i64 0, .int .i64 0, .int .i64 0, .int .i64 0, .int .i64 0, .int .i64 0, .int .i64 0, .int .i64 0]
    have B3 := Bw.setRow HBW.out (show w.heap.size ≤ w.heap.size + 1 by omega) #[.int .i64 0, .int .i64 0, .int .i64 0, .int .i64 0, .int .i64 0, .int .i64 0, .int .i64 0, .int .i64 0, .int .i64 0]
    have m0 := F3.cell (j := 0) (v := .int .i64 (0)) rfl
    have m1 := F3.cell (j := 1) (v := .int .i64 (0)) rfl
    have m2 := F3.cell (j := 2) (v := .int .i64 (0)) rfl
    have m3 := F3.cell (j := 3) (v := .int .i64 (0)) rfl
    have m4 := F3.cell (j := 4) (v := .int .i64 (0)) rfl
    have m5 := F3.cell (j := 5) (v := .int .i64 (0)) rfl
    have m6 := F3.cell (j := 6) (v := .int .i64 (0)) rfl
    have m7 := F3.cell (j := 7) (v := .int .i64 (0)) rfl
    have m8 := F3.cell (j := 8) (v := .int .i64 (0)) rfl
    generalize World.setRow w1 _ _ = WF at m0 m1 m2 m3 m4 m5 m6 m7 m8 B3 ⊢
    clear F3
    refine bodyPost_ret (v := .tuple #[.agg #[.int .i64 0, .int .i64 0, .int .i64 0, .int .i64 0, .int .i64 0, .int .i64 0, .int .i64 0, .int .i64 0, .int .i64 0], .int .i64 3]) ?_ rfl ⟨?_, B3⟩
    · simp [results, Try.results21, go_sem, m0, m1, m2, m3, m4, m5, m6, m7, m8]
    · have h9 := HNO.out (by unfold rdGood; omega); rw [h9.1, h9.2]; rfl
  have q4b : ((zs.length : Int) != 206) = false := by simp; omega
  have HL := Lib.hid q4
  clear q4
  cases hall : zs.all (inR 0 1) with
  | false =>
    rw [hall] at WA
    have HQ := Lib.hid hall
    clear hall
    go_wp2_with (first | (go_at_call 32; (with_reducible refine Calls.mono (WT.out _ _ ?_) ?_); (focus exact RdI.litN _ _ _ [t] _ (by simp) (by rfl) (by simp)); rintro e1 w1 ⟨rfl, hb9⟩; replace hb9 := (Bw.alloc (Bw.refl W0) (.cells #[.int .i64 t] 3)).trans hb9; replace KX := Lib.hid (KX.out.bw hb9); replace RX0 := Lib.hid (RX0.out.bw hb9); replace HBW := Lib.hid (HBW.out.trans hb9); clear hb9; clear c0 c1 c2; have c0 : w1.cell? ⟨w.heap.size, 0, none⟩ = some (.int .i64 t) := KX.out.cell rfl; have c1 : w1.cell? ⟨w.heap.size, 1, none⟩ = some (.int .i64 5) := KX.out.cell rfl; have c2 : w1.cell? ⟨w.heap.size, 2, none⟩ = some (.slice a zs.length c) := KX.out.cell rfl) | (go_at_call 32; (with_reducible refine Calls.mono (WA.out _ _ ?_) ?_); (focus exact (HV.out.mono HBW.out)); rintro e1 w2 ⟨rfl, hb9⟩; replace KX := Lib.hid (KX.out.bw hb9); replace RX0 := Lib.hid (RX0.out.bw hb9); replace HBW := Lib.hid (HBW.out.trans hb9); clear hb9; clear c0 c1 c2; have c0 : w2.cell? ⟨w.heap.size, 0, none⟩ = some (.int .i64 t) := KX.out.cell rfl; have c1 : w2.cell? ⟨w.heap.size, 1, none⟩ = some (.int .i64 5) := KX.out.cell rfl; have c2 : w2.cell? ⟨w.heap.size, 2, none⟩ = some (.slice a zs.length c) := KX.out.cell rfl) | ((with_reducible refine at_store 25 (.tmp 2) (.tmp 32) ?_); refine wpList_store_row rfl 25 (.tmp 2) (.tmp 32) rfl (w.heap.size + 1) #[.int .i64 0, .int .i64 0, .int .i64 0, .int .i64 0, .int .i64 0, .int .i64 0, .int .i64 0, .int .i64 0, .int .i64 0] rfl rfl 25 _ RX0.out (by kernel_rfl) rfl (by simp [Value.oneCell']) ?_))
    have F3 := RX0.out.row #[.int .i64 0, .int .i64 0, .int .i64 0, .int .i64 0, .int .i64 0, .int .i64 0, .int .i64 0, .int .i64 0, .int .i64 0]
    have B3 := Bw.setRow HBW.out (show w.heap.size ≤ w.heap.size + 1 by omega) #[.int .i64 0, .int .i64 0, .int .i64 0, .int .i64 0, .int .i64 0, .int .i64 0, .int .i64 0, .int .i64 0, .int .i64 0]
    have m0 := F3.cell (j := 0) (v := .int .i64 (0)) rfl
    have m1 := F3.cell (j := 1) (v := .int .i64 (0)) rfl
    have m2 := F3.cell (j := 2) (v := .int .i64 (0)) rfl
    have m3 := F3.cell (j := 3) (v := .int .i64 (0)) rfl
    have m4 := F3.cell (j := 4) (v := .int .i64 (0)) rfl
    have m5 := F3.cell (j := 5) (v := .int .i64 (0)) rfl
    have m6 := F3.cell (j := 6) (v := .int .i64 (0)) rfl
    have m7 := F3.cell (j := 7) (v := .int .i64 (0)) rfl
    have m8 := F3.cell (j := 8) (v := .int .i64 (0)) rfl
    generalize World.setRow w2 _ _ = WF at m0 m1 m2 m3 m4 m5 m6 m7 m8 B3 ⊢
    clear F3
    refine bodyPost_ret (v := .tuple #[.agg #[.int .i64 0, .int .i64 0, .int .i64 0, .int .i64 0, .int .i64 0, .int .i64 0, .int .i64 0, .int .i64 0, .int .i64 0], .int .i64 3]) ?_ rfl ⟨?_, B3⟩
    · simp [results, Try.results21, go_sem, m0, m1, m2, m3, m4, m5, m6, m7, m8]
    · have h9 := HNO.out (by unfold rdGood; intro h; have h1 := HQ.out; rw [h.2.2.2.2.1] at h1; cases h1); rw [h9.1, h9.2]; rfl
  | true =>
    rw [hall] at WA
    have HQ := Lib.hid hall
    replace HAL := Lib.hid (HAL.out hall)
    clear hall
    obtain ⟨E, hE⟩ : ∃ E, E = errA (rv zs) := ⟨_, rfl⟩
    have HE := Lib.hid hE
    have CK := Lib.hid (fun W => rCheck_any (rv zs) W)
    rw [← hE] at CK
    clear hE
    obtain ⟨ND, hND⟩ : ∃ ND, ND = (zs.drop 187).all (inR 0 0) := ⟨_, rfl⟩
    have HD := Lib.hid hND
    rw [← hND] at WD
    clear hND
    have HRV := Lib.hid (show ∀ i, rv zs i = if i < 7 ∧ zs.getD (atB i) 0 = 1 then getN zs (atB i) (nB i) - 2097152 else getN zs (atB i) (nB i) from fun i => rfl)
    go_upto_region 3 with (first | (go_at_call 32; (with_reducible refine Calls.mono (WT.out _ _ ?_) ?_); (focus exact RdI.litN _ _ _ [t] _ (by simp) (by rfl) (by simp)); rintro e1 w1 ⟨rfl, hb9⟩; replace hb9 := (Bw.alloc (Bw.refl W0) (.cells #[.int .i64 t] 3)).trans hb9; replace KX := Lib.hid (KX.out.bw hb9); replace RX0 := Lib.hid (RX0.out.bw hb9); replace HBW := Lib.hid (HBW.out.trans hb9); clear hb9; clear c0 c1 c2; have c0 : w1.cell? ⟨w.heap.size, 0, none⟩ = some (.int .i64 t) := KX.out.cell rfl; have c1 : w1.cell? ⟨w.heap.size, 1, none⟩ = some (.int .i64 5) := KX.out.cell rfl; have c2 : w1.cell? ⟨w.heap.size, 2, none⟩ = some (.slice a zs.length c) := KX.out.cell rfl) | (go_at_call 32; (with_reducible refine Calls.mono (WA.out _ _ ?_) ?_); (focus exact (HV.out.mono HBW.out)); rintro e1 w2 ⟨rfl, hb9⟩; replace KX := Lib.hid (KX.out.bw hb9); replace RX0 := Lib.hid (RX0.out.bw hb9); replace HBW := Lib.hid (HBW.out.trans hb9); clear hb9; clear c0 c1 c2; have c0 : w2.cell? ⟨w.heap.size, 0, none⟩ = some (.int .i64 t) := KX.out.cell rfl; have c1 : w2.cell? ⟨w.heap.size, 1, none⟩ = some (.int .i64 5) := KX.out.cell rfl; have c2 : w2.cell? ⟨w.heap.size, 2, none⟩ = some (.slice a zs.length c) := KX.out.cell rfl))
    obtain ⟨db, dof, dc, he, hdb, hdc⟩ := (HV.out.mono HBW.out).at (by have := HL.out; omega)
    injection he with he1 he2 he3
    subst he1 he3
    clear he2 hdb
    have HDC := Lib.hid hdc
    clear hdc
    rw [HL.out] at HV c2
    clear q4b
    obtain ⟨BB, hBB⟩ : ∃ BB, w2.heap.size = BB := ⟨_, rfl⟩
    have HB := Lib.hid hBB
    clear hBB
    clear WT WA
    go_wp2
    go_loopg [4, 5, 6] 9 (fun gg s4 s5 s6 wr => ∃ i : Nat, i ≤ 9 ∧ 9 - i ≤ gg ∧ s6 = .int .i64 i ∧ s5 = .int .i64 (atB i : Nat) ∧ Hid (Bw w2 wr) ∧ Hid (wr.ownsRow BB 3 1 s4 ((List.range i).map (rv zs)).length (((List.range i).map (rv zs)).map (Value.int .i64))))
    case atStart => exact ⟨0, by omega, by omega, rfl, rfl, Lib.hid (Bw.refl _), Lib.hid (World.ownsRow_nil _ _ _ _)⟩
    case round =>
      obtain ⟨i, hi, hgg, rfl, rfl, HW, O1⟩ := hrel
      obtain ⟨wa, rfl⟩ : ∃ wa, wa = wr := ⟨_, rfl⟩
      by_cases hlt : i < 9
      · have hiz : (i : Int) < 9 := by omega
        have hA : atB i + nB i ≤ 187 ∧ 1 ≤ nB i ∧ nB i ≤ 21 ∧ (i < 7 → nB i = 21) := by unfold atB nB; split <;> omega
        have HA2 := Lib.hid (show atB (i + 1) = atB i + nB i by unfold atB nB; split <;> split <;> omega)
        have RBI := Lib.hid (RB.out i)
        have HRI := HRV.out i
        have HT := Lib.hid (show (List.range (i + 1)).map (rv zs) = (List.range i).map (rv zs) ++ [rv zs i] by rw [List.range_succ, List.map_append]; rfl)
        have HLN := Lib.hid (show ((List.range i).map (rv zs)).length = i by rw [List.length_map, List.length_range])
        generalize (List.range i).map (rv zs) = l1 at O1 HT HLN
        obtain ⟨A4, c4, hv4⟩ := own_form2 O1.out
        subst hv4
        generalize rv zs i = RI at HT HRI
        generalize atB i = A at hA HA2 HRI
        generalize nB i = N at hA HA2 HRI RBI
        have HRI2 := Lib.hid HRI
        clear HRI
        go_wp2
        go_loopg [7, 8] 21 (fun gg s7 s8 wx => ∃ r : Nat, r ≤ N ∧ N - r ≤ gg ∧ s8 = .int .i64 r ∧ s7 = .int .i64 (getN zs A r) ∧ Hid (Bw w2 wx) ∧ Hid (wx.ownsRow BB 3 1 (.slice A4 l1.length c4) l1.length (l1.map (Value.int .i64))))
        case atStart => exact ⟨0, by omega, by omega, rfl, rfl, HW, O1⟩
        case round =>
          clear HW O1
          obtain ⟨r, hr9, hgg2, rfl, rfl, HW, O1⟩ := hrel
          obtain ⟨wx, rfl⟩ : ∃ wx, wx = wr := ⟨_, rfl⟩
          have hgb := getN_bd zs A r (fun i _ => HAL.out _)
          have hpw : (2 : Int) ^ r ≤ 2097152 := by have := pow_le r 21 (by omega); simpa using this
          have HGN := Lib.hid (show getN zs A (r + 1) = 2 * getN zs A r + zs.getD (A + r) 0 from rfl)
          by_cases hrN : r < N
          · have hrz : (r : Int) < N := by omega
            have z0 := HW.out.cell' (HDC.out (A + r) (by have := HL.out; omega))
            have hbit := HAL.out (A + r)
            generalize zs.getD (A + r) 0 = z at z0 hbit HGN
            generalize getN zs A r = m at hgb HGN
            have kk := KX.out.bw HW.out
            have c2x : wx.cell? ⟨w.heap.size, 2, none⟩ = some (.slice (some ⟨db, dof, none⟩) 206 c) := by have h9 := kk.cell (j := 2) rfl; rw [HL.out] at h9; exact h9
            have har : ((A : Int) + r).toNat = A + r := by omega
            have har2 : (A : Int) + r < 206 := by omega
            clear kk
            go_wp2_with (go_at_call 41; (with_reducible refine Calls.mono (RBI.out _) ?_); rintro e4 w4 ⟨rfl, hb9⟩; replace HW := Lib.hid (HW.out.trans hb9); replace O1 := Lib.hid (own_bw O1.out hb9); replace c2x := hb9.cell' c2x; replace z0 := hb9.cell' z0; clear hb9)
            go_roundg (N - (r + 1))
            case measure => omega
            case rel => exact ⟨r + 1, by omega, by omega, by go_num, by rw [HGN.out], HW, O1⟩
          · obtain rfl : r = N := by omega
            have hrz : ¬ (r : Int) < r := by omega
            have z0 := HW.out.cell' (HDC.out A (by have := HL.out; omega))
            have kk := KX.out.bw HW.out
            have c2x : wx.cell? ⟨w.heap.size, 2, none⟩ = some (.slice (some ⟨db, dof, none⟩) 206 c) := by have h9 := kk.cell (j := 2) rfl; rw [HL.out] at h9; exact h9
            clear kk
            have har : ((A : Int)).toNat = A := by omega
            have har2 : (A : Int) < 206 := by omega
            have HRJ := HRI2.out
            generalize zs.getD A 0 = z at z0 HRJ
            generalize getN zs A r = m at hgb HGN HRJ
            clear HGN
            by_cases h7 : i < 7
            · have h7z : (i : Int) < 7 := by omega
              by_cases hz1 : z = 1
              · subst hz1
                have HRK := Lib.hid (HRJ.trans (if_pos ⟨h7, rfl⟩))
                clear HRJ
                go_wp2_with (first | (go_at_call 41; (with_reducible refine Calls.mono (RBI.out _) ?_); rintro e4 w4 ⟨rfl, hb9⟩; replace HW := Lib.hid (HW.out.trans hb9); replace O1 := Lib.hid (own_bw O1.out hb9); (try replace c2x := hb9.cell' c2x); (try replace z0 := hb9.cell' z0); clear hb9) | (at_builtin; have hba := Bw.alloc (Bw.refl w4) (.cells #[.int .i64 (m - 2097152)] 3); replace O1 := Lib.hid (own_bw O1.out hba); replace HW := Lib.hid (HW.out.trans hba); clear hba; refine wpList_append_int1 rfl (.tmp 65) (.tmp 67) _ rfl BB 3 Try.underlying36 infoInt _ l1 (m - 2097152) rfl O1.out _ rfl (by simp [go_sem]) (by have := HLN.out; omega) (by have := HW.out.size; have := HB.out; simp only [World.size_alloc] at *; omega) ?_; intro v8 w8 hown hgr; replace HW := Lib.hid (bw_grownN HB.out HW.out O1.out hgr); replace O1 := Lib.hid hown; clear hown hgr; clear c2x z0))
                go_roundg (9 - (i + 1))
                case measure => omega
                case rel => exact ⟨i + 1, by omega, by omega, by go_num, by rw [HA2.out]; go_num, HW, Lib.hid (by rw [HT.out, HRK.out]; exact O1.out)⟩
              · have hz1b : (z == 1) = false := by simpa using hz1
                have HRK := Lib.hid (HRJ.trans (if_neg (fun h => hz1 h.2)))
                clear HRJ
                go_wp2_with (first | (go_at_call 41; (with_reducible refine Calls.mono (RBI.out _) ?_); rintro e4 w4 ⟨rfl, hb9⟩; replace HW := Lib.hid (HW.out.trans hb9); replace O1 := Lib.hid (own_bw O1.out hb9); (try replace c2x := hb9.cell' c2x); (try replace z0 := hb9.cell' z0); clear hb9) | (at_builtin; have hba := Bw.alloc (Bw.refl w4) (.cells #[.int .i64 (m)] 3); replace O1 := Lib.hid (own_bw O1.out hba); replace HW := Lib.hid (HW.out.trans hba); clear hba; refine wpList_append_int1 rfl (.tmp 65) (.tmp 67) _ rfl BB 3 Try.underlying36 infoInt _ l1 (m) rfl O1.out _ rfl (by simp [go_sem]) (by have := HLN.out; omega) (by have := HW.out.size; have := HB.out; simp only [World.size_alloc] at *; omega) ?_; intro v8 w8 hown hgr; replace HW := Lib.hid (bw_grownN HB.out HW.out O1.out hgr); replace O1 := Lib.hid hown; clear hown hgr; clear c2x z0))
                go_roundg (9 - (i + 1))
                case measure => omega
                case rel => exact ⟨i + 1, by omega, by omega, by go_num, by rw [HA2.out]; go_num, HW, Lib.hid (by rw [HT.out, HRK.out]; exact O1.out)⟩
            · have h7z : ¬ (i : Int) < 7 := by omega
              have HRK := Lib.hid (HRJ.trans (if_neg (fun h => h7 h.1)))
              clear HRJ
              go_wp2_with (first | (go_at_call 41; (with_reducible refine Calls.mono (RBI.out _) ?_); rintro e4 w4 ⟨rfl, hb9⟩; replace HW := Lib.hid (HW.out.trans hb9); replace O1 := Lib.hid (own_bw O1.out hb9); (try replace c2x := hb9.cell' c2x); (try replace z0 := hb9.cell' z0); clear hb9) | (at_builtin; have hba := Bw.alloc (Bw.refl w4) (.cells #[.int .i64 (m)] 3); replace O1 := Lib.hid (own_bw O1.out hba); replace HW := Lib.hid (HW.out.trans hba); clear hba; refine wpList_append_int1 rfl (.tmp 65) (.tmp 67) _ rfl BB 3 Try.underlying36 infoInt _ l1 (m) rfl O1.out _ rfl (by simp [go_sem]) (by have := HLN.out; omega) (by have := HW.out.size; have := HB.out; simp only [World.size_alloc] at *; omega) ?_; intro v8 w8 hown hgr; replace HW := Lib.hid (bw_grownN HB.out HW.out O1.out hgr); replace O1 := Lib.hid hown; clear hown hgr; clear c2x z0))
              go_roundg (9 - (i + 1))
              case measure => omega
              case rel => exact ⟨i + 1, by omega, by omega, by go_num, by rw [HA2.out]; go_num, HW, Lib.hid (by rw [HT.out, HRK.out]; exact O1.out)⟩
      · obtain rfl : i = 9 := by omega
        have hrd := (own_rd O1.out (by simp)).1
        obtain ⟨b4, o4, c4, hv4, _, hc4⟩ := hrd.at (by simp)
        have HLL := Lib.hid (show ((List.range 9).map (rv zs)).length = 9 by simp)
        subst hv4
        rw [HLL.out] at hc4 ⊢
        have r0 : wa.cell? ⟨b4, o4, none⟩ = some (.int .i64 (rv zs 0)) := by have h9 := hc4 0 (by omega); rw [getD_map9 (rv zs) 0 (by omega)] at h9; exact h9
        have r1 : wa.cell? ⟨b4, o4 + 1, none⟩ = some (.int .i64 (rv zs 1)) := by have h9 := hc4 1 (by omega); rw [getD_map9 (rv zs) 1 (by omega)] at h9; exact h9
        have r2 : wa.cell? ⟨b4, o4 + 2, none⟩ = some (.int .i64 (rv zs 2)) := by have h9 := hc4 2 (by omega); rw [getD_map9 (rv zs) 2 (by omega)] at h9; exact h9
        have r3 : wa.cell? ⟨b4, o4 + 3, none⟩ = some (.int .i64 (rv zs 3)) := by have h9 := hc4 3 (by omega); rw [getD_map9 (rv zs) 3 (by omega)] at h9; exact h9
        have r4 : wa.cell? ⟨b4, o4 + 4, none⟩ = some (.int .i64 (rv zs 4)) := by have h9 := hc4 4 (by omega); rw [getD_map9 (rv zs) 4 (by omega)] at h9; exact h9
        have r5 : wa.cell? ⟨b4, o4 + 5, none⟩ = some (.int .i64 (rv zs 5)) := by have h9 := hc4 5 (by omega); rw [getD_map9 (rv zs) 5 (by omega)] at h9; exact h9
        have r6 : wa.cell? ⟨b4, o4 + 6, none⟩ = some (.int .i64 (rv zs 6)) := by have h9 := hc4 6 (by omega); rw [getD_map9 (rv zs) 6 (by omega)] at h9; exact h9
        have r7 : wa.cell? ⟨b4, o4 + 7, none⟩ = some (.int .i64 (rv zs 7)) := by have h9 := hc4 7 (by omega); rw [getD_map9 (rv zs) 7 (by omega)] at h9; exact h9
        have r8 : wa.cell? ⟨b4, o4 + 8, none⟩ = some (.int .i64 (rv zs 8)) := by have h9 := hc4 8 (by omega); rw [getD_map9 (rv zs) 8 (by omega)] at h9; exact h9
        clear hc4 hrd O1
        replace KX := Lib.hid (KX.out.bw HW.out)
        replace RX0 := Lib.hid (RX0.out.bw HW.out)
        replace HBW := Lib.hid (HBW.out.trans HW.out)
        clear HW
        go_upto_region 17 with fail
        refine wp_region_held_drew (S := Bw wa) (by kernel_rfl) (Bw.drew (Bw.refl _)) (fun hS => ?_)
        generalize World.drew _ = wd at hS ⊢
        refine take1 (i := 0) (some 73) rfl rfl (by kernel_rfl) (by kernel_rfl) (by kernel_rfl) (fun _ _ _ _ h => h) rfl hS ?_
        apply Exists.intro
        apply And.intro
        · intro W9 hW9; have y0 := hW9.cell' r0; have y1 := hW9.cell' r1; have y2 := hW9.cell' r2; have y3 := hW9.cell' r3; have y4 := hW9.cell' r4; have y5 := hW9.cell' r5; have y6 := hW9.cell' r6; have y7 := hW9.cell' r7; have y8 := hW9.cell' r8; go_simp; try with_reducible rfl
        simp only [Act.put, List.setIfInBounds_toArray, List.set_cons_zero, List.set_cons_succ]
        refine take1 (i := 1) (some 74) rfl rfl (by kernel_rfl) (by kernel_rfl) (by kernel_rfl) (fun _ _ _ _ h => h) rfl hS ?_
        apply Exists.intro
        apply And.intro
        · intro W9 hW9; have y0 := hW9.cell' r0; have y1 := hW9.cell' r1; have y2 := hW9.cell' r2; have y3 := hW9.cell' r3; have y4 := hW9.cell' r4; have y5 := hW9.cell' r5; have y6 := hW9.cell' r6; have y7 := hW9.cell' r7; have y8 := hW9.cell' r8; go_simp; try with_reducible rfl
        simp only [Act.put, List.setIfInBounds_toArray, List.set_cons_zero, List.set_cons_succ]
        refine take1 (i := 2) (some 75) rfl rfl (by kernel_rfl) (by kernel_rfl) (by kernel_rfl) (fun _ _ _ _ h => h) rfl hS ?_
        apply Exists.intro
        apply And.intro
        · intro W9 hW9; have y0 := hW9.cell' r0; have y1 := hW9.cell' r1; have y2 := hW9.cell' r2; have y3 := hW9.cell' r3; have y4 := hW9.cell' r4; have y5 := hW9.cell' r5; have y6 := hW9.cell' r6; have y7 := hW9.cell' r7; have y8 := hW9.cell' r8; go_simp; try with_reducible rfl
        simp only [Act.put, List.setIfInBounds_toArray, List.set_cons_zero, List.set_cons_succ]
        refine take1 (i := 3) (some 76) rfl rfl (by kernel_rfl) (by kernel_rfl) (by kernel_rfl) (fun _ _ _ _ h => h) rfl hS ?_
        apply Exists.intro
        apply And.intro
        · intro W9 hW9; have y0 := hW9.cell' r0; have y1 := hW9.cell' r1; have y2 := hW9.cell' r2; have y3 := hW9.cell' r3; have y4 := hW9.cell' r4; have y5 := hW9.cell' r5; have y6 := hW9.cell' r6; have y7 := hW9.cell' r7; have y8 := hW9.cell' r8; go_simp; try with_reducible rfl
        simp only [Act.put, List.setIfInBounds_toArray, List.set_cons_zero, List.set_cons_succ]
        refine take1 (i := 4) (some 77) rfl rfl (by kernel_rfl) (by kernel_rfl) (by kernel_rfl) (fun _ _ _ _ h => h) rfl hS ?_
        apply Exists.intro
        apply And.intro
        · intro W9 hW9; have y0 := hW9.cell' r0; have y1 := hW9.cell' r1; have y2 := hW9.cell' r2; have y3 := hW9.cell' r3; have y4 := hW9.cell' r4; have y5 := hW9.cell' r5; have y6 := hW9.cell' r6; have y7 := hW9.cell' r7; have y8 := hW9.cell' r8; go_simp; try with_reducible rfl
        simp only [Act.put, List.setIfInBounds_toArray, List.set_cons_zero, List.set_cons_succ]
        refine take1 (i := 5) (some 78) rfl rfl (by kernel_rfl) (by kernel_rfl) (by kernel_rfl) (fun _ _ _ _ h => h) rfl hS ?_
        apply Exists.intro
        apply And.intro
        · intro W9 hW9; have y0 := hW9.cell' r0; have y1 := hW9.cell' r1; have y2 := hW9.cell' r2; have y3 := hW9.cell' r3; have y4 := hW9.cell' r4; have y5 := hW9.cell' r5; have y6 := hW9.cell' r6; have y7 := hW9.cell' r7; have y8 := hW9.cell' r8; go_simp; try with_reducible rfl
        simp only [Act.put, List.setIfInBounds_toArray, List.set_cons_zero, List.set_cons_succ]
        refine take1 (i := 6) (some 79) rfl rfl (by kernel_rfl) (by kernel_rfl) (by kernel_rfl) (fun _ _ _ _ h => h) rfl hS ?_
        apply Exists.intro
        apply And.intro
        · intro W9 hW9; have y0 := hW9.cell' r0; have y1 := hW9.cell' r1; have y2 := hW9.cell' r2; have y3 := hW9.cell' r3; have y4 := hW9.cell' r4; have y5 := hW9.cell' r5; have y6 := hW9.cell' r6; have y7 := hW9.cell' r7; have y8 := hW9.cell' r8; go_simp; try with_reducible rfl
        simp only [Act.put, List.setIfInBounds_toArray, List.set_cons_zero, List.set_cons_succ]
        refine take1 (i := 7) (some 80) rfl rfl (by kernel_rfl) (by kernel_rfl) (by kernel_rfl) (fun _ _ _ _ h => h) rfl hS ?_
        apply Exists.intro
        apply And.intro
        · intro W9 hW9; have y0 := hW9.cell' r0; have y1 := hW9.cell' r1; have y2 := hW9.cell' r2; have y3 := hW9.cell' r3; have y4 := hW9.cell' r4; have y5 := hW9.cell' r5; have y6 := hW9.cell' r6; have y7 := hW9.cell' r7; have y8 := hW9.cell' r8; go_simp; try with_reducible rfl
        simp only [Act.put, List.setIfInBounds_toArray, List.set_cons_zero, List.set_cons_succ]
        refine take1 (i := 8) (some 81) rfl rfl (by kernel_rfl) (by kernel_rfl) (by kernel_rfl) (fun _ _ _ _ h => h) rfl hS ?_
        apply Exists.intro
        apply And.intro
        · intro W9 hW9; have y0 := hW9.cell' r0; have y1 := hW9.cell' r1; have y2 := hW9.cell' r2; have y3 := hW9.cell' r3; have y4 := hW9.cell' r4; have y5 := hW9.cell' r5; have y6 := hW9.cell' r6; have y7 := hW9.cell' r7; have y8 := hW9.cell' r8; go_simp; try with_reducible rfl
        simp only [Act.put, List.setIfInBounds_toArray, List.set_cons_zero, List.set_cons_succ]
        refine take1 (i := 9) (some 82) rfl rfl (by kernel_rfl) (by kernel_rfl) (by kernel_rfl) (fun _ _ _ _ h => h) rfl hS ?_
        apply Exists.intro
        apply And.intro
        · intro W9 hW9; have y0 := hW9.cell' r0; have y1 := hW9.cell' r1; have y2 := hW9.cell' r2; have y3 := hW9.cell' r3; have y4 := hW9.cell' r4; have y5 := hW9.cell' r5; have y6 := hW9.cell' r6; have y7 := hW9.cell' r7; have y8 := hW9.cell' r8; go_simp; try with_reducible rfl
        simp only [Act.put, List.setIfInBounds_toArray, List.set_cons_zero, List.set_cons_succ]
        refine take1 (i := 10) (some 83) rfl rfl (by kernel_rfl) (by kernel_rfl) (by kernel_rfl) (fun _ _ _ _ h => h) rfl hS ?_
        apply Exists.intro
        apply And.intro
        · intro W9 hW9; have y0 := hW9.cell' r0; have y1 := hW9.cell' r1; have y2 := hW9.cell' r2; have y3 := hW9.cell' r3; have y4 := hW9.cell' r4; have y5 := hW9.cell' r5; have y6 := hW9.cell' r6; have y7 := hW9.cell' r7; have y8 := hW9.cell' r8; go_simp; try with_reducible rfl
        simp only [Act.put, List.setIfInBounds_toArray, List.set_cons_zero, List.set_cons_succ]
        refine take1 (i := 11) (some 84) rfl rfl (by kernel_rfl) (by kernel_rfl) (by kernel_rfl) (fun _ _ _ _ h => h) rfl hS ?_
        apply Exists.intro
        apply And.intro
        · intro W9 hW9; have y0 := hW9.cell' r0; have y1 := hW9.cell' r1; have y2 := hW9.cell' r2; have y3 := hW9.cell' r3; have y4 := hW9.cell' r4; have y5 := hW9.cell' r5; have y6 := hW9.cell' r6; have y7 := hW9.cell' r7; have y8 := hW9.cell' r8; go_simp; try with_reducible rfl
        simp only [Act.put, List.setIfInBounds_toArray, List.set_cons_zero, List.set_cons_succ]
        refine take1 (i := 12) (some 85) rfl rfl (by kernel_rfl) (by kernel_rfl) (by kernel_rfl) (fun _ _ _ _ h => h) rfl hS ?_
        apply Exists.intro
        apply And.intro
        · intro W9 hW9; have y0 := hW9.cell' r0; have y1 := hW9.cell' r1; have y2 := hW9.cell' r2; have y3 := hW9.cell' r3; have y4 := hW9.cell' r4; have y5 := hW9.cell' r5; have y6 := hW9.cell' r6; have y7 := hW9.cell' r7; have y8 := hW9.cell' r8; go_simp; try with_reducible rfl
        simp only [Act.put, List.setIfInBounds_toArray, List.set_cons_zero, List.set_cons_succ]
        refine take1 (i := 13) (some 86) rfl rfl (by kernel_rfl) (by kernel_rfl) (by kernel_rfl) (fun _ _ _ _ h => h) rfl hS ?_
        apply Exists.intro
        apply And.intro
        · intro W9 hW9; have y0 := hW9.cell' r0; have y1 := hW9.cell' r1; have y2 := hW9.cell' r2; have y3 := hW9.cell' r3; have y4 := hW9.cell' r4; have y5 := hW9.cell' r5; have y6 := hW9.cell' r6; have y7 := hW9.cell' r7; have y8 := hW9.cell' r8; go_simp; try with_reducible rfl
        simp only [Act.put, List.setIfInBounds_toArray, List.set_cons_zero, List.set_cons_succ]
        refine take1 (i := 14) (some 87) rfl rfl (by kernel_rfl) (by kernel_rfl) (by kernel_rfl) (fun _ _ _ _ h => h) rfl hS ?_
        apply Exists.intro
        apply And.intro
        · intro W9 hW9; have y0 := hW9.cell' r0; have y1 := hW9.cell' r1; have y2 := hW9.cell' r2; have y3 := hW9.cell' r3; have y4 := hW9.cell' r4; have y5 := hW9.cell' r5; have y6 := hW9.cell' r6; have y7 := hW9.cell' r7; have y8 := hW9.cell' r8; go_simp; try with_reducible rfl
        simp only [Act.put, List.setIfInBounds_toArray, List.set_cons_zero, List.set_cons_succ]
        refine take1 (i := 15) (some 88) rfl rfl (by kernel_rfl) (by kernel_rfl) (by kernel_rfl) (fun _ _ _ _ h => h) rfl hS ?_
        apply Exists.intro
        apply And.intro
        · intro W9 hW9; have y0 := hW9.cell' r0; have y1 := hW9.cell' r1; have y2 := hW9.cell' r2; have y3 := hW9.cell' r3; have y4 := hW9.cell' r4; have y5 := hW9.cell' r5; have y6 := hW9.cell' r6; have y7 := hW9.cell' r7; have y8 := hW9.cell' r8; go_simp; try with_reducible rfl
        simp only [Act.put, List.setIfInBounds_toArray, List.set_cons_zero, List.set_cons_succ]
        refine take1 (i := 16) (some 89) rfl rfl (by kernel_rfl) (by kernel_rfl) (by kernel_rfl) (fun _ _ _ _ h => h) rfl hS ?_
        apply Exists.intro
        apply And.intro
        · intro W9 hW9; have y0 := hW9.cell' r0; have y1 := hW9.cell' r1; have y2 := hW9.cell' r2; have y3 := hW9.cell' r3; have y4 := hW9.cell' r4; have y5 := hW9.cell' r5; have y6 := hW9.cell' r6; have y7 := hW9.cell' r7; have y8 := hW9.cell' r8; go_simp; try with_reducible rfl
        simp only [Act.put, List.setIfInBounds_toArray, List.set_cons_zero, List.set_cons_succ]
        refine take1 (i := 17) (some 90) rfl rfl (by kernel_rfl) (by kernel_rfl) (by kernel_rfl) (fun _ _ _ _ h => h) rfl hS ?_
        apply Exists.intro
        apply And.intro
        · intro W9 hW9; have y0 := hW9.cell' r0; have y1 := hW9.cell' r1; have y2 := hW9.cell' r2; have y3 := hW9.cell' r3; have y4 := hW9.cell' r4; have y5 := hW9.cell' r5; have y6 := hW9.cell' r6; have y7 := hW9.cell' r7; have y8 := hW9.cell' r8; go_simp; try with_reducible rfl
        simp only [Act.put, List.setIfInBounds_toArray, List.set_cons_zero, List.set_cons_succ]
        refine take1 (i := 18) (some 91) rfl rfl (by kernel_rfl) (by kernel_rfl) (by kernel_rfl) (fun _ _ _ _ h => h) rfl hS ?_
        apply Exists.intro
        apply And.intro
        · intro W9 hW9; have y0 := hW9.cell' r0; have y1 := hW9.cell' r1; have y2 := hW9.cell' r2; have y3 := hW9.cell' r3; have y4 := hW9.cell' r4; have y5 := hW9.cell' r5; have y6 := hW9.cell' r6; have y7 := hW9.cell' r7; have y8 := hW9.cell' r8; go_simp; try with_reducible rfl
        simp only [Act.put, List.setIfInBounds_toArray, List.set_cons_zero, List.set_cons_succ]
        refine take1 (i := 19) (some 92) rfl rfl (by kernel_rfl) (by kernel_rfl) (by kernel_rfl) (fun _ _ _ _ h => h) rfl hS ?_
        apply Exists.intro
        apply And.intro
        · intro W9 hW9; have y0 := hW9.cell' r0; have y1 := hW9.cell' r1; have y2 := hW9.cell' r2; have y3 := hW9.cell' r3; have y4 := hW9.cell' r4; have y5 := hW9.cell' r5; have y6 := hW9.cell' r6; have y7 := hW9.cell' r7; have y8 := hW9.cell' r8; go_simp; try with_reducible rfl
        simp only [Act.put, List.setIfInBounds_toArray, List.set_cons_zero, List.set_cons_succ]
        refine take1 (i := 20) (some 93) rfl rfl (by kernel_rfl) (by kernel_rfl) (by kernel_rfl) (fun _ _ _ _ h => h) rfl hS ?_
        apply Exists.intro
        apply And.intro
        · intro W9 hW9; have y0 := hW9.cell' r0; have y1 := hW9.cell' r1; have y2 := hW9.cell' r2; have y3 := hW9.cell' r3; have y4 := hW9.cell' r4; have y5 := hW9.cell' r5; have y6 := hW9.cell' r6; have y7 := hW9.cell' r7; have y8 := hW9.cell' r8; go_simp; try with_reducible rfl
        simp only [Act.put, List.setIfInBounds_toArray, List.set_cons_zero, List.set_cons_succ]
        refine take1 (i := 21) (some 94) rfl rfl (by kernel_rfl) (by kernel_rfl) (by kernel_rfl) (fun _ _ _ _ h => h) rfl hS ?_
        apply Exists.intro
        apply And.intro
        · intro W9 hW9; have y0 := hW9.cell' r0; have y1 := hW9.cell' r1; have y2 := hW9.cell' r2; have y3 := hW9.cell' r3; have y4 := hW9.cell' r4; have y5 := hW9.cell' r5; have y6 := hW9.cell' r6; have y7 := hW9.cell' r7; have y8 := hW9.cell' r8; go_simp; try with_reducible rfl
        simp only [Act.put, List.setIfInBounds_toArray, List.set_cons_zero, List.set_cons_succ]
        refine take1 (i := 22) (some 95) rfl rfl (by kernel_rfl) (by kernel_rfl) (by kernel_rfl) (fun _ _ _ _ h => h) rfl hS ?_
        apply Exists.intro
        apply And.intro
        · intro W9 hW9; have y0 := hW9.cell' r0; have y1 := hW9.cell' r1; have y2 := hW9.cell' r2; have y3 := hW9.cell' r3; have y4 := hW9.cell' r4; have y5 := hW9.cell' r5; have y6 := hW9.cell' r6; have y7 := hW9.cell' r7; have y8 := hW9.cell' r8; go_simp; try with_reducible rfl
        simp only [Act.put, List.setIfInBounds_toArray, List.set_cons_zero, List.set_cons_succ]
        refine take1 (i := 23) (some 96) rfl rfl (by kernel_rfl) (by kernel_rfl) (by kernel_rfl) (fun _ _ _ _ h => h) rfl hS ?_
        apply Exists.intro
        apply And.intro
        · intro W9 hW9; have y0 := hW9.cell' r0; have y1 := hW9.cell' r1; have y2 := hW9.cell' r2; have y3 := hW9.cell' r3; have y4 := hW9.cell' r4; have y5 := hW9.cell' r5; have y6 := hW9.cell' r6; have y7 := hW9.cell' r7; have y8 := hW9.cell' r8; go_simp; try with_reducible rfl
        simp only [Act.put, List.setIfInBounds_toArray, List.set_cons_zero, List.set_cons_succ]
        refine take1 (i := 24) (some 97) rfl rfl (by kernel_rfl) (by kernel_rfl) (by kernel_rfl) (fun _ _ _ _ h => h) rfl hS ?_
        apply Exists.intro
        apply And.intro
        · intro W9 hW9; have y0 := hW9.cell' r0; have y1 := hW9.cell' r1; have y2 := hW9.cell' r2; have y3 := hW9.cell' r3; have y4 := hW9.cell' r4; have y5 := hW9.cell' r5; have y6 := hW9.cell' r6; have y7 := hW9.cell' r7; have y8 := hW9.cell' r8; go_simp; try with_reducible rfl
        simp only [Act.put, List.setIfInBounds_toArray, List.set_cons_zero, List.set_cons_succ]
        refine take1 (i := 25) (some 98) rfl rfl (by kernel_rfl) (by kernel_rfl) (by kernel_rfl) (fun _ _ _ _ h => h) rfl hS ?_
        apply Exists.intro
        apply And.intro
        · intro W9 hW9; have y0 := hW9.cell' r0; have y1 := hW9.cell' r1; have y2 := hW9.cell' r2; have y3 := hW9.cell' r3; have y4 := hW9.cell' r4; have y5 := hW9.cell' r5; have y6 := hW9.cell' r6; have y7 := hW9.cell' r7; have y8 := hW9.cell' r8; go_simp; try with_reducible rfl
        simp only [Act.put, List.setIfInBounds_toArray, List.set_cons_zero, List.set_cons_succ]
        refine take1 (i := 26) (some 99) rfl rfl (by kernel_rfl) (by kernel_rfl) (by kernel_rfl) (fun _ _ _ _ h => h) rfl hS ?_
        apply Exists.intro
        apply And.intro
        · intro W9 hW9; have y0 := hW9.cell' r0; have y1 := hW9.cell' r1; have y2 := hW9.cell' r2; have y3 := hW9.cell' r3; have y4 := hW9.cell' r4; have y5 := hW9.cell' r5; have y6 := hW9.cell' r6; have y7 := hW9.cell' r7; have y8 := hW9.cell' r8; go_simp; try with_reducible rfl
        simp only [Act.put, List.setIfInBounds_toArray, List.set_cons_zero, List.set_cons_succ]
        refine take1 (i := 27) (some 100) rfl rfl (by kernel_rfl) (by kernel_rfl) (by kernel_rfl) (fun _ _ _ _ h => h) rfl hS ?_
        apply Exists.intro
        apply And.intro
        · intro W9 hW9; have y0 := hW9.cell' r0; have y1 := hW9.cell' r1; have y2 := hW9.cell' r2; have y3 := hW9.cell' r3; have y4 := hW9.cell' r4; have y5 := hW9.cell' r5; have y6 := hW9.cell' r6; have y7 := hW9.cell' r7; have y8 := hW9.cell' r8; go_simp; try with_reducible rfl
        simp only [Act.put, List.setIfInBounds_toArray, List.set_cons_zero, List.set_cons_succ]
        refine take1 (i := 28) (some 101) rfl rfl (by kernel_rfl) (by kernel_rfl) (by kernel_rfl) (fun _ _ _ _ h => h) rfl hS ?_
        apply Exists.intro
        apply And.intro
        · intro W9 hW9; have y0 := hW9.cell' r0; have y1 := hW9.cell' r1; have y2 := hW9.cell' r2; have y3 := hW9.cell' r3; have y4 := hW9.cell' r4; have y5 := hW9.cell' r5; have y6 := hW9.cell' r6; have y7 := hW9.cell' r7; have y8 := hW9.cell' r8; go_simp; try with_reducible rfl
        simp only [Act.put, List.setIfInBounds_toArray, List.set_cons_zero, List.set_cons_succ]
        refine take1 (i := 29) (some 102) rfl rfl (by kernel_rfl) (by kernel_rfl) (by kernel_rfl) (fun _ _ _ _ h => h) rfl hS ?_
        apply Exists.intro
        apply And.intro
        · intro W9 hW9; have y0 := hW9.cell' r0; have y1 := hW9.cell' r1; have y2 := hW9.cell' r2; have y3 := hW9.cell' r3; have y4 := hW9.cell' r4; have y5 := hW9.cell' r5; have y6 := hW9.cell' r6; have y7 := hW9.cell' r7; have y8 := hW9.cell' r8; go_simp; try with_reducible rfl
        simp only [Act.put, List.setIfInBounds_toArray, List.set_cons_zero, List.set_cons_succ]
        refine wpAnyH_ready (rs := [30]) (by kernel_rfl) (by simp) ?_
        refine AllReadyH.cons rfl (fun K hK => ?_) ?_
        rw [if_pos (by rfl)]
        refine wp_alloc_new 25 rfl (some 9) rfl _ (zeroAtm _) ?_
        intro g9 w9 hg9 hN hbw
        simp only [Act.put, List.setIfInBounds_toArray, List.set_cons_zero, List.set_cons_succ]
        have NB := Lib.hid hN
        have HG := Lib.hid (Nat.le_trans hS.size hg9)
        clear hN
        refine hK.out _ _ (hS.trans hbw) (fun hS => ?_)
        clear hK K
        refine wpAnyH_ready (rs := [31]) (by kernel_rfl) (by simp) ?_
        refine AllReadyH.cons rfl (fun K hK => ?_) ?_
        rw [if_pos (by rfl)]
        refine wp_store_row0 25 _ _ rfl rfl g9 #[.int .i64 (rv zs 0), .int .i64 (rv zs 1), .int .i64 (rv zs 2), .int .i64 (rv zs 3), .int .i64 (rv zs 4), .int .i64 (rv zs 5), .int .i64 (rv zs 6), .int .i64 (rv zs 7), .int .i64 (rv zs 8)] rfl rfl 25 #[.int .i64 0, .int .i64 0, .int .i64 0, .int .i64 0, .int .i64 0, .int .i64 0, .int .i64 0, .int .i64 0, .int .i64 0] NB.out (by kernel_rfl) rfl (by simp [Value.oneCell']) ?_
        replace NB := Lib.hid (NB.out.row #[.int .i64 (rv zs 0), .int .i64 (rv zs 1), .int .i64 (rv zs 2), .int .i64 (rv zs 3), .int .i64 (rv zs 4), .int .i64 (rv zs 5), .int .i64 (rv zs 6), .int .i64 (rv zs 7), .int .i64 (rv zs 8)])
        refine hK.out _ _ (Bw.setRow hS HG.out #[.int .i64 (rv zs 0), .int .i64 (rv zs 1), .int .i64 (rv zs 2), .int .i64 (rv zs 3), .int .i64 (rv zs 4), .int .i64 (rv zs 5), .int .i64 (rv zs 6), .int .i64 (rv zs 7), .int .i64 (rv zs 8)]) (fun hS => ?_)
        clear hK K
        refine wpAnyH_done (by kernel_rfl) ?_ _
        rotate_left
        exact AllReadyH.nil
        exact AllReadyH.nil
        all_goals
          replace KX := Lib.hid (KX.out.bw hS)
          replace RX0 := Lib.hid (RX0.out.bw hS)
          replace HBW := Lib.hid (HBW.out.trans hS)
          clear hS r0 r1 r2 r3 r4 r5 r6 r7 r8
          generalize World.setRow _ _ _ = WN at NB KX RX0 HBW ⊢
          have k0 : WN.cell? ⟨g9, 0, none⟩ = some (.int .i64 (rv zs 0)) := NB.out.cell rfl
          have k1 : WN.cell? ⟨g9, 1, none⟩ = some (.int .i64 (rv zs 1)) := NB.out.cell rfl
          have k2 : WN.cell? ⟨g9, 2, none⟩ = some (.int .i64 (rv zs 2)) := NB.out.cell rfl
          have k3 : WN.cell? ⟨g9, 3, none⟩ = some (.int .i64 (rv zs 3)) := NB.out.cell rfl
          have k4 : WN.cell? ⟨g9, 4, none⟩ = some (.int .i64 (rv zs 4)) := NB.out.cell rfl
          have k5 : WN.cell? ⟨g9, 5, none⟩ = some (.int .i64 (rv zs 5)) := NB.out.cell rfl
          have k6 : WN.cell? ⟨g9, 6, none⟩ = some (.int .i64 (rv zs 6)) := NB.out.cell rfl
          have k7 : WN.cell? ⟨g9, 7, none⟩ = some (.int .i64 (rv zs 7)) := NB.out.cell rfl
          have k8 : WN.cell? ⟨g9, 8, none⟩ = some (.int .i64 (rv zs 8)) := NB.out.cell rfl
          clear c0 c1 c2
          have c0 : WN.cell? ⟨w.heap.size, 0, none⟩ = some (.int .i64 t) := KX.out.cell rfl
          have c1 : WN.cell? ⟨w.heap.size, 1, none⟩ = some (.int .i64 5) := KX.out.cell rfl
          have c2 : WN.cell? ⟨w.heap.size, 2, none⟩ = some (.slice (some ⟨db, dof, none⟩) 206 c) := by have h9 := KX.out.cell (j := 2) rfl; rw [HL.out] at h9; exact h9
          by_cases q6 : E = 0
          case neg =>
            have q6b : (E != 0) = true := by simpa using q6
            go_wp2_with (first | (go_at_call 14; (with_reducible refine Calls.mono (CK.out _) ?_); rintro e1 w5 ⟨rfl, hb9⟩; replace NB := Lib.hid (NB.out.bw hb9); replace KX := Lib.hid (KX.out.bw hb9); replace RX0 := Lib.hid (RX0.out.bw hb9); replace HBW := Lib.hid (HBW.out.trans hb9); clear hb9; clear k0 k1 k2 k3 k4 k5 k6 k7 k8; clear c0 c1 c2; have k0 : w5.cell? ⟨g9, 0, none⟩ = some (.int .i64 (rv zs 0)) := NB.out.cell rfl; have k1 : w5.cell? ⟨g9, 1, none⟩ = some (.int .i64 (rv zs 1)) := NB.out.cell rfl; have k2 : w5.cell? ⟨g9, 2, none⟩ = some (.int .i64 (rv zs 2)) := NB.out.cell rfl; have k3 : w5.cell? ⟨g9, 3, none⟩ = some (.int .i64 (rv zs 3)) := NB.out.cell rfl; have k4 : w5.cell? ⟨g9, 4, none⟩ = some (.int .i64 (rv zs 4)) := NB.out.cell rfl; have k5 : w5.cell? ⟨g9, 5, none⟩ = some (.int .i64 (rv zs 5)) := NB.out.cell rfl; have k6 : w5.cell? ⟨g9, 6, none⟩ = some (.int .i64 (rv zs 6)) := NB.out.cell rfl; have k7 : w5.cell? ⟨g9, 7, none⟩ = some (.int .i64 (rv zs 7)) := NB.out.cell rfl; have k8 : w5.cell? ⟨g9, 8, none⟩ = some (.int .i64 (rv zs 8)) := NB.out.cell rfl; have c0 : w5.cell? ⟨w.heap.size, 0, none⟩ = some (.int .i64 t) := KX.out.cell rfl; have c1 : w5.cell? ⟨w.heap.size, 1, none⟩ = some (.int .i64 5) := KX.out.cell rfl; have c2 : w5.cell? ⟨w.heap.size, 2, none⟩ = some (.slice (some ⟨db, dof, none⟩) 206 c) := by have h9 := KX.out.cell (j := 2) rfl; rw [HL.out] at h9; exact h9) | ((with_reducible refine at_store 25 (.tmp 2) (.tmp 114) ?_); refine wpList_store_row rfl 25 (.tmp 2) (.tmp 114) rfl (w.heap.size + 1) #[.int .i64 0, .int .i64 0, .int .i64 0, .int .i64 0, .int .i64 0, .int .i64 0, .int .i64 0, .int .i64 0, .int .i64 0] rfl rfl 25 _ RX0.out (by kernel_rfl) rfl (by simp [Value.oneCell']) ?_))
            have F3 := RX0.out.row #[.int .i64 0, .int .i64 0, .int .i64 0, .int .i64 0, .int .i64 0, .int .i64 0, .int .i64 0, .int .i64 0, .int .i64 0]
            have B3 := Bw.setRow HBW.out (show w.heap.size ≤ w.heap.size + 1 by omega) #[.int .i64 0, .int .i64 0, .int .i64 0, .int .i64 0, .int .i64 0, .int .i64 0, .int .i64 0, .int .i64 0, .int .i64 0]
            have m0 := F3.cell (j := 0) (v := .int .i64 (0)) rfl
            have m1 := F3.cell (j := 1) (v := .int .i64 (0)) rfl
            have m2 := F3.cell (j := 2) (v := .int .i64 (0)) rfl
            have m3 := F3.cell (j := 3) (v := .int .i64 (0)) rfl
            have m4 := F3.cell (j := 4) (v := .int .i64 (0)) rfl
            have m5 := F3.cell (j := 5) (v := .int .i64 (0)) rfl
            have m6 := F3.cell (j := 6) (v := .int .i64 (0)) rfl
            have m7 := F3.cell (j := 7) (v := .int .i64 (0)) rfl
            have m8 := F3.cell (j := 8) (v := .int .i64 (0)) rfl
            generalize World.setRow w5 _ _ = WF at m0 m1 m2 m3 m4 m5 m6 m7 m8 B3 ⊢
            clear F3
            refine bodyPost_ret (v := .tuple #[.agg #[.int .i64 0, .int .i64 0, .int .i64 0, .int .i64 0, .int .i64 0, .int .i64 0, .int .i64 0, .int .i64 0, .int .i64 0], .int .i64 3]) ?_ rfl ⟨?_, B3⟩
            · simp [results, Try.results21, go_sem, m0, m1, m2, m3, m4, m5, m6, m7, m8]
            · have h9 := HNO.out (by unfold rdGood; intro h; exact q6 (HE.out.trans h.2.2.2.2.2.1)); rw [h9.1, h9.2]; rfl
          subst q6
          have h187 : ((atB 9 : Nat) : Int) = 187 := rfl
          rw [h187]
          clear h187
          have hc206 : 206 ≤ c := by have := HL.out; omega
          have hc187 : ¬ c = 187 := by omega
          cases ND with
          | false =>
            go_wp2_with (first | (go_at_call 14; (with_reducible refine Calls.mono (CK.out _) ?_); rintro e1 w5 ⟨rfl, hb9⟩; replace NB := Lib.hid (NB.out.bw hb9); replace KX := Lib.hid (KX.out.bw hb9); replace RX0 := Lib.hid (RX0.out.bw hb9); replace HBW := Lib.hid (HBW.out.trans hb9); clear hb9; clear k0 k1 k2 k3 k4 k5 k6 k7 k8; clear c0 c1 c2; have k0 : w5.cell? ⟨g9, 0, none⟩ = some (.int .i64 (rv zs 0)) := NB.out.cell rfl; have k1 : w5.cell? ⟨g9, 1, none⟩ = some (.int .i64 (rv zs 1)) := NB.out.cell rfl; have k2 : w5.cell? ⟨g9, 2, none⟩ = some (.int .i64 (rv zs 2)) := NB.out.cell rfl; have k3 : w5.cell? ⟨g9, 3, none⟩ = some (.int .i64 (rv zs 3)) := NB.out.cell rfl; have k4 : w5.cell? ⟨g9, 4, none⟩ = some (.int .i64 (rv zs 4)) := NB.out.cell rfl; have k5 : w5.cell? ⟨g9, 5, none⟩ = some (.int .i64 (rv zs 5)) := NB.out.cell rfl; have k6 : w5.cell? ⟨g9, 6, none⟩ = some (.int .i64 (rv zs 6)) := NB.out.cell rfl; have k7 : w5.cell? ⟨g9, 7, none⟩ = some (.int .i64 (rv zs 7)) := NB.out.cell rfl; have k8 : w5.cell? ⟨g9, 8, none⟩ = some (.int .i64 (rv zs 8)) := NB.out.cell rfl; have c0 : w5.cell? ⟨w.heap.size, 0, none⟩ = some (.int .i64 t) := KX.out.cell rfl; have c1 : w5.cell? ⟨w.heap.size, 1, none⟩ = some (.int .i64 5) := KX.out.cell rfl; have c2 : w5.cell? ⟨w.heap.size, 2, none⟩ = some (.slice (some ⟨db, dof, none⟩) 206 c) := by have h9 := KX.out.cell (j := 2) rfl; rw [HL.out] at h9; exact h9) | (go_at_call 32; (with_reducible refine Calls.mono (WD.out _ _ ?_) ?_); (focus exact rdI_drop (HV.out.mono HBW.out) 187 (by omega)); rintro e1 w6 ⟨rfl, hb9⟩; replace NB := Lib.hid (NB.out.bw hb9); replace KX := Lib.hid (KX.out.bw hb9); replace RX0 := Lib.hid (RX0.out.bw hb9); replace HBW := Lib.hid (HBW.out.trans hb9); clear hb9; clear k0 k1 k2 k3 k4 k5 k6 k7 k8; clear c0 c1 c2; have k0 : w6.cell? ⟨g9, 0, none⟩ = some (.int .i64 (rv zs 0)) := NB.out.cell rfl; have k1 : w6.cell? ⟨g9, 1, none⟩ = some (.int .i64 (rv zs 1)) := NB.out.cell rfl; have k2 : w6.cell? ⟨g9, 2, none⟩ = some (.int .i64 (rv zs 2)) := NB.out.cell rfl; have k3 : w6.cell? ⟨g9, 3, none⟩ = some (.int .i64 (rv zs 3)) := NB.out.cell rfl; have k4 : w6.cell? ⟨g9, 4, none⟩ = some (.int .i64 (rv zs 4)) := NB.out.cell rfl; have k5 : w6.cell? ⟨g9, 5, none⟩ = some (.int .i64 (rv zs 5)) := NB.out.cell rfl; have k6 : w6.cell? ⟨g9, 6, none⟩ = some (.int .i64 (rv zs 6)) := NB.out.cell rfl; have k7 : w6.cell? ⟨g9, 7, none⟩ = some (.int .i64 (rv zs 7)) := NB.out.cell rfl; have k8 : w6.cell? ⟨g9, 8, none⟩ = some (.int .i64 (rv zs 8)) := NB.out.cell rfl; have c0 : w6.cell? ⟨w.heap.size, 0, none⟩ = some (.int .i64 t) := KX.out.cell rfl; have c1 : w6.cell? ⟨w.heap.size, 1, none⟩ = some (.int .i64 5) := KX.out.cell rfl; have c2 : w6.cell? ⟨w.heap.size, 2, none⟩ = some (.slice (some ⟨db, dof, none⟩) 206 c) := by have h9 := KX.out.cell (j := 2) rfl; rw [HL.out] at h9; exact h9) | ((with_reducible refine at_store 25 (.tmp 2) (.tmp 114) ?_); refine wpList_store_row rfl 25 (.tmp 2) (.tmp 114) rfl (w.heap.size + 1) #[.int .i64 0, .int .i64 0, .int .i64 0, .int .i64 0, .int .i64 0, .int .i64 0, .int .i64 0, .int .i64 0, .int .i64 0] rfl rfl 25 _ RX0.out (by kernel_rfl) rfl (by simp [Value.oneCell']) ?_))
            have F3 := RX0.out.row #[.int .i64 0, .int .i64 0, .int .i64 0, .int .i64 0, .int .i64 0, .int .i64 0, .int .i64 0, .int .i64 0, .int .i64 0]
            have B3 := Bw.setRow HBW.out (show w.heap.size ≤ w.heap.size + 1 by omega) #[.int .i64 0, .int .i64 0, .int .i64 0, .int .i64 0, .int .i64 0, .int .i64 0, .int .i64 0, .int .i64 0, .int .i64 0]
            have m0 := F3.cell (j := 0) (v := .int .i64 (0)) rfl
            have m1 := F3.cell (j := 1) (v := .int .i64 (0)) rfl
            have m2 := F3.cell (j := 2) (v := .int .i64 (0)) rfl
            have m3 := F3.cell (j := 3) (v := .int .i64 (0)) rfl
            have m4 := F3.cell (j := 4) (v := .int .i64 (0)) rfl
            have m5 := F3.cell (j := 5) (v := .int .i64 (0)) rfl
            have m6 := F3.cell (j := 6) (v := .int .i64 (0)) rfl
            have m7 := F3.cell (j := 7) (v := .int .i64 (0)) rfl
            have m8 := F3.cell (j := 8) (v := .int .i64 (0)) rfl
            generalize World.setRow w6 _ _ = WF at m0 m1 m2 m3 m4 m5 m6 m7 m8 B3 ⊢
            clear F3
            refine bodyPost_ret (v := .tuple #[.agg #[.int .i64 0, .int .i64 0, .int .i64 0, .int .i64 0, .int .i64 0, .int .i64 0, .int .i64 0, .int .i64 0, .int .i64 0], .int .i64 3]) ?_ rfl ⟨?_, B3⟩
            · simp [results, Try.results21, go_sem, m0, m1, m2, m3, m4, m5, m6, m7, m8]
            · have h9 := HNO.out (by unfold rdGood; intro h; have h1 := HD.out; rw [h.2.2.2.2.2.2] at h1; cases h1); rw [h9.1, h9.2]; rfl
          | true =>
            go_wp2_with (first | (go_at_call 14; (with_reducible refine Calls.mono (CK.out _) ?_); rintro e1 w5 ⟨rfl, hb9⟩; replace NB := Lib.hid (NB.out.bw hb9); replace KX := Lib.hid (KX.out.bw hb9); replace RX0 := Lib.hid (RX0.out.bw hb9); replace HBW := Lib.hid (HBW.out.trans hb9); clear hb9; clear k0 k1 k2 k3 k4 k5 k6 k7 k8; clear c0 c1 c2; have k0 : w5.cell? ⟨g9, 0, none⟩ = some (.int .i64 (rv zs 0)) := NB.out.cell rfl; have k1 : w5.cell? ⟨g9, 1, none⟩ = some (.int .i64 (rv zs 1)) := NB.out.cell rfl; have k2 : w5.cell? ⟨g9, 2, none⟩ = some (.int .i64 (rv zs 2)) := NB.out.cell rfl; have k3 : w5.cell? ⟨g9, 3, none⟩ = some (.int .i64 (rv zs 3)) := NB.out.cell rfl; have k4 : w5.cell? ⟨g9, 4, none⟩ = some (.int .i64 (rv zs 4)) := NB.out.cell rfl; have k5 : w5.cell? ⟨g9, 5, none⟩ = some (.int .i64 (rv zs 5)) := NB.out.cell rfl; have k6 : w5.cell? ⟨g9, 6, none⟩ = some (.int .i64 (rv zs 6)) := NB.out.cell rfl; have k7 : w5.cell? ⟨g9, 7, none⟩ = some (.int .i64 (rv zs 7)) := NB.out.cell rfl; have k8 : w5.cell? ⟨g9, 8, none⟩ = some (.int .i64 (rv zs 8)) := NB.out.cell rfl; have c0 : w5.cell? ⟨w.heap.size, 0, none⟩ = some (.int .i64 t) := KX.out.cell rfl; have c1 : w5.cell? ⟨w.heap.size, 1, none⟩ = some (.int .i64 5) := KX.out.cell rfl; have c2 : w5.cell? ⟨w.heap.size, 2, none⟩ = some (.slice (some ⟨db, dof, none⟩) 206 c) := by have h9 := KX.out.cell (j := 2) rfl; rw [HL.out] at h9; exact h9) | (go_at_call 32; (with_reducible refine Calls.mono (WD.out _ _ ?_) ?_); (focus exact rdI_drop (HV.out.mono HBW.out) 187 (by omega)); rintro e1 w6 ⟨rfl, hb9⟩; replace NB := Lib.hid (NB.out.bw hb9); replace KX := Lib.hid (KX.out.bw hb9); replace RX0 := Lib.hid (RX0.out.bw hb9); replace HBW := Lib.hid (HBW.out.trans hb9); clear hb9; clear k0 k1 k2 k3 k4 k5 k6 k7 k8; clear c0 c1 c2; have k0 : w6.cell? ⟨g9, 0, none⟩ = some (.int .i64 (rv zs 0)) := NB.out.cell rfl; have k1 : w6.cell? ⟨g9, 1, none⟩ = some (.int .i64 (rv zs 1)) := NB.out.cell rfl; have k2 : w6.cell? ⟨g9, 2, none⟩ = some (.int .i64 (rv zs 2)) := NB.out.cell rfl; have k3 : w6.cell? ⟨g9, 3, none⟩ = some (.int .i64 (rv zs 3)) := NB.out.cell rfl; have k4 : w6.cell? ⟨g9, 4, none⟩ = some (.int .i64 (rv zs 4)) := NB.out.cell rfl; have k5 : w6.cell? ⟨g9, 5, none⟩ = some (.int .i64 (rv zs 5)) := NB.out.cell rfl; have k6 : w6.cell? ⟨g9, 6, none⟩ = some (.int .i64 (rv zs 6)) := NB.out.cell rfl; have k7 : w6.cell? ⟨g9, 7, none⟩ = some (.int .i64 (rv zs 7)) := NB.out.cell rfl; have k8 : w6.cell? ⟨g9, 8, none⟩ = some (.int .i64 (rv zs 8)) := NB.out.cell rfl; have c0 : w6.cell? ⟨w.heap.size, 0, none⟩ = some (.int .i64 t) := KX.out.cell rfl; have c1 : w6.cell? ⟨w.heap.size, 1, none⟩ = some (.int .i64 5) := KX.out.cell rfl; have c2 : w6.cell? ⟨w.heap.size, 2, none⟩ = some (.slice (some ⟨db, dof, none⟩) 206 c) := by have h9 := KX.out.cell (j := 2) rfl; rw [HL.out] at h9; exact h9) | ((with_reducible refine at_store 25 (.tmp 2) (.tmp 115) ?_); refine wpList_store_row rfl 25 (.tmp 2) (.tmp 115) rfl (w.heap.size + 1) #[.int .i64 (rv zs 0), .int .i64 (rv zs 1), .int .i64 (rv zs 2), .int .i64 (rv zs 3), .int .i64 (rv zs 4), .int .i64 (rv zs 5), .int .i64 (rv zs 6), .int .i64 (rv zs 7), .int .i64 (rv zs 8)] rfl rfl 25 _ RX0.out (by kernel_rfl) rfl (by simp [Value.oneCell']) ?_))
            have F3 := RX0.out.row #[.int .i64 (rv zs 0), .int .i64 (rv zs 1), .int .i64 (rv zs 2), .int .i64 (rv zs 3), .int .i64 (rv zs 4), .int .i64 (rv zs 5), .int .i64 (rv zs 6), .int .i64 (rv zs 7), .int .i64 (rv zs 8)]
            have B3 := Bw.setRow HBW.out (show w.heap.size ≤ w.heap.size + 1 by omega) #[.int .i64 (rv zs 0), .int .i64 (rv zs 1), .int .i64 (rv zs 2), .int .i64 (rv zs 3), .int .i64 (rv zs 4), .int .i64 (rv zs 5), .int .i64 (rv zs 6), .int .i64 (rv zs 7), .int .i64 (rv zs 8)]
            have m0 := F3.cell (j := 0) (v := .int .i64 (rv zs 0)) rfl
            have m1 := F3.cell (j := 1) (v := .int .i64 (rv zs 1)) rfl
            have m2 := F3.cell (j := 2) (v := .int .i64 (rv zs 2)) rfl
            have m3 := F3.cell (j := 3) (v := .int .i64 (rv zs 3)) rfl
            have m4 := F3.cell (j := 4) (v := .int .i64 (rv zs 4)) rfl
            have m5 := F3.cell (j := 5) (v := .int .i64 (rv zs 5)) rfl
            have m6 := F3.cell (j := 6) (v := .int .i64 (rv zs 6)) rfl
            have m7 := F3.cell (j := 7) (v := .int .i64 (rv zs 7)) rfl
            have m8 := F3.cell (j := 8) (v := .int .i64 (rv zs 8)) rfl
            generalize World.setRow w6 _ _ = WF at m0 m1 m2 m3 m4 m5 m6 m7 m8 B3 ⊢
            clear F3
            refine bodyPost_ret (v := .tuple #[.agg #[.int .i64 (rv zs 0), .int .i64 (rv zs 1), .int .i64 (rv zs 2), .int .i64 (rv zs 3), .int .i64 (rv zs 4), .int .i64 (rv zs 5), .int .i64 (rv zs 6), .int .i64 (rv zs 7), .int .i64 (rv zs 8)], .int .i64 0]) ?_ rfl ⟨?_, B3⟩
            · simp [results, Try.results21, go_sem, m0, m1, m2, m3, m4, m5, m6, m7, m8]
            · have h9 := HYE.out (by unfold rdGood; exact ⟨rfl, q2.1, q2.2, HL.out, HQ.out, HE.out.symm, HD.out.symm⟩); rw [h9.1, h9.2]; rfl
end Go.Proofs.Sky
