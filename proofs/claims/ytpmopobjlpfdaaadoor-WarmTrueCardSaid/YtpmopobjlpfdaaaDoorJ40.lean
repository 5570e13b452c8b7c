/-
  lemmas for the theorems of this claim. No conditions beyond those written in the statements.
-/
import Derived.Test.YtpmopobjlpfdaaaDoorNP40
import Derived.Laws.StructEq
set_option linter.unusedVariables false
set_option linter.unusedSimpArgs false
set_option linter.unnecessarySimpa false
namespace Go.Proofs.Sky
open Go Go.RowKit Go.Shelf
attribute [local go_sem] Oper.semAt_some
set_option maxHeartbeats 4000000
set_option maxRecDepth 8000
/-! chapter 40: the examples -/
theorem eqH_self (a b c d e f : Int) (w : World) : (Op.equalIn 10000 23 (.agg #[.int .i64 a, .int .i64 b, .int .i64 c, .int .i64 d, .int .i64 e, .int .i64 f]) (.agg #[.int .i64 a, .int .i64 b, .int .i64 c, .int .i64 d, .int .i64 e, .int .i64 f])).run Tryd.prog w = .ok true w := by
  rw [show (10000 : Nat) = 9998 + 1 + 1 from rfl, run_equalIn_agg _ _ _ _ _ (by kernel_rfl) (by kernel_rfl)]
  simp only [Program.fieldsOf, Tryd.underlying23]
  have h1 : ∀ w, (sizeOf 3).run Tryd.prog w = .ok 1 w := fun w => by kernel_rfl
  have hi : Tryd.prog.underlying 3 = some (.int .i64) := by kernel_rfl
  simp [Op.eqFields, part, h1, go_sem, run_underlying hi, run_equalIn_int _ _ _ _ _ _ _ hi]
theorem eqH_guard (x y : Array Value) (op : BinOp) (p q : Operand) (w : World) : (eqGuard op 23 p q (.agg x) (.agg y)).run Tryd.prog w = .ok () w := run_eqGuard_agg w op _ _ _ _ _ (by kernel_rfl)
def plX4 : Nat → Int := fun i => [3, 1000, 0, 0, 400000, 0, 0, 0, 0, 0, 0, 0, 0].getD i 0
theorem plain40_any (w : World) : Calls Tryd.prog 8 #[] w fun e w' => e = .returned (.agg (pgV plX4)) ∧ Bw w w' := by
  have KR := Lib.hid (Blk.new w 29 #[.int .i64 0, .int .i64 0, .int .i64 0, .int .i64 0, .int .i64 0, .int .i64 0, .int .i64 0, .int .i64 0, .int .i64 0, .int .i64 0, .int .i64 0, .int .i64 0, .int .i64 0])
  have HW := Lib.hid (Bw.alloc (Bw.refl w) (.cells #[.int .i64 0, .int .i64 0, .int .i64 0, .int .i64 0, .int .i64 0, .int .i64 0, .int .i64 0, .int .i64 0, .int .i64 0, .int .i64 0, .int .i64 0, .int .i64 0, .int .i64 0] 29))
  go_enter Tryd.func8, Tryd.ntmps8
  go_wp2_with ((with_reducible refine at_store 29 (.tmp 0) (.tmp 2) ?_); refine wpList_store_row rfl 29 (.tmp 0) (.tmp 2) rfl w.heap.size (pgV plX4) rfl rfl 29 _ KR.out (by kernel_rfl) rfl (by simp [Value.oneCell', pgV]) ?_)
  refine bodyPost_ret (v := .agg (pgV plX4)) ?_ rfl ⟨rfl, Bw.setRow HW.out (Nat.le_refl _) _⟩
  exact results_cell_row (p := 0) rfl _ _ w.heap.size _ _ (0, 0) _ rfl (KR.out.row _) Tryd.underlying29 rfl (by kernel_rfl)
theorem at40_any (x : Int) (w : World) : Calls Tryd.prog 9 #[.int .i64 x] w fun e w' => e = .returned (.agg #[.int .i64 x, .int .i64 0, .int .i64 0]) ∧ Bw w w' := by
  have KR := Lib.hid (Blk.new w 32 #[.int .i64 0, .int .i64 0, .int .i64 0])
  have HW := Lib.hid (Bw.alloc (Bw.refl w) (.cells #[.int .i64 0, .int .i64 0, .int .i64 0] 32))
  go_enter Tryd.func9, Tryd.ntmps9
  go_wp2_with ((with_reducible refine at_store 32 (.tmp 2) (.tmp 4) ?_); refine wpList_store_row rfl 32 (.tmp 2) (.tmp 4) rfl w.heap.size #[.int .i64 x, .int .i64 0, .int .i64 0] rfl rfl 32 _ KR.out (by kernel_rfl) rfl (by simp [Value.oneCell']) ?_)
  refine bodyPost_ret (v := .agg #[.int .i64 x, .int .i64 0, .int .i64 0]) ?_ rfl ⟨rfl, Bw.setRow HW.out (Nat.le_refl _) _⟩
  exact results_cell_row (p := 2) rfl _ _ w.heap.size _ _ (0, 0) _ rfl (KR.out.row _) Tryd.underlying32 rfl (by kernel_rfl)
def qA : Nat → Int := X0p plX4 6400000 0 0 0 1000 0 0 1000
def qB : Nat → Int := X0p plX4 (-6400000) 0 0 0 1000 0 0 1000
theorem qA_ok : prE qA = 0 := by kernel_rfl
theorem qB_ok : prE qB = 0 := by kernel_rfl
theorem qA_s : sK40 (pr3 qA) 3 = 368640000000000 := by kernel_rfl
theorem qB_s : sK40 (pr3 qB) 3 = 1024000000000000 := by kernel_rfl
theorem qA_h : hV (pr4 qA 19200000) = #[.int .i64 3, .int .i64 1, .int .i64 19199998, .int .i64 19200003, .int .i64 44, .int .i64 1] := by kernel_rfl
theorem qB_h : ∃ n f l m, hV (pr4 qB 32000000) = #[.int .i64 3, .int .i64 (-1), .int .i64 n, .int .i64 f, .int .i64 l, .int .i64 m] := ⟨(pr4 qB 32000000) 28, (pr4 qB 32000000) 29, (pr4 qB 32000000) 30, (pr4 qB 32000000) 31, by
  unfold hV
  rw [show pr4 qB 32000000 26 = 3 by kernel_rfl, show pr4 qB 32000000 27 = -1 by kernel_rfl]⟩
theorem awake40_any (w : World) (hw : WdAt w) : Calls Tryd.prog 14 #[] w fun e w' => e = .returned (.bool true) ∧ Bw w w' := by
  have HWD := Lib.hid hw
  have PLN := Lib.hid (fun W => plain40_any W)
  have AT := Lib.hid (fun x W => at40_any x W)
  have PA := Lib.hid (fun W h => Predict_ok plX4 6400000 0 0 0 1000 0 0 1000 19200000 W h qA_ok (fun k hk => by match k, hk with | 0, _ | 1, _ | 2, _ => decide) (by decide) (by show _ ≤ sK40 (pr3 qA) 3; rw [qA_s]; decide) (by show sK40 (pr3 qA) 3 < _; rw [qA_s]; decide))
  have PB := Lib.hid (fun W h => Predict_ok plX4 (-6400000) 0 0 0 1000 0 0 1000 32000000 W h qB_ok (fun k hk => by match k, hk with | 0, _ | 1, _ | 2, _ => decide) (by decide) (by show _ ≤ sK40 (pr3 qB) 3; rw [qB_s]; decide) (by show sK40 (pr3 qB) 3 < _; rw [qB_s]; decide))
  have FI := Lib.hid (fun W => Fits_ok 0 0 0 0 998 3 0 1000 W (by decide) (by decide) (by decide) (by decide))
  rw [show decide (((0 : Int) - 998 + 1000) % 1000 < 3) = true from by decide] at FI
  obtain ⟨n, f, l, m, hqb⟩ := qB_h
  have ea := qA_h
  unfold qA at ea
  unfold qB at hqb
  rw [ea] at PA
  rw [hqb] at PB
  have hq2 := fun a b c d e f W => eqH_self a b c d e f W
  have hgg := fun W a b op p q => eqH_guard a b op p q W
  clear ea hqb hw
  obtain ⟨A, hA⟩ : ∃ A, A = pgV plX4 := ⟨_, rfl⟩
  rw [← hA] at PLN PA PB
  clear hA
  have HW := Lib.hid (Bw.refl w)
  have HZ6 := Lib.hid (fun (W : World) => Blk.new W 23 #[.int .i64 0, .int .i64 0, .int .i64 0, .int .i64 0, .int .i64 0, .int .i64 0])
  go_enter Tryd.func14, Tryd.ntmps14
  go_upto_region 2 with (first | (go_at_call 8; (with_reducible refine Calls.mono (PLN.out _) ?_); rintro e1 w1 ⟨rfl, hb1⟩; replace HW := Lib.hid (HW.out.trans hb1); clear hb1) | (go_at_call 9; (with_reducible refine Calls.mono (AT.out _ _) ?_); rintro e1 w1 ⟨rfl, hb1⟩; replace HW := Lib.hid (HW.out.trans hb1); clear hb1) | (go_at_call 7; (with_reducible refine Calls.mono (PA.out _ (HWD.out.bw HW.out)) ?_); rintro e1 w1 ⟨rfl, hb1⟩; replace HW := Lib.hid (HW.out.trans hb1); clear hb1) | ((with_reducible refine at_store 23 (.tmp 1) (.tmp 11) ?_); refine wpList_store_row rfl 23 (.tmp 1) (.tmp 11) rfl w1.heap.size #[.int .i64 3, .int .i64 1, .int .i64 19199998, .int .i64 19200003, .int .i64 44, .int .i64 1] rfl rfl 23 #[.int .i64 0, .int .i64 0, .int .i64 0, .int .i64 0, .int .i64 0, .int .i64 0] (HZ6.out w1) (by kernel_rfl) rfl (by simp [Value.oneCell']) ?_))
  obtain ⟨g1, hg1⟩ : ∃ g1, w1.heap.size = g1 := ⟨_, rfl⟩
  have hb2 := Bw.setRow (Bw.alloc (Bw.refl w1) (.cells #[.int .i64 0, .int .i64 0, .int .i64 0, .int .i64 0, .int .i64 0, .int .i64 0] 23)) (Nat.le_of_eq hg1) #[.int .i64 3, .int .i64 1, .int .i64 19199998, .int .i64 19200003, .int .i64 44, .int .i64 1]
  have K1 := Lib.hid ((HZ6.out w1).row #[.int .i64 3, .int .i64 1, .int .i64 19199998, .int .i64 19200003, .int .i64 44, .int .i64 1])
  rw [hg1] at K1 ⊢
  replace HW := Lib.hid (HW.out.trans hb2)
  generalize World.setRow (World.alloc w1 _) _ _ = w1 at *
  clear hb2 hg1
  (try simp only [Act.put])
  go_upto_region 3 with (first | (go_at_call 8; (with_reducible refine Calls.mono (PLN.out _) ?_); rintro e1 w1 ⟨rfl, hb1⟩; replace K1 := Lib.hid (K1.out.bw hb1); replace HW := Lib.hid (HW.out.trans hb1); clear hb1) | (go_at_call 9; (with_reducible refine Calls.mono (AT.out _ _) ?_); rintro e1 w1 ⟨rfl, hb1⟩; replace K1 := Lib.hid (K1.out.bw hb1); replace HW := Lib.hid (HW.out.trans hb1); clear hb1) | (go_at_call 7; (with_reducible refine Calls.mono (PB.out _ (HWD.out.bw HW.out)) ?_); rintro e1 w1 ⟨rfl, hb1⟩; replace HW := Lib.hid (HW.out.trans hb1); replace K1 := Lib.hid (K1.out.bw hb1); clear hb1) | ((with_reducible refine at_store 23 (.tmp 3) (.tmp 17) ?_); refine wpList_store_row rfl 23 (.tmp 3) (.tmp 17) rfl w1.heap.size #[.int .i64 3, .int .i64 (-1), .int .i64 n, .int .i64 f, .int .i64 l, .int .i64 m] rfl rfl 23 #[.int .i64 0, .int .i64 0, .int .i64 0, .int .i64 0, .int .i64 0, .int .i64 0] (HZ6.out w1) (by kernel_rfl) rfl (by simp [Value.oneCell']) ?_))
  obtain ⟨g3, hg3⟩ : ∃ g3, w1.heap.size = g3 := ⟨_, rfl⟩
  have hb2 := Bw.setRow (Bw.alloc (Bw.refl w1) (.cells #[.int .i64 0, .int .i64 0, .int .i64 0, .int .i64 0, .int .i64 0, .int .i64 0] 23)) (Nat.le_of_eq hg3) #[.int .i64 3, .int .i64 (-1), .int .i64 n, .int .i64 f, .int .i64 l, .int .i64 m]
  have K3 := Lib.hid ((HZ6.out w1).row #[.int .i64 3, .int .i64 (-1), .int .i64 n, .int .i64 f, .int .i64 l, .int .i64 m])
  rw [hg3] at K3 ⊢
  replace HW := Lib.hid (HW.out.trans hb2)
  replace K1 := Lib.hid (K1.out.bw hb2)
  generalize World.setRow (World.alloc w1 _) _ _ = w1 at *
  clear hb2 hg3
  (try simp only [Act.put])
  go_upto_region 4 with ((go_at_call 11; (with_reducible refine Calls.mono (FI.out _) ?_); rintro e1 w1 ⟨rfl, hb1⟩; replace HW := Lib.hid (HW.out.trans hb1); replace K1 := Lib.hid (K1.out.bw hb1); replace K3 := Lib.hid (K3.out.bw hb1); clear hb1))
  have d1 := K3.out.cell (show (#[.int .i64 3, .int .i64 (-1), .int .i64 n, .int .i64 f, .int .i64 l, .int .i64 m] : Array Value)[1]? = some (.int .i64 (-1)) from rfl)
  go_wp2_with ((with_reducible refine at_load 23 (.tmp 1) ?_); refine wpList_load_row rfl 23 _ rfl g1 rfl 23 #[.int .i64 3, .int .i64 1, .int .i64 19199998, .int .i64 19200003, .int .i64 44, .int .i64 1] (0, 0) _ K1.out Tryd.underlying23 rfl (by kernel_rfl) ?_)
  go_ret
  exact ⟨rfl, HW.out⟩
end Go.Proofs.Sky
