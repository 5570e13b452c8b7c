/-
  lemmas for the theorems of this claim. No conditions beyond those written in the statements.
-/
import Derived.Test.YtpmopobjlpfdaaaDoorI40
import Derived.Laws.StructEq
import Derived.Test.YtpmopobjlpfdaaaDoorKxC
set_option linter.unusedVariables false
set_option linter.unusedSimpArgs false
set_option linter.unnecessarySimpa false
namespace Go.Proofs.Sky
open Go Go.RowKit Go.Shelf
set_option maxHeartbeats 4000000
set_option maxRecDepth 8000
/-! chapter 40: smaller bounds narrow hints, plain -/
theorem mulB {a b A B : Int} (ha : 0 ≤ a ∧ a ≤ A) (hb : 0 ≤ b ∧ b ≤ B) : 0 ≤ a * b ∧ a * b ≤ A * B := ⟨Int.mul_nonneg ha.1 hb.1, Int.mul_le_mul ha.2 hb.2 hb.1 (by omega)⟩
theorem upW_mono {a a' b : Int} (h : a' ≤ a) (hb : 1 ≤ b) : upW a' b ≤ upW a b := by
  unfold upW
  have := Int.ediv_le_ediv (show 0 < b by omega) (show -a ≤ -a' by omega)
  omega
theorem mx28_mono {a b c d : Int} (h1 : a ≤ c) (h2 : b ≤ d) : mx28 a b ≤ mx28 c d := by unfold mx28; split <;> split <;> omega
theorem mn28_mono {a b c d : Int} (h1 : a ≤ c) (h2 : b ≤ d) : mn28 a b ≤ mn28 c d := by unfold mn28; split <;> split <;> omega
/-- two questions of which one has the smaller bounds -/
structure Less (X Y : Nat → Int) : Prop where
  pg : ∀ i, i < 16 → Y i = X i
  t : Y 17 = X 17
  m : Y 20 = X 20
  r : 0 ≤ Y 16 ∧ Y 16 ≤ X 16
  l : 0 ≤ Y 18 ∧ Y 18 ≤ X 18
  c : 0 ≤ Y 19 ∧ Y 19 ≤ X 19
theorem Less.age {X Y : Nat → Int} (h : Less X Y) : ageQ Y ≤ ageQ X := by
  unfold ageQ
  rw [h.t, h.pg 1 (by omega)]
  have := h.l.2
  omega
theorem vQ_mono {c1 c2 a a' : Int} (h : 0 ≤ a' ∧ a' ≤ a) : 0 ≤ vQ c1 c2 a' ∧ vQ c1 c2 a' ≤ vQ c1 c2 a := by
  have hs : 0 ≤ 2 * szW c2 := by unfold szW; omega
  have h1 : 2 * szW c2 * a' ≤ 2 * szW c2 * a := Int.mul_le_mul_of_nonneg_left h.2 hs
  have h2 := upW_mono (b := 1024) h1 (by omega)
  have h3 := (upW_bd (a := 2 * szW c2 * a') (b := 1024) (Int.mul_nonneg hs h.1) (by omega)).1
  have h4 := szW_nn c1
  unfold vQ
  omega
theorem sprK_mono {X Y : Nat → Int} (hpg : ∀ i, i < 16 → Y i = X i) {l l' a a' : Int} (hl : 0 ≤ l' ∧ l' ≤ l) (ha : 0 ≤ a' ∧ a' ≤ a) : ∀ k : Nat, k ≤ 3 → sprK Y l' a' k ≤ sprK X l a k := by
  intro k
  induction k with
  | zero => intro _; exact Int.le_refl _
  | succ k ih =>
    intro hk
    rw [sprK, sprK, hpg (5 + 3 * k) (by omega), hpg (6 + 3 * k) (by omega)]
    have hv := vQ_mono (c1 := X (5 + 3 * k)) (c2 := X (6 + 3 * k)) ha
    have hm : vQ (X (5 + 3 * k)) (X (6 + 3 * k)) a' * l' ≤ vQ (X (5 + 3 * k)) (X (6 + 3 * k)) a * l := Int.mul_le_mul hv.2 hl.2 hl.1 (by omega)
    exact mx28_mono (ih (by omega)) (by omega)
theorem Less.spr {X Y : Nat → Int} (h : Less X Y) (h3 : 0 ≤ X 3) (ha : 0 ≤ ageQ Y) : sprQ Y ≤ sprQ X := by
  have h1 := sprK_mono h.pg h.l ⟨ha, h.age⟩ 3 (by omega)
  have h2 : X 3 * ageQ Y ≤ X 3 * ageQ X := Int.mul_le_mul_of_nonneg_left h.age h3
  have h4 := upW_mono (b := 3600) h2 (by omega)
  unfold sprQ
  rw [h.pg 2 (by omega), h.pg 3 (by omega)]
  omega
theorem Less.at {X Y : Nat → Int} (h : Less X Y) (j : Nat) (hj : j < 3) : atP Y (Y 17) j = atP X (X 17) j := by
  have he : errPg Y = errPg X := errPg_congr (fun i hi => h.pg i (by omega))
  unfold atP errTm
  rw [he, h.t, h.pg 1 (by omega), h.pg (4 + 3 * j) (by omega), h.pg (5 + 3 * j) (by omega), h.pg (6 + 3 * j) (by omega)]
theorem Less.sum {X Y : Nat → Int} (h : Less X Y) : sK40 (pr3 Y) 3 = sK40 (pr3 X) 3 := by
  have e : ∀ Z : Nat → Int, sK40 (pr3 Z) 3 = 0 + (atP Z (Z 17) 0 - Z 13) * (atP Z (Z 17) 0 - Z 13) + (atP Z (Z 17) 1 - Z 14) * (atP Z (Z 17) 1 - Z 14) + (atP Z (Z 17) 2 - Z 15) * (atP Z (Z 17) 2 - Z 15) := fun _ => rfl
  rw [e, e, h.at 0 (by omega), h.at 1 (by omega), h.at 2 (by omega), h.pg 13 (by omega), h.pg 14 (by omega), h.pg 15 (by omega)]
theorem len3_nn (x y z : Int) : 0 ≤ len3 x y z := by unfold len3 szW; omega
theorem Less.narrow {X Y : Nat → Int} (h : Less X Y) (h3 : 0 ≤ X 3) (ha : 0 ≤ ageQ Y) (hw : 0 ≤ sprQ Y) (hm : 1 ≤ X 20) (q : Int) :
    ((pr4 X q) 27 = 0 ∨ (pr4 X q) 27 = (pr4 Y q) 27) ∧ (pr4 X q) 28 ≤ (pr4 Y q) 28 ∧ (pr4 Y q) 29 ≤ (pr4 X q) 29 ∧ (pr4 Y q) 31 ≤ (pr4 X q) 31 := by
  have hs := h.spr h3 ha
  obtain ⟨hr0, hr1⟩ := h.r
  obtain ⟨hc0, hc1⟩ := h.c
  have eU : ∀ Z : Nat → Int, pr4 Z q 27 = upQ40 (pr2 Z) := fun _ => rfl
  have eN : ∀ Z : Nat → Int, pr4 Z q 28 = mx28 0 (q - (2 * sprQ Z + Z 16)) := fun _ => rfl
  have eF : ∀ Z : Nat → Int, pr4 Z q 29 = q + 1 + (2 * sprQ Z + Z 16) := fun _ => rfl
  have eM : ∀ Z : Nat → Int, pr4 Z q 31 = mn28 ((pr4 Z q 29 + Z 19) * 1000 * Z 20 / 299792458 - (pr4 Z q 28 - Z 19) * 1000 * Z 20 / 299792458 + 1) (Z 20) := fun _ => rfl
  have hN : pr4 X q 28 ≤ pr4 Y q 28 := by rw [eN, eN]; exact mx28_mono (Int.le_refl _) (by omega)
  have hF : pr4 Y q 29 ≤ pr4 X q 29 := by rw [eF, eF]; omega
  refine ⟨?_, hN, hF, ?_⟩
  · rw [eU, eU]
    have eB : ∀ Z : Nat → Int, bQ40 (pr2 Z) = sprQ Z * len3 (Z 13) (Z 14) (Z 15) + Z 16 * (len3 (atP Z (Z 17) 0) (atP Z (Z 17) 1) (atP Z (Z 17) 2) + 2 * len3 (Z 13) (Z 14) (Z 15)) + 2 * sprQ Z * Z 16 + Z 16 * Z 16 := fun _ => rfl
    have eF : ∀ Z : Nat → Int, fK40 (pr2 Z) 3 = 0 + (atP Z (Z 17) 0 - Z 13) * Z 13 + (atP Z (Z 17) 1 - Z 14) * Z 14 + (atP Z (Z 17) 2 - Z 15) * Z 15 := fun _ => rfl
    have hf : fK40 (pr2 Y) 3 = fK40 (pr2 X) 3 := by
      rw [eF, eF, h.at 0 (by omega), h.at 1 (by omega), h.at 2 (by omega), h.pg 13 (by omega), h.pg 14 (by omega), h.pg 15 (by omega)]
    have hb : 0 ≤ bQ40 (pr2 Y) ∧ bQ40 (pr2 Y) ≤ bQ40 (pr2 X) := by
      rw [eB, eB, h.at 0 (by omega), h.at 1 (by omega), h.at 2 (by omega), h.pg 13 (by omega), h.pg 14 (by omega), h.pg 15 (by omega)]
      have l1 := len3_nn (X 13) (X 14) (X 15)
      have l2 := len3_nn (atP X (X 17) 0) (atP X (X 17) 1) (atP X (X 17) 2)
      generalize len3 (X 13) (X 14) (X 15) = lu at *
      generalize len3 (atP X (X 17) 0) (atP X (X 17) 1) (atP X (X 17) 2) = ls at *
      have m1 : sprQ Y * lu ≤ sprQ X * lu := Int.mul_le_mul_of_nonneg_right hs l1
      have m2 : Y 16 * (ls + 2 * lu) ≤ X 16 * (ls + 2 * lu) := Int.mul_le_mul_of_nonneg_right hr1 (by omega)
      have m3 : 2 * sprQ Y * Y 16 ≤ 2 * sprQ X * X 16 := Int.mul_le_mul (by omega) hr1 hr0 (by omega)
      have m4 : Y 16 * Y 16 ≤ X 16 * X 16 := Int.mul_le_mul hr1 hr1 hr0 (by omega)
      have n1 := Int.mul_nonneg hw l1
      have n2 := Int.mul_nonneg hr0 (show 0 ≤ ls + 2 * lu by omega)
      have n3 := Int.mul_nonneg (show 0 ≤ 2 * sprQ Y by omega) hr0
      have n4 := Int.mul_nonneg hr0 hr0
      omega
    unfold upQ40
    rw [hf]
    generalize fK40 (pr2 X) 3 = f at *
    generalize bQ40 (pr2 X) = b at *
    generalize bQ40 (pr2 Y) = b' at *
    by_cases h1 : b < f
    · right; rw [if_pos h1, if_pos (by omega)]
    · by_cases h2 : f < -b
      · right
        rw [if_neg h1, if_pos h2]
        by_cases h5 : b' < f
        · exfalso; omega
        · rw [if_neg h5, if_pos (by omega)]
      · left; rw [if_neg h1, if_neg h2]
  · rw [eM, eM, h.m]
    generalize pr4 X q 28 = n at *
    generalize pr4 Y q 28 = n' at *
    generalize pr4 X q 29 = f at *
    generalize pr4 Y q 29 = f' at *
    have k1 : (n - X 19) * 1000 * X 20 ≤ (n' - Y 19) * 1000 * X 20 := Int.mul_le_mul_of_nonneg_right (by omega) (by omega)
    have k2 : (f' + Y 19) * 1000 * X 20 ≤ (f + X 19) * 1000 * X 20 := Int.mul_le_mul_of_nonneg_right (by omega) (by omega)
    have k3 := Int.ediv_le_ediv (show (0 : Int) < 299792458 by omega) k1
    have k4 := Int.ediv_le_ediv (show (0 : Int) < 299792458 by omega) k2
    exact mn28_mono (by omega) (Int.le_refl _)
end Go.Proofs.Sky

namespace Go.Proofs.Sky
open Go Go.RowKit Go.Shelf
attribute [local go_sem] Oper.semAt_some
set_option maxHeartbeats 4000000
set_option maxRecDepth 8000
/-! chapter 40: the examples -/
theorem eqH_self (a b c d e f : Int) (w : World) : (Op.equalIn 10000 23 (.agg #[.int .i64 a, .int .i64 b, .int .i64 c, .int .i64 d, .int .i64 e, .int .i64 f]) (.agg #[.int .i64 a, .int .i64 b, .int .i64 c, .int .i64 d, .int .i64 e, .int .i64 f])).run Tryd.prog w = .ok true w := by
  rw [show (10000 : Nat) = 9998 + 1 + 1 from rfl, run_equalIn_agg _ _ _ _ _ (by kernel_rfl) (by kernel_rfl)]
  simp only [Program.fieldsOf, Tryd.underlying23]
  have h1 : ∀ w, (sizeOf 3).run Tryd.prog w = .ok 1 w := fun w => by kernel_rfl
  have hi : Tryd.prog.underlying 3 = some (.int .i64) := by kernel_rfl
  simp [Op.eqFields, part, h1, go_sem, run_underlying hi, run_equalIn_int _ _ _ _ _ _ _ hi]
theorem eqH_guard (x y : Array Value) (op : BinOp) (p q : Operand) (w : World) : (eqGuard op 23 p q (.agg x) (.agg y)).run Tryd.prog w = .ok () w := run_eqGuard_agg w op _ _ _ _ _ (by kernel_rfl)
def plX4 : Nat → Int := fun i => [3, 1000, 0, 0, 400000, 0, 0, 0, 0, 0, 0, 0, 0].getD i 0
theorem plain40_any (w : World) : Calls Tryd.prog 8 #[] w fun e w' => e = .returned (.agg (pgV plX4)) ∧ Bw w w' := by
  have KR := Lib.hid (Blk.new w 29 #[.int .i64 0, .int .i64 0, .int .i64 0, .int .i64 0, .int .i64 0, .int .i64 0, .int .i64 0, .int .i64 0, .int .i64 0, .int .i64 0, .int .i64 0, .int .i64 0, .int .i64 0])
  have HW := Lib.hid (Bw.alloc (Bw.refl w) (.cells #[.int .i64 0, .int .i64 0, .int .i64 0, .int .i64 0, .int .i64 0, .int .i64 0, .int .i64 0, .int .i64 0, .int .i64 0, .int .i64 0, .int .i64 0, .int .i64 0, .int .i64 0] 29))
  go_enter Tryd.func8, Tryd.ntmps8
  go_wp2_with ((with_reducible refine at_store 29 (.tmp 0) (.tmp 2) ?_); refine wpList_store_row rfl 29 (.tmp 0) (.tmp 2) rfl w.heap.size (pgV plX4) rfl rfl 29 _ KR.out (by kernel_rfl) rfl (by simp [Value.oneCell', pgV]) ?_)
  refine bodyPost_ret (v := .agg (pgV plX4)) ?_ rfl ⟨rfl, Bw.setRow HW.out (Nat.le_refl _) _⟩
  exact results_cell_row (p := 0) rfl _ _ w.heap.size _ _ (0, 0) _ rfl (KR.out.row _) Tryd.underlying29 rfl (by kernel_rfl)
theorem at40_any (x : Int) (w : World) : Calls Tryd.prog 9 #[.int .i64 x] w fun e w' => e = .returned (.agg #[.int .i64 x, .int .i64 0, .int .i64 0]) ∧ Bw w w' := by
  have KR := Lib.hid (Blk.new w 32 #[.int .i64 0, .int .i64 0, .int .i64 0])
  have HW := Lib.hid (Bw.alloc (Bw.refl w) (.cells #[.int .i64 0, .int .i64 0, .int .i64 0] 32))
  go_enter Tryd.func9, Tryd.ntmps9
  go_wp2_with ((with_reducible refine at_store 32 (.tmp 2) (.tmp 4) ?_); refine wpList_store_row rfl 32 (.tmp 2) (.tmp 4) rfl w.heap.size #[.int .i64 x, .int .i64 0, .int .i64 0] rfl rfl 32 _ KR.out (by kernel_rfl) rfl (by simp [Value.oneCell']) ?_)
  refine bodyPost_ret (v := .agg #[.int .i64 x, .int .i64 0, .int .i64 0]) ?_ rfl ⟨rfl, Bw.setRow HW.out (Nat.le_refl _) _⟩
  exact results_cell_row (p := 2) rfl _ _ w.heap.size _ _ (0, 0) _ rfl (KR.out.row _) Tryd.underlying32 rfl (by kernel_rfl)
def qA : Nat → Int := X0p plX4 6400000 0 0 0 1000 0 0 1000
def qB : Nat → Int := X0p plX4 (-6400000) 0 0 0 1000 0 0 1000
theorem qA_ok : prE qA = 0 := by kernel_rfl
theorem qB_ok : prE qB = 0 := by kernel_rfl
theorem qA_s : sK40 (pr3 qA) 3 = 368640000000000 := by kernel_rfl
theorem qB_s : sK40 (pr3 qB) 3 = 1024000000000000 := by kernel_rfl
theorem qA_h : hV (pr4 qA 19200000) = #[.int .i64 3, .int .i64 1, .int .i64 19199998, .int .i64 19200003, .int .i64 44, .int .i64 1] := by kernel_rfl
theorem qB_h : ∃ n f l m, hV (pr4 qB 32000000) = #[.int .i64 3, .int .i64 (-1), .int .i64 n, .int .i64 f, .int .i64 l, .int .i64 m] := ⟨(pr4 qB 32000000) 28, (pr4 qB 32000000) 29, (pr4 qB 32000000) 30, (pr4 qB 32000000) 31, by
  unfold hV
  rw [show pr4 qB 32000000 26 = 3 by kernel_rfl, show pr4 qB 32000000 27 = -1 by kernel_rfl]⟩
theorem awake40_any (w : World) (hw : WdAt w) : Calls Tryd.prog 14 #[] w fun e w' => e = .returned (.bool true) ∧ Bw w w' := by
  have HWD := Lib.hid hw
  have PLN := Lib.hid (fun W => plain40_any W)
  have AT := Lib.hid (fun x W => at40_any x W)
  have PA := Lib.hid (fun W h => Predict_ok plX4 6400000 0 0 0 1000 0 0 1000 19200000 W h qA_ok (fun k hk => by match k, hk with | 0, _ | 1, _ | 2, _ => decide) (by decide) (by show _ ≤ sK40 (pr3 qA) 3; rw [qA_s]; decide) (by show sK40 (pr3 qA) 3 < _; rw [qA_s]; decide))
  have PB := Lib.hid (fun W h => Predict_ok plX4 (-6400000) 0 0 0 1000 0 0 1000 32000000 W h qB_ok (fun k hk => by match k, hk with | 0, _ | 1, _ | 2, _ => decide) (by decide) (by show _ ≤ sK40 (pr3 qB) 3; rw [qB_s]; decide) (by show sK40 (pr3 qB) 3 < _; rw [qB_s]; decide))
  have FI := Lib.hid (fun W => Fits_ok 0 0 0 0 998 3 0 1000 W (by decide) (by decide) (by decide) (by decide))
  rw [show decide (((0 : Int) - 998 + 1000) % 1000 < 3) = true from by decide] at FI
  obtain ⟨n, f, l, m, hqb⟩ := qB_h
  have ea := qA_h
  unfold qA at ea
  unfold qB at hqb
  rw [ea] at PA
  rw [hqb] at PB
  have hq2 := fun a b c d e f W => eqH_self a b c d e f W
  have hgg := fun W a b op p q => eqH_guard a b op p q W
  clear ea hqb hw
  obtain ⟨A, hA⟩ : ∃ A, A = pgV plX4 := ⟨_, rfl⟩
  rw [← hA] at PLN PA PB
  clear hA
  have HW := Lib.hid (Bw.refl w)
  have HZ6 := Lib.hid (fun (W : World) => Blk.new W 23 #[.int .i64 0, .int .i64 0, .int .i64 0, .int .i64 0, .int .i64 0, .int .i64 0])
  go_enter Tryd.func14, Tryd.ntmps14
  go_upto_region 2 with (first | (go_at_call 8; (with_reducible refine Calls.mono (PLN.out _) ?_); rintro e1 w1 ⟨rfl, hb1⟩; replace HW := Lib.hid (HW.out.trans hb1); clear hb1) | (go_at_call 9; (with_reducible refine Calls.mono (AT.out _ _) ?_); rintro e1 w1 ⟨rfl, hb1⟩; replace HW := Lib.hid (HW.out.trans hb1); clear hb1) | (go_at_call 7; (with_reducible refine Calls.mono (PA.out _ (HWD.out.bw HW.out)) ?_); rintro e1 w1 ⟨rfl, hb1⟩; replace HW := Lib.hid (HW.out.trans hb1); clear hb1) | ((with_reducible refine at_store 23 (.tmp 1) (.tmp 11) ?_); refine wpList_store_row rfl 23 (.tmp 1) (.tmp 11) rfl w1.heap.size #[.int .i64 3, .int .i64 1, .int .i64 19199998, .int .i64 19200003, .int .i64 44, .int .i64 1] rfl rfl 23 #[.int .i64 0, .int .i64 0, .int .i64 0, .int .i64 0, .int .i64 0, .int .i64 0] (HZ6.out w1) (by kernel_rfl) rfl (by simp [Value.oneCell']) ?_))
  obtain ⟨g1, hg1⟩ : ∃ g1, w1.heap.size = g1 := ⟨_, rfl⟩
  have hb2 := Bw.setRow (Bw.alloc (Bw.refl w1) (.cells #[.int .i64 0, .int .i64 0, .int .i64 0, .int .i64 0, .int .i64 0, .int .i64 0] 23)) (Nat.le_of_eq hg1) #[.int .i64 3, .int .i64 1, .int .i64 19199998, .int .i64 19200003, .int .i64 44, .int .i64 1]
  have K1 := Lib.hid ((HZ6.out w1).row #[.int .i64 3, .int .i64 1, .int .i64 19199998, .int .i64 19200003, .int .i64 44, .int .i64 1])
  rw [hg1] at K1 ⊢
  replace HW := Lib.hid (HW.out.trans hb2)
  generalize World.setRow (World.alloc w1 _) _ _ = w1 at *
  clear hb2 hg1
  (try simp only [Act.put])
  go_upto_region 3 with (first | (go_at_call 8; (with_reducible refine Calls.mono (PLN.out _) ?_); rintro e1 w1 ⟨rfl, hb1⟩; replace K1 := Lib.hid (K1.out.bw hb1); replace HW := Lib.hid (HW.out.trans hb1); clear hb1) | (go_at_call 9; (with_reducible refine Calls.mono (AT.out _ _) ?_); rintro e1 w1 ⟨rfl, hb1⟩; replace K1 := Lib.hid (K1.out.bw hb1); replace HW := Lib.hid (HW.out.trans hb1); clear hb1) | (go_at_call 7; (with_reducible refine Calls.mono (PB.out _ (HWD.out.bw HW.out)) ?_); rintro e1 w1 ⟨rfl, hb1⟩; replace HW := Lib.hid (HW.out.trans hb1); replace K1 := Lib.hid (K1.out.bw hb1); clear hb1) | ((with_reducible refine at_store 23 (.tmp 3) (.tmp 17) ?_); refine wpList_store_row rfl 23 (.tmp 3) (.tmp 17) rfl w1.heap.size #[.int .i64 3, .int .i64 (-1), .int .i64 n, .int .i64 f, .int .i64 l, .int .i64 m] rfl rfl 23 #[.int .i64 0, .int .i64 0, .int .i64 0, .int .i64 0, .int .i64 0, .int .i64 0] (HZ6.out w1) (by kernel_rfl) rfl (by simp [Value.oneCell']) ?_))
  obtain ⟨g3, hg3⟩ : ∃ g3, w1.heap.size = g3 := ⟨_, rfl⟩
  have hb2 := Bw.setRow (Bw.alloc (Bw.refl w1) (.cells #[.int .i64 0, .int .i64 0, .int .i64 0, .int .i64 0, .int .i64 0, .int .i64 0] 23)) (Nat.le_of_eq hg3) #[.int .i64 3, .int .i64 (-1), .int .i64 n, .int .i64 f, .int .i64 l, .int .i64 m]
  have K3 := Lib.hid ((HZ6.out w1).row #[.int .i64 3, .int .i64 (-1), .int .i64 n, .int .i64 f, .int .i64 l, .int .i64 m])
  rw [hg3] at K3 ⊢
  replace HW := Lib.hid (HW.out.trans hb2)
  replace K1 := Lib.hid (K1.out.bw hb2)
  generalize World.setRow (World.alloc w1 _) _ _ = w1 at *
  clear hb2 hg3
  (try simp only [Act.put])
  go_upto_region 4 with ((go_at_call 11; (with_reducible refine Calls.mono (FI.out _) ?_); rintro e1 w1 ⟨rfl, hb1⟩; replace HW := Lib.hid (HW.out.trans hb1); replace K1 := Lib.hid (K1.out.bw hb1); replace K3 := Lib.hid (K3.out.bw hb1); clear hb1))
  have d1 := K3.out.cell (show (#[.int .i64 3, .int .i64 (-1), .int .i64 n, .int .i64 f, .int .i64 l, .int .i64 m] : Array Value)[1]? = some (.int .i64 (-1)) from rfl)
  go_wp2_with ((with_reducible refine at_load 23 (.tmp 1) ?_); refine wpList_load_row rfl 23 _ rfl g1 rfl 23 #[.int .i64 3, .int .i64 1, .int .i64 19199998, .int .i64 19200003, .int .i64 44, .int .i64 1] (0, 0) _ K1.out Tryd.underlying23 rfl (by kernel_rfl) ?_)
  go_ret
  exact ⟨rfl, HW.out⟩
end Go.Proofs.Sky

namespace Go.Proofs.Sky
open Go Go.RowKit Go.Shelf
attribute [local go_sem] Oper.semAt_some
set_option maxHeartbeats 4000000
set_option maxRecDepth 8000
/-! chapter 40: a row of hints that is written in place -/
def MemH (w : World) (g : Nat) (hs : List (Nat → Int)) (rest : List Value) : Prop := Blk w g 23 (flatH hs ++ rest).toArray
def putLL : List Value → Nat → List Value → List Value
  | l, _, [] => l
  | l, o, v :: r => putLL (l.set o v) (o + 1) r
theorem putLL_eq : ∀ (vs : List Value) (o : Nat) (l : List Value), o + vs.length ≤ l.length → putLL l o vs = l.take o ++ vs ++ l.drop (o + vs.length)
  | [], o, l, _ => by simp [putLL]
  | v :: r, o, l, h => by
    have hl : o < l.length := by simp at h; omega
    have hm : min o l.length = o := by omega
    rw [putLL, putLL_eq r (o + 1) (l.set o v) (by simp at h ⊢; omega), List.set_eq_take_append_cons_drop, if_pos hl]
    have h1 : List.take (o + 1) (List.take o l ++ v :: List.drop (o + 1) l) = List.take o l ++ [v] := by
      rw [List.take_append, List.length_take, hm, List.take_of_length_le (by rw [List.length_take]; omega), show o + 1 - o = 1 by omega]; rfl
    have h2 : List.drop (o + 1 + r.length) (List.take o l ++ v :: List.drop (o + 1) l) = List.drop (o + (v :: r).length) l := by
      rw [List.drop_append, List.length_take, hm, List.drop_eq_nil_of_le (by rw [List.length_take]; omega), List.nil_append, show o + 1 + r.length - o = r.length + 1 by omega, List.drop_succ_cons, List.drop_drop]
      congr 1
      simp; omega
    rw [h1, h2]
    simp
theorem blk_sets {g : Nat} {T : TypeId} : ∀ (vs : List Value) (o : Nat) (w : World) (l : List Value), Blk w g T l.toArray → Blk (w.setCells g o vs) g T (putLL l o vs).toArray
  | [], _, _, _, h => h
  | v :: r, o, w, l, h => by
    rw [World.setCells]
    refine blk_sets r (o + 1) _ (l.set o v) ?_
    have h9 := Blk.set h o v
    rwa [List.setIfInBounds_toArray] at h9
theorem flatH_set (hs : List (Nat → Int)) (k : Nat) (x : Nat → Int) (hk : k < hs.length) : flatH (hs.set k x) = (flatH hs).take (k * 6) ++ hnc x ++ (flatH hs).drop (k * 6 + 6) := by
  rw [List.set_eq_take_append_cons_drop, if_pos hk, flatH_append, flatH_cons, flatH_take, flatH_drop, show (k + 1) * 6 = k * 6 + 6 by omega, List.append_assoc]
theorem MemH.set {w : World} {g : Nat} {hs : List (Nat → Int)} {rest : List Value} (h : MemH w g hs rest) {k : Nat} (hk : k < hs.length) (x : Nat → Int) : MemH (w.setCells g (k * 6) (hnc x)) g (hs.set k x) rest := by
  have h9 := blk_sets (hnc x) (k * 6) w _ h
  rw [putLL_eq _ _ _ (by rw [List.length_append, flatH_len, hnc_len]; omega)] at h9
  unfold MemH
  rw [flatH_set hs k x hk, List.append_assoc, List.append_assoc]
  rw [hnc_len, List.take_append_of_le_length (by rw [flatH_len]; omega), List.drop_append_of_le_length (by rw [flatH_len]; omega), List.append_assoc] at h9
  exact h9
theorem MemH.rg {w : World} {g : Nat} {hs : List (Nat → Int)} {rest : List Value} (h : MemH w g hs rest) {k : Nat} {x : Nat → Int} (hx : hs[k]? = some x) : w.rangeAt g (k * 6) (hnc x) := fun j u hu => by
  have hj : j < 6 := (List.getElem?_eq_some_iff.1 hu).1
  have hk : k < hs.length := (List.getElem?_eq_some_iff.1 hx).1
  refine Blk.cell h ?_
  rw [List.getElem?_toArray, List.getElem?_append_left (by rw [flatH_len]; omega), flatH_at hs k x hx j hj, hu]
theorem MemH.there {w : World} {g : Nat} {hs : List (Nat → Int)} {rest : List Value} (h : MemH w g hs rest) {k : Nat} (hk : k < hs.length) : w.there g (k * 6) 6 := blk_there h (by simp [flatH_len]; omega)
theorem MemH.bw {w w' : World} {g : Nat} {hs : List (Nat → Int)} {rest : List Value} (h : MemH w g hs rest) (hb : Bw w w') : MemH w' g hs rest := Blk.bw h hb
theorem MemH.lt {w : World} {g : Nat} {hs : List (Nat → Int)} {rest : List Value} (h : MemH w g hs rest) : g < w.heap.size := Blk.lt h
theorem MemH.at {w : World} {g : Nat} {hs : List (Nat → Int)} {rest : List Value} (h : MemH w g hs rest) {k : Nat} (hk : k < hs.length) : w.rangeAt g (k * 6) (hnc (hs.getD k fun _ => 0)) := h.rg (by rw [List.getD_eq_getElem?_getD, List.getElem?_eq_getElem hk]; rfl)
theorem Kx.sets {g : Nat} : ∀ (vs : List Value) (o : Nat) (w : World), g < w.heap.size → Kx g w (w.setCells g o vs)
  | [], _, w, h => Kx.of_bw (Bw.refl _) (Nat.le_of_lt h)
  | v :: r, o, w, h => by
    rw [World.setCells]
    exact (Kx.set h v).trans (Kx.sets r (o + 1) _ (by simpa using h))
theorem MemH.rdH {w : World} {g c : Nat} {hs : List (Nat → Int)} {rest : List Value} (h : MemH w g hs rest) (hl : hs.length ≤ 9223372036854775807) : RdH w (.slice (some ⟨g, 0, none⟩) hs.length c) hs :=
  ⟨hl, _, _, rfl, .inr ⟨g, 0, rfl, h.lt, fun i x hi => by rw [Nat.zero_add]; exact h.rg hi⟩⟩
theorem dropB_any (x : Nat → Int) (w : World) : Calls Tryd.prog 30 #[.agg (hnV x)] w fun e w' => e = .returned (.bool (decide (x 1 = -1))) ∧ Bw w w' := by
  have K := Lib.hid (Blk.new w 23 (hnV x))
  have HW := Lib.hid (Bw.alloc (Bw.refl w) (.cells (hnV x) 23))
  have d1 := K.out.cell (show (hnV x)[1]? = some (.int .i64 (x 1)) from rfl)
  have HE := Lib.hid (show (x 1 == -1) = decide (x 1 = -1) from rfl)
  generalize hnV x = A at *
  generalize x 1 = y at *
  generalize decide (y = -1) = b at *
  have hb := HE.out
  go_enter Tryd.func30, Tryd.ntmps30
  go_wp2
  go_ret
  exact ⟨rfl, HW.out⟩
def ixH (f : (Nat → Int) → Bool) (hs : List (Nat → Int)) : Int := match hs.findIdx? f with | some k => k | none => -1
theorem ixH_at (f : (Nat → Int) → Bool) (hs : List (Nat → Int)) (k : Nat) (hk : k < hs.length) (h : f (hs.getD k fun _ => 0) = true) (hA : ∀ j, j < k → f (hs.getD j fun _ => 0) = false) : ixH f hs = k := by
  have : hs.findIdx? f = some k := List.findIdx?_eq_some_iff_getElem.2 ⟨hk, by simpa [List.getD_eq_getElem?_getD, List.getElem?_eq_getElem hk] using h, fun j hj => by
    have := hA j hj
    simpa [List.getD_eq_getElem?_getD, List.getElem?_eq_getElem (show j < hs.length by omega)] using this⟩
  unfold ixH; rw [this]
theorem ixH_none (f : (Nat → Int) → Bool) (hs : List (Nat → Int)) (hA : ∀ j, j < hs.length → f (hs.getD j fun _ => 0) = false) : ixH f hs = -1 := by
  have : hs.findIdx? f = none := List.findIdx?_eq_none_iff.2 fun x hx => by
    obtain ⟨j, hj, rfl⟩ := List.mem_iff_getElem.1 hx
    have := hA j hj
    simpa [List.getD_eq_getElem?_getD, List.getElem?_eq_getElem hj] using this
  unfold ixH; rw [this]
theorem indexFuncH_any (f : (Nat → Int) → Bool) (fn : Nat) (eg : ∀ args w, (callFunc fn args).run Tryd.prog w = .ok (.enter fn args) w)
   (hs : List (Nat → Int)) (v : Value) (w : World)
   (hp : ∀ x W, Calls Tryd.prog fn #[.agg (hnV x)] W fun e w' => e = .returned (.bool (f x)) ∧ Bw W w')
   (hv : RdH w v hs) :
   Calls Tryd.prog 49 #[v, .func (.func fn) #[] #[]] w fun e w' => e = .returned (.int .i64 (ixH f hs)) ∧ Bw w w' := by
  obtain ⟨h2, a, cap, rfl, h4⟩ := hv
  obtain ⟨n, hn⟩ : ∃ n, n = hs.length := ⟨_, rfl⟩
  rw [← hn] at h2 ⊢
  have HN := Lib.hid hn; clear hn
  have H4 := Lib.hid h4; clear h4
  have HP := Lib.hid hp; clear hp
  have HAT := Lib.hid (fun k hk h hA => ixH_at f hs k hk h hA)
  have HNO := Lib.hid (fun hA => ixH_none f hs hA)
  generalize ixH f hs = R at *
  go_enter Tryd.func49, Tryd.ntmps49
  go_wp2
  go_loopg [5, 8] n (fun gg _ s8 wr => ∃ kk : Nat, kk ≤ n ∧ n - kk ≤ gg ∧ s8 = .int .i64 kk ∧ Hid (Bw w wr) ∧ Hid (∀ j, j < kk → f (hs.getD j fun _ => 0) = false))
  case atStart => exact ⟨0, Nat.zero_le _, by omega, rfl, Bw.refl _, fun j hj => absurd hj (Nat.not_lt_zero _)⟩
  case round =>
    obtain ⟨kk, hkk, hg, rfl, hbw, A⟩ := hrel
    by_cases hlt : kk < n
    · have hltz : (kk : Int) < (n : Int) := by omega
      have hq := HN.out
      obtain ⟨b, off, rfl, hb, hc⟩ := H4.out.resolve_left (by intro h; rw [h] at hq; simp at hq; omega)
      have R9 := Lib.hid (show wr.rangeAt b (off + kk * 6) (hnc (hs.getD kk fun _ => 0)) from fun j u hu => hbw.out.cell' (hc kk _ (by rw [List.getD_eq_getElem?_getD, List.getElem?_eq_getElem (by omega)]; rfl) j u hu))
      have HAK := Lib.hid (fun h => HAT.out kk (by omega) h A.out)
      have HAN := Lib.hid (fun h => (fun j (hj : j < kk + 1) => (by
          rcases Nat.lt_succ_iff_lt_or_eq.1 hj with h' | rfl
          · exact A.out j h'
          · exact h) : ∀ j, j < kk + 1 → f (hs.getD j fun _ => 0) = false))
      generalize (hs.getD kk fun _ => 0) = x at R9 HAK HAN
      have hcall := HP.out x
      clear hc H4 hq
      generalize hpx : f x = bx at hcall HAK HAN
      have HC := Lib.hid hcall; clear hcall hpx
      cases bx with
      | true =>
        have HG := Lib.hid (HAK.out rfl)
        go_wp2_with (first | ((with_reducible refine at_load 23 (.tmp 14) ?_); refine wpList_load_hn rfl (.tmp 14) rfl b (off + kk * 6) (by simp [Act.eval, Act.put]) R9.out ?_) | (go_at_fn fn; refine (HC.out _).mono ?_; rintro e w' ⟨rfl, hb2⟩))
        go_ret
        exact ⟨ret_int HG.out.symm, hbw.out.trans hb2⟩
      | false =>
        have HG := Lib.hid (HAN.out rfl)
        go_wp2_with (first | ((with_reducible refine at_load 23 (.tmp 14) ?_); refine wpList_load_hn rfl (.tmp 14) rfl b (off + kk * 6) (by simp [Act.eval, Act.put]) R9.out ?_) | (go_at_fn fn; refine (HC.out _).mono ?_; rintro e w' ⟨rfl, hb2⟩))
        go_roundg (n - (kk + 1))
        case measure => omega
        case rel => exact ⟨kk + 1, by omega, by omega, by go_num, Lib.hid (hbw.out.trans hb2), Lib.hid HG.out⟩
    · have hltz : ¬ (kk : Int) < (n : Int) := by omega
      have hkn : kk = n := by omega
      have HG := Lib.hid (HNO.out (fun j hj => A.out j (by have := HN.out; omega)))
      subst hkn
      go_wp2
      go_ret
      exact ⟨ret_int HG.out.symm, hbw.out⟩
end Go.Proofs.Sky

namespace Go.Proofs.Sky
open Go Go.RowKit Go.Shelf
attribute [local go_sem] Oper.semAt_some
set_option maxHeartbeats 4000000
set_option maxRecDepth 8000
/-! chapter 40: insertionSortCmpFunc -/
/-- what a sort of the places a..b leaves behind -/
def SortP (g a b : Nat) (hs : List (Nat → Int)) (rest : List Value) (w : World) (e : Ending) (w' : World) : Prop := (∃ v, e = .returned v) ∧ ∃ hs', MemH w' g hs' rest ∧ Kx g w w' ∧ PI a b hs hs' ∧ Srt a b hs'
theorem quiet_load40 {P : Program} {o : Oper} {a : Act} {C : World → Prop} {K : Act → Prop} (v : Value) (dst : Option Tmp) (hd : o.dst = dst) (hv : ∀ w, C w → (execOp a.eval o).run P w = .ok (.value v) w) (h : K (a.put dst v)) : o.quiet P a C K := by
  subst hd
  refine ⟨v, fun w hw => ?_, h⟩
  unfold Oper.quietAt Oper.quietUpon
  rw [hv w hw]
  exact ⟨rfl, rfl⟩
theorem insSortH_any (hs : List (Nat → Int)) (rest : List Value) (g c a b : Nat) (w : World) (hm : MemH w g hs rest) (hl : hs.length ≤ 1000000) (hab : a ≤ b) (hb : b ≤ hs.length) :
   Calls Tryd.prog 58 #[.slice (some ⟨g, 0, none⟩) hs.length c, .int .i64 a, .int .i64 b, .func (.func 32) #[] #[]] w (SortP g a b hs rest w) := by
  have HM0 := Lib.hid hm
  have hgl := hm.lt
  have CF := Lib.hid (fun x y W => cmpH_any x y W)
  have eg : ∀ args w, (callFunc 32 args).run Tryd.prog w = .ok (.enter 32 args) w := enters_of Tryd.func32 (by kernel_rfl) rfl
  clear hm
  have HN := Lib.hid (show hs.length = hs.length from rfl)
  obtain ⟨n, hn⟩ : ∃ n, hs.length = n := ⟨_, rfl⟩
  replace HN := Lib.hid hn
  rw [hn] at hl hb ⊢
  clear hn
  have hwa : IntKind.i64.wrap ((a : Int) + 1) = (a : Int) + 1 := by rw [IntKind.wrap_i64]; omega
  go_enter Tryd.func58, Tryd.ntmps58
  go_wp2
  go_loopg [8] n (fun gg s8 wr => ∃ i cur, a < i ∧ (i ≤ b ∨ i = a + 1) ∧ n + 1 - i ≤ gg ∧ s8 = .int .i64 ((i : Nat) : Int) ∧ Hid (MemH wr g cur rest) ∧ Hid (Kx g w wr) ∧ Hid (PI a b hs cur ∧ Srt a i cur))
  case atStart => exact ⟨a + 1, hs, by omega, .inr rfl, by omega, by go_num, Lib.hid HM0.out, Lib.hid (Kx.of_bw (Bw.refl _) (Nat.le_of_lt hgl)), Lib.hid ⟨PI.refl _ _ _, fun p q h1 h2 h3 => by omega⟩⟩
  case round =>
    obtain ⟨i, cur0, hai, hib, hgg, rfl, HMr, HKr, HF⟩ := hrel
    obtain ⟨wb, rfl⟩ : ∃ wb, wb = wr := ⟨_, rfl⟩
    by_cases hlt : i < b
    · have hltz : (i : Int) < (b : Int) := by omega
      have hwi : IntKind.i64.wrap ((i : Int) + 1) = (i : Int) + 1 := by rw [IntKind.wrap_i64]; omega
      go_wp2
      go_loopg [9] n (fun g2 s9 wi => ∃ J cur, a ≤ J ∧ J ≤ i ∧ J ≤ g2 ∧ s9 = .int .i64 ((J : Nat) : Int) ∧ Hid (MemH wi g cur rest) ∧ Hid (Kx g w wi) ∧ Hid (PI a b hs cur ∧ SrtX a J i cur))
      case atStart => exact ⟨i, cur0, by omega, by omega, by omega, rfl, HMr, HKr, Lib.hid ⟨HF.out.1, SrtX.start HF.out.2⟩⟩
      case round =>
        obtain ⟨J, cur, haJ, hJi, hg2, rfl, HM, HK, HG⟩ := hrel
        obtain ⟨wi, rfl⟩ : ∃ wc, wc = wr := ⟨_, rfl⟩
        have hcl : cur.length = n := by rw [HG.out.1.len, HN.out]
        by_cases hj : a < J
        · have hjz : (a : Int) < (J : Int) := by omega
          obtain ⟨m, hJ⟩ : ∃ m, J = m + 1 := ⟨J - 1, by omega⟩
          have hwj : IntKind.i64.wrap ((J : Int) - 1) = (m : Int) := by rw [IntKind.wrap_i64]; omega
          have hjn : (J : Int) < (n : Int) := by omega
          have hmn : (m : Int) < (n : Int) := by omega
          have hwm : IntKind.i64.wrap (m : Int) = (m : Int) := by rw [IntKind.wrap_i64]; omega
          have RJ := Lib.hid (HM.out.rg (at0_some (l := cur) (i := J) (by omega)))
          have RM := Lib.hid (HM.out.rg (at0_some (l := cur) (i := m) (by omega)))
          have HDONE := Lib.hid (fun h => SrtX.done HG.out.2 hj h hJi)
          have HSTEP := Lib.hid (fun h => SrtX.step HG.out.2 hj hJi (by omega) h)
          have HPS := Lib.hid (HG.out.1.trans (PI.sw (a := a) (b := b) (l := cur) (i := J) (j := m) (by omega) (by omega) (by omega) (by omega) (by omega)))
          have HSW := Lib.hid (show (cur.set J (at0 cur m)).set m (at0 cur J) = swH cur J m from rfl)
          have HJL := Lib.hid (show J < cur.length by omega)
          have HML2 := Lib.hid (show m < (cur.set J (at0 cur m)).length by rw [List.length_set]; omega)
          rw [show J - 1 = m by omega] at HDONE HSTEP
          clear hcl
          generalize at0 cur J = x at *
          generalize at0 cur m = y at *
          have CC := Lib.hid (fun W => CF.out x y W)
          obtain ⟨cc, hcc⟩ : ∃ cc, cmpHn x y = cc := ⟨_, rfl⟩
          rw [hcc] at CC HDONE HSTEP
          clear hcc
          have HJM := Lib.hid hJ
          clear hJ
          go_upto_region 4 with fail
          refine wp_region_quiet_ext (by kernel_rfl) (by kernel_rfl) ?_
          (repeat (go_big_quiet_step (fail)))
          go_big_quiet_want
          refine quiet_load40 (.agg (hnV x)) (some 26) rfl (fun W hW => ?_) ?_
          · obtain ⟨p, rfl⟩ := hW
            exact run_load_hn (.tmp 25) rfl g (J * 6) (by simp [Act.eval, Act.put]) (rg_bw9 RJ.out p.b)
          simp only [Act.put, List.setIfInBounds_toArray, List.set_cons_zero, List.set_cons_succ]
          go_big_quiet_on
          (repeat (go_big_quiet_step (fail)))
          go_big_quiet_want
          refine quiet_load40 (.agg (hnV y)) (some 31) rfl (fun W hW => ?_) ?_
          · obtain ⟨p, rfl⟩ := hW
            exact run_load_hn (.tmp 30) rfl g (m * 6) (by simp [Act.eval, Act.put]) (rg_bw9 RM.out p.b)
          simp only [Act.put, List.setIfInBounds_toArray, List.set_cons_zero, List.set_cons_succ]
          go_big_quiet_on
          (repeat (go_big_quiet_step ((go_at_fn 32; with_reducible exact Calls.ext_of (CC.out _)))))
          refine wpQuiet_nil ?_
          rintro wq ⟨⟨_, hbq⟩, rfl⟩
          replace RJ := Lib.hid (rg_bw9 RJ.out hbq)
          replace RM := Lib.hid (rg_bw9 RM.out hbq)
          replace HK := Lib.hid (HK.out.trans (Kx.of_bw hbq (Nat.le_of_lt HM.out.lt)))
          replace HM := Lib.hid (HM.out.bw hbq)
          clear hbq
          by_cases hc : cc < 0
          · have HS2 := Lib.hid (HSTEP.out hc)
            go_upto_region 6 with fail
            refine wp_region_held_drew (S := fun _ => True) (by kernel_rfl) trivial (fun hS => ?_)
            have hdr := Bw.drew (Bw.refl wq)
            replace RJ := Lib.hid (rg_bw9 RJ.out hdr)
            replace RM := Lib.hid (rg_bw9 RM.out hdr)
            replace HK := Lib.hid (HK.out.trans (Kx.of_bw hdr (Nat.le_of_lt HM.out.lt)))
            replace HM := Lib.hid (HM.out.bw hdr)
            clear hdr
            generalize World.drew _ = wd at *
            refine take1 (i := 0) (some 37) rfl rfl (by kernel_rfl) (by kernel_rfl) (by kernel_rfl) (fun _ _ _ _ h => h) rfl hS ?_
            apply Exists.intro
            apply And.intro
            · intro W9 hW9; skip; go_simp; try with_reducible rfl
            simp only [Act.put, List.setIfInBounds_toArray, List.set_cons_zero, List.set_cons_succ]
            refine take1 (i := 1) (some 38) rfl rfl (by kernel_rfl) (by kernel_rfl) (by kernel_rfl) (fun _ _ _ _ h => h) rfl hS ?_
            apply Exists.intro
            apply And.intro
            · intro W9 hW9; skip; go_simp; try with_reducible rfl
            simp only [Act.put, List.setIfInBounds_toArray, List.set_cons_zero, List.set_cons_succ]
            refine take1 (i := 2) (some 39) rfl rfl (by kernel_rfl) (by kernel_rfl) (by kernel_rfl) (fun _ _ _ _ h => h) rfl hS ?_
            apply Exists.intro
            apply And.intro
            · intro W9 hW9; skip; go_simp; try with_reducible rfl
            simp only [Act.put, List.setIfInBounds_toArray, List.set_cons_zero, List.set_cons_succ]
            refine take1 (i := 3) (some 40) rfl rfl (by kernel_rfl) (by kernel_rfl) (by kernel_rfl) (fun _ _ _ _ h => h) rfl hS ?_
            apply Exists.intro
            apply And.intro
            · intro W9 hW9; skip; go_simp; try with_reducible rfl
            simp only [Act.put, List.setIfInBounds_toArray, List.set_cons_zero, List.set_cons_succ]
            refine take1 (i := 4) (some 41) rfl rfl (by kernel_rfl) (by kernel_rfl) (by kernel_rfl) (fun _ _ _ _ h => h) rfl hS ?_
            apply Exists.intro
            apply And.intro
            · intro W9 hW9; skip; go_simp; try with_reducible rfl
            simp only [Act.put, List.setIfInBounds_toArray, List.set_cons_zero, List.set_cons_succ]
            refine take1 (i := 5) (some 42) rfl rfl (by kernel_rfl) (by kernel_rfl) (by kernel_rfl) (fun _ _ _ _ h => h) rfl hS ?_
            apply Exists.intro
            apply And.intro
            · intro W9 hW9; skip; go_simp; try with_reducible rfl
            simp only [Act.put, List.setIfInBounds_toArray, List.set_cons_zero, List.set_cons_succ]
            refine take1 (i := 6) (some 43) rfl rfl (by kernel_rfl) (by kernel_rfl) (by kernel_rfl) (fun _ _ _ _ h => h) rfl hS ?_
            apply Exists.intro
            apply And.intro
            · intro W9 hW9; skip; go_simp; try with_reducible rfl
            simp only [Act.put, List.setIfInBounds_toArray, List.set_cons_zero, List.set_cons_succ]
            refine take1 (i := 7) (some 44) rfl rfl (by kernel_rfl) (by kernel_rfl) (by kernel_rfl) (fun _ _ _ _ h => h) rfl hS ?_
            apply Exists.intro
            apply And.intro
            · intro W9 hW9; skip; go_simp; try with_reducible rfl
            simp only [Act.put, List.setIfInBounds_toArray, List.set_cons_zero, List.set_cons_succ]
            refine take1 (i := 8) (some 45) rfl rfl (by kernel_rfl) (by kernel_rfl) (by kernel_rfl) (fun _ _ _ _ h => h) rfl hS ?_
            apply Exists.intro
            apply And.intro
            · intro W9 hW9; skip; go_simp; try with_reducible rfl
            simp only [Act.put, List.setIfInBounds_toArray, List.set_cons_zero, List.set_cons_succ]
            refine take1 (i := 10) (some 47) rfl rfl (by kernel_rfl) (by kernel_rfl) (by kernel_rfl) (fun _ _ _ _ h => h) rfl hS ?_
            apply Exists.intro
            apply And.intro
            · intro W9 hW9; skip; go_simp; try with_reducible rfl
            simp only [Act.put, List.setIfInBounds_toArray, List.set_cons_zero, List.set_cons_succ]
            refine take1 (i := 11) (some 48) rfl rfl (by kernel_rfl) (by kernel_rfl) (by kernel_rfl) (fun _ _ _ _ h => h) rfl hS ?_
            apply Exists.intro
            apply And.intro
            · intro W9 hW9; skip; go_simp; try with_reducible rfl
            simp only [Act.put, List.setIfInBounds_toArray, List.set_cons_zero, List.set_cons_succ]
            refine take1 (i := 12) (some 49) rfl rfl (by kernel_rfl) (by kernel_rfl) (by kernel_rfl) (fun _ _ _ _ h => h) rfl hS ?_
            apply Exists.intro
            apply And.intro
            · intro W9 hW9; skip; go_simp; try with_reducible rfl
            simp only [Act.put, List.setIfInBounds_toArray, List.set_cons_zero, List.set_cons_succ]
            refine wpAnyH_ready (rs := [9, 13]) (by kernel_rfl) (by simp) ?_
            refine AllReadyH.cons rfl (fun K hK => ?_) ?_
            refine wp_load_hn (.tmp 45) rfl (some 46) rfl g (m * 6) (by simp [Act.eval, Act.put]) RM.out ?_
            simp only [Act.put, List.setIfInBounds_toArray, List.set_cons_zero, List.set_cons_succ]
            refine hK.out _ _ trivial (fun hS => ?_)
            clear hK K
            skip
            refine wpAnyH_ready (rs := [13]) (by kernel_rfl) (by simp) ?_
            refine AllReadyH.cons rfl (fun K hK => ?_) ?_
            refine wp_load_hn (.tmp 49) rfl (some 50) rfl g (J * 6) (by simp [Act.eval, Act.put]) RJ.out ?_
            simp only [Act.put, List.setIfInBounds_toArray, List.set_cons_zero, List.set_cons_succ]
            refine hK.out _ _ trivial (fun hS => ?_)
            clear hK K
            skip
            refine take1 (i := 14) (some 51) rfl rfl (by kernel_rfl) (by kernel_rfl) (by kernel_rfl) (fun _ _ _ _ h => h) rfl hS ?_
            apply Exists.intro
            apply And.intro
            · intro W9 hW9; skip; go_simp; try with_reducible rfl
            simp only [Act.put, List.setIfInBounds_toArray, List.set_cons_zero, List.set_cons_succ]
            refine wpAnyH_ready (rs := [15]) (by kernel_rfl) (by simp) ?_
            refine AllReadyH.cons rfl (fun K hK => ?_) ?_
            refine wp_store_mid0 23 (.tmp 51) (.tmp 46) rfl rfl g (J * 6) (hnV y) (by simp [Act.eval, Act.put]) rfl (HM.out.there HJL.out) (by kernel_rfl) (by simp [Value.oneCell', hnV]) ?_
            have HM2 := Lib.hid (HM.out.set HJL.out y)
            have HK2 := Lib.hid (HK.out.trans (Kx.sets (hnc y) (J * 6) _ HM.out.lt))
            rw [show (hnV y).toList = hnc y from rfl]
            refine hK.out _ _ trivial (fun hS => ?_)
            clear hK K
            clear RM RJ
            generalize World.setCells wd g (J * 6) (hnc y) = we at *
            refine take1 (i := 16) (some 52) rfl rfl (by kernel_rfl) (by kernel_rfl) (by kernel_rfl) (fun _ _ _ _ h => h) rfl hS ?_
            apply Exists.intro
            apply And.intro
            · intro W9 hW9; skip; go_simp; try with_reducible rfl
            simp only [Act.put, List.setIfInBounds_toArray, List.set_cons_zero, List.set_cons_succ]
            refine wpAnyH_ready (rs := [17]) (by kernel_rfl) (by simp) ?_
            refine AllReadyH.cons rfl (fun K hK => ?_) ?_
            refine wp_store_mid0 23 (.tmp 52) (.tmp 50) rfl rfl g (m * 6) (hnV x) (by simp [Act.eval, Act.put]) rfl (HM2.out.there HML2.out) (by kernel_rfl) (by simp [Value.oneCell', hnV]) ?_
            have HM3 := Lib.hid (HM2.out.set HML2.out x)
            have HK3 := Lib.hid (HK2.out.trans (Kx.sets (hnc x) (m * 6) _ HM2.out.lt))
            rw [show (hnV x).toList = hnc x from rfl]
            refine hK.out _ _ trivial (fun hS => ?_)
            clear hK K
            generalize World.setCells we g (m * 6) (hnc x) = wf at *
            refine wpAnyH_done (by kernel_rfl) ?_ _
            rotate_left
            exact AllReadyH.nil
            exact AllReadyH.nil
            exact AllReadyH.nil
            refine AllReadyH.cons rfl (fun K hK => ?_) ?_
            refine wp_load_hn (.tmp 49) rfl (some 50) rfl g (J * 6) (by simp [Act.eval, Act.put]) RJ.out ?_
            simp only [Act.put, List.setIfInBounds_toArray, List.set_cons_zero, List.set_cons_succ]
            refine hK.out _ _ trivial (fun hS => ?_)
            clear hK K
            skip
            refine wpAnyH_ready (rs := [9]) (by kernel_rfl) (by simp) ?_
            refine AllReadyH.cons rfl (fun K hK => ?_) ?_
            refine wp_load_hn (.tmp 45) rfl (some 46) rfl g (m * 6) (by simp [Act.eval, Act.put]) RM.out ?_
            simp only [Act.put, List.setIfInBounds_toArray, List.set_cons_zero, List.set_cons_succ]
            refine hK.out _ _ trivial (fun hS => ?_)
            clear hK K
            skip
            refine take1 (i := 14) (some 51) rfl rfl (by kernel_rfl) (by kernel_rfl) (by kernel_rfl) (fun _ _ _ _ h => h) rfl hS ?_
            apply Exists.intro
            apply And.intro
            · intro W9 hW9; skip; go_simp; try with_reducible rfl
            simp only [Act.put, List.setIfInBounds_toArray, List.set_cons_zero, List.set_cons_succ]
            refine wpAnyH_ready (rs := [15]) (by kernel_rfl) (by simp) ?_
            refine AllReadyH.cons rfl (fun K hK => ?_) ?_
            refine wp_store_mid0 23 (.tmp 51) (.tmp 46) rfl rfl g (J * 6) (hnV y) (by simp [Act.eval, Act.put]) rfl (HM.out.there HJL.out) (by kernel_rfl) (by simp [Value.oneCell', hnV]) ?_
            have HM2 := Lib.hid (HM.out.set HJL.out y)
            have HK2 := Lib.hid (HK.out.trans (Kx.sets (hnc y) (J * 6) _ HM.out.lt))
            rw [show (hnV y).toList = hnc y from rfl]
            refine hK.out _ _ trivial (fun hS => ?_)
            clear hK K
            clear RM RJ
            generalize World.setCells wd g (J * 6) (hnc y) = we at *
            refine take1 (i := 16) (some 52) rfl rfl (by kernel_rfl) (by kernel_rfl) (by kernel_rfl) (fun _ _ _ _ h => h) rfl hS ?_
            apply Exists.intro
            apply And.intro
            · intro W9 hW9; skip; go_simp; try with_reducible rfl
            simp only [Act.put, List.setIfInBounds_toArray, List.set_cons_zero, List.set_cons_succ]
            refine wpAnyH_ready (rs := [17]) (by kernel_rfl) (by simp) ?_
            refine AllReadyH.cons rfl (fun K hK => ?_) ?_
            refine wp_store_mid0 23 (.tmp 52) (.tmp 50) rfl rfl g (m * 6) (hnV x) (by simp [Act.eval, Act.put]) rfl (HM2.out.there HML2.out) (by kernel_rfl) (by simp [Value.oneCell', hnV]) ?_
            have HM3 := Lib.hid (HM2.out.set HML2.out x)
            have HK3 := Lib.hid (HK2.out.trans (Kx.sets (hnc x) (m * 6) _ HM2.out.lt))
            rw [show (hnV x).toList = hnc x from rfl]
            refine hK.out _ _ trivial (fun hS => ?_)
            clear hK K
            generalize World.setCells we g (m * 6) (hnc x) = wf at *
            refine wpAnyH_done (by kernel_rfl) ?_ _
            rotate_left
            exact AllReadyH.nil
            exact AllReadyH.nil
            exact AllReadyH.nil
            exact AllReadyH.nil
            all_goals
              go_wp2
              go_roundg m
              case measure => have := HJM.out; omega
              case rel => exact ⟨m, swH cur J m, by have := HJM.out; omega, by have := HJM.out; omega, by omega, rfl, by rw [← HSW.out]; exact HM3, HK3, Lib.hid ⟨HPS.out, HS2.out⟩⟩
          · have HS2 := Lib.hid (HDONE.out hc)
            have hPI := Lib.hid HG.out.1
            go_wp2
            go_roundg (n + 1 - (i + 1))
            case measure => omega
            case rel => exact ⟨i + 1, cur, by omega, .inl (by omega), by omega, by go_num, HM, HK, Lib.hid ⟨hPI.out, HS2.out⟩⟩
        · have hjz : ¬ (a : Int) < (J : Int) := by omega
          have hja : J = a := by omega
          have HS2 := Lib.hid (show Srt a (i + 1) cur from SrtX.done_a (by have h9 := HG.out.2; rwa [hja] at h9))
          have hPI := Lib.hid HG.out.1
          clear hja
          go_upto_region 4 with fail
          refine wp_region_quiet_ext (by kernel_rfl) (by kernel_rfl) ?_
          (repeat (go_big_quiet_step (fail)))
          refine wpQuiet_nil ?_
          rintro wq ⟨⟨_, hbq⟩, rfl⟩
          replace HK := Lib.hid (HK.out.trans (Kx.of_bw hbq (Nat.le_of_lt HM.out.lt)))
          replace HM := Lib.hid (HM.out.bw hbq)
          clear hbq
          go_wp2
          go_roundg (n + 1 - (i + 1))
          case measure => omega
          case rel => exact ⟨i + 1, cur, by omega, .inl (by omega), by omega, by go_num, HM, HK, Lib.hid ⟨hPI.out, HS2.out⟩⟩
    · have hltz : ¬ (i : Int) < (b : Int) := by omega
      have HS := Lib.hid (show Srt a b cur0 from fun p q h1 h2 h3 => HF.out.2 p q h1 h2 (by omega))
      go_wp2
      go_end0
      exact ⟨⟨_, rfl⟩, cur0, HMr.out, HKr.out, HF.out.1, HS.out⟩
end Go.Proofs.Sky

namespace Go.Proofs.Sky
open Go Go.RowKit Go.Shelf
attribute [local go_sem] Oper.semAt_some
set_option maxHeartbeats 4000000
set_option maxRecDepth 8000
/-! chapter 40: rows of hints alike -/
theorem rdH_rg {w : World} {ps : List (Nat → Int)} {b off c : Nat} (h : RdH w (.slice (some ⟨b, off, none⟩) ps.length c) ps) (j : Nat) (hj : j < ps.length) : w.rangeAt b (off + j * 6) (hnc (ps.getD j fun _ => 0)) := by
  obtain ⟨_, a, c', e1, h4⟩ := h
  rcases h4 with rfl | ⟨b', o', e2, _, hz⟩
  · simp at hj
  · injection e1 with e1 _ _
    rw [e2] at e1
    injection e1 with e1
    injection e1 with e3 e4 _
    subst e3 e4
    exact hz j _ (by rw [List.getD_eq_getElem?_getD, List.getElem?_eq_getElem hj]; rfl)
theorem alikeHn_any (ps : List (Nat → Int)) (v1 v2 : Value) (w : World) (h1 : RdH w v1 ps) (h2 : RdH w v2 ps) : Calls Tryd.prog 23 #[v1, v2] w fun e w' => e = .returned (.bool true) ∧ Bw w w' := by
  have hx := h1.1
  by_cases h0 : 0 < ps.length
  · obtain ⟨b1, o1, c1, rfl, hb1, _⟩ := h1.at h0
    obtain ⟨b2, o2, c2, rfl, hb2, _⟩ := h2.at h0
    have Z1 := Lib.hid (fun (W : World) (h : RdH W (.slice (some ⟨b1, o1, none⟩) ps.length c1) ps) j hj => rdH_rg h j hj)
    have Z2 := Lib.hid (fun (W : World) (h : RdH W (.slice (some ⟨b2, o2, none⟩) ps.length c2) ps) j hj => rdH_rg h j hj)
    have H1 := Lib.hid h1
    have H2 := Lib.hid h2
    obtain ⟨n, hn⟩ : ∃ n, ps.length = n := ⟨_, rfl⟩
    rw [hn] at H1 H2 Z1 Z2 hx h0 ⊢
    clear hn h1 h2
    go_enter Tryd.func23, Tryd.ntmps23
    go_wp2
    go_loopw [5] (fun i wr => ∃ k : Nat, k ≤ n ∧ i = .int .i64 k ∧ Hid (Bw w wr)) (fun i _ => n - (intOf i).toNat)
    case atStart => exact ⟨0, Nat.zero_le _, rfl, Lib.hid (Bw.refl _)⟩
    case round =>
      obtain ⟨k, hk, rfl, HW⟩ := hrel
      obtain ⟨wb, rfl⟩ : ∃ wb, wb = wr := ⟨_, rfl⟩
      by_cases hlt : k < n
      · have hkn : (k : Int) < n := by omega
        have hk0 : (0 : Int) ≤ k := by omega
        have R1 := Lib.hid (Z1.out wb (H1.out.mono HW.out) k (by omega))
        have R2 := Lib.hid (Z2.out wb (H2.out.mono HW.out) k (by omega))
        generalize (ps.getD k fun _ => 0) = x at R1 R2
        clear Z1 Z2
        have HQ := Lib.hid (fun W => (show (Op.equalIn 10000 23 (.agg (hnV x)) (.agg (hnV x))).run Tryd.prog W = .ok true W from eqH_self (x 0) (x 1) (x 2) (x 3) (x 4) (x 5) W))
        have hq2 := HQ.out
        have hgg2 := fun W a b op p q => eqH_guard a b op p q W
        go_upto_region 6 with fail
        refine wp_region_quiet_ext (by kernel_rfl) (by kernel_rfl) ?_
        (iterate 3 (go_big_quiet_step (fail)))
        go_big_quiet_want
        refine quiet_load40 (.agg (hnV x)) (some 20) rfl (fun W hW => ?_) ?_
        · obtain ⟨p, rfl⟩ := hW
          exact run_load_hn _ rfl b1 (o1 + k * 6) (by simp [Act.eval, Act.put]) (rg_bw9 R1.out p.b)
        simp only [Act.put, List.setIfInBounds_toArray, List.set_cons_zero, List.set_cons_succ]
        go_big_quiet_on
        (iterate 3 (go_big_quiet_step (fail)))
        go_big_quiet_want
        refine quiet_load40 (.agg (hnV x)) (some 24) rfl (fun W hW => ?_) ?_
        · obtain ⟨p, rfl⟩ := hW
          exact run_load_hn _ rfl b2 (o2 + k * 6) (by simp [Act.eval, Act.put]) (rg_bw9 R2.out p.b)
        simp only [Act.put, List.setIfInBounds_toArray, List.set_cons_zero, List.set_cons_succ]
        go_big_quiet_on
        generalize hnV x = A at hq2
        (repeat (go_big_quiet_step (fail)))
        refine wpQuiet_nil ?_
        rintro wq ⟨⟨_, hbq⟩, rfl⟩
        go_wp2
        go_roundw
        case rel => exact ⟨k + 1, by omega, by go_num, Lib.hid (HW.out.trans hbq)⟩
        case measure => simp [intOf]; omega
      · obtain rfl : k = n := by omega
        go_wp2
        go_ret
        exact ⟨rfl, HW.out⟩
  · obtain rfl : ps = [] := List.length_eq_zero_iff.1 (by omega)
    obtain ⟨a1, c1, rfl⟩ := h1.form
    obtain ⟨a2, c2, rfl⟩ := h2.form
    clear h1 h2
    go_enter Tryd.func23, Tryd.ntmps23
    go_wp2
    go_loopw [5] (fun i wr => i = .int .i64 0 ∧ Hid (Bw w wr)) (fun i _ => 0)
    case atStart => exact ⟨rfl, Lib.hid (Bw.refl _)⟩
    case round =>
      obtain ⟨rfl, HW⟩ := hrel
      go_wp2
      go_ret
      exact ⟨rfl, HW.out⟩
end Go.Proofs.Sky

namespace Go.Proofs.Sky
open Go Go.RowKit Go.Shelf
attribute [local go_sem] Oper.semAt_some
set_option maxHeartbeats 4000000
set_option maxRecDepth 8000
/-! chapter 40: DeleteFunc on a row of hints -/
def z6H : Array Value := #[.int .i64 0, .int .i64 0, .int .i64 0, .int .i64 0, .int .i64 0, .int .i64 0]
theorem z6H_at (k : Nat) (h : k < 6) : z6H[k]! = .int .i64 0 := by
  have : k = 0 ∨ k = 1 ∨ k = 2 ∨ k = 3 ∨ k = 4 ∨ k = 5 := by omega
  rcases this with rfl | rfl | rfl | rfl | rfl | rfl <;> rfl
theorem zero6H (n : Nat) : (Builtin.zeroCells z6H n).toList = List.replicate (n * 6) (.int .i64 0) := by
  unfold Builtin.zeroCells
  apply List.ext_getElem
  · simp [z6H]
  · intro i h1 h2
    simp only [Array.toList_map, List.getElem_map, List.getElem_replicate]
    rw [Array.getElem_toList, Array.getElem_range]
    exact z6H_at _ (Nat.mod_lt _ (by decide))
theorem zeroV_hn (w : World) : (zeroValue 23).run Tryd.prog w = .ok (.agg z6H) w := by
  obtain ⟨i, hi, hz⟩ := Option.map_eq_some_iff.1 infoHn
  simp only [Prod.mk.injEq] at hz
  unfold zeroValue
  simp [run_typeInfo w hi, hz.1, z6H]
theorem run_clear_hn {w : World} {g c i : Nat} {hs : List (Nat → Int)} {rest : List Value} (h : MemH w g hs rest) (hi : i < hs.length) (ty : TypeId) :
   (Builtin.clear_ #[36] ty #[.slice (some ⟨g, i * 6, none⟩) (hs.length - i) c]).run Tryd.prog w = .ok (.tuple #[]) (w.setCells g (i * 6) (List.replicate ((hs.length - i) * 6) (.int .i64 0))) := by
  have ht := blk_there (o := i * 6) (n := (hs.length - i) * 6) h (by simp [flatH_len]; omega)
  have hst := run_storeCells_cells (P := Tryd.prog) g (i * 6) (List.replicate ((hs.length - i) * 6) (.int .i64 0)) 0 w (by simpa using fun j hj => (ht j hj).1) (by simpa using fun j hj => (ht j hj).2) (by intro v hv'; rw [List.eq_of_mem_replicate hv']; rfl)
  simp only [Nat.add_zero] at hst
  obtain ⟨m, hm⟩ : ∃ m, hs.length - i = m + 1 := ⟨hs.length - i - 1, by omega⟩
  rw [hm] at hst ⊢
  have hzc : (Builtin.zeroCells #[.int .i64 0, .int .i64 0, .int .i64 0, .int .i64 0, .int .i64 0, .int .i64 0] (m + 1)).toList = _ := zero6H (m + 1)
  simp [Builtin.clear_, run_underlying Tryd.underlying36, zeroV_hn, Value.cells, hzc, hst]
theorem MemH.clear {w : World} {g i : Nat} {hs : List (Nat → Int)} {rest : List Value} (h : MemH w g hs rest) (hi : i ≤ hs.length) : ∃ rest', MemH (w.setCells g (i * 6) (List.replicate ((hs.length - i) * 6) (.int .i64 0))) g (hs.take i) rest' := by
  have h9 := blk_sets (List.replicate ((hs.length - i) * 6) (.int .i64 0)) (i * 6) w _ h
  rw [putLL_eq _ _ _ (by rw [List.length_append, flatH_len, List.length_replicate]; omega)] at h9
  rw [List.take_append_of_le_length (by rw [flatH_len]; omega), ← flatH_take, List.append_assoc] at h9
  exact ⟨_, h9⟩
theorem nth_set (l : List (Nat → Int)) (i j : Nat) (x : Nat → Int) : (l.set i x).drop j = if i < j then l.drop j else (l.drop j).set (i - j) x := by
  rw [List.drop_set]
/-- what one step of DeleteFunc keeps -/
theorem del_step {f : (Nat → Int) → Bool} {hs cur : List (Nat → Int)} {i j : Nat} {x : Nat → Int} (hx : hs[j]? = some x) (hl : cur.length = hs.length) (hi : i < j) (ht : cur.take i = (hs.take j).filter f) (hd : cur.drop j = hs.drop j) (hf : f x = true) :
   (cur.set i x).length = hs.length ∧ (cur.set i x).take (i + 1) = (hs.take (j + 1)).filter f ∧ (cur.set i x).drop (j + 1) = hs.drop (j + 1) := by
  have hj : j < hs.length := (List.getElem?_eq_some_iff.1 hx).1
  have hxe : hs[j] = x := (List.getElem?_eq_some_iff.1 hx).2
  refine ⟨by simpa using hl, ?_, ?_⟩
  · have h1 : (cur.set i x).take (i + 1) = cur.take i ++ [x] := by
      rw [List.set_eq_take_append_cons_drop, if_pos (by omega), List.take_append, List.length_take, show min i cur.length = i by omega, List.take_of_length_le (by rw [List.length_take]; omega), show i + 1 - i = 1 by omega]; rfl
    rw [h1, ht, List.take_add_one, hx, List.filter_append]
    simp [hf]
  · rw [List.drop_set, if_pos (by omega)]
    have h2 := congrArg (List.drop 1) hd
    rwa [List.drop_drop, List.drop_drop] at h2
theorem del_skip {f : (Nat → Int) → Bool} {hs cur : List (Nat → Int)} {i j : Nat} {x : Nat → Int} (hx : hs[j]? = some x) (ht : cur.take i = (hs.take j).filter f) (hd : cur.drop j = hs.drop j) (hf : f x = false) :
   cur.take i = (hs.take (j + 1)).filter f ∧ cur.drop (j + 1) = hs.drop (j + 1) := by
  refine ⟨?_, ?_⟩
  · rw [ht, List.take_add_one, hx, List.filter_append]
    simp [hf]
  · have h2 := congrArg (List.drop 1) hd
    rwa [List.drop_drop, List.drop_drop] at h2
theorem del_at {hs cur : List (Nat → Int)} {j : Nat} (hj : j < hs.length) (hl : cur.length = hs.length) (hd : cur.drop j = hs.drop j) : cur[j]? = hs[j]? := by
  have h2 := congrArg (fun l => l[0]?) hd
  simpa using h2
end Go.Proofs.Sky
