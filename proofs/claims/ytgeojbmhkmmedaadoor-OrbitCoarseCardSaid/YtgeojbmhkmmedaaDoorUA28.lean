/-
  lemmas for the theorems of this claim. No conditions beyond those written in the statements.
-/
import Derived.Test.YtgeojbmhkmmedaaDoorDA28
import Derived.Laws.StructEq
import Derived.Test.YtgeojbmhkmmedaaDoorA28
import Derived.Test.YtgeojbmhkmmedaaDoorBA28
set_option linter.unusedVariables false
set_option linter.unusedSimpArgs false
set_option linter.unnecessarySimpa false
namespace Go.Proofs.Sky
open Go Go.RowKit Go.Shelf
set_option maxHeartbeats 4000000
set_option maxRecDepth 8000
/-! equal pages -/
theorem eqA3 (d : Nat) (a b c : Int) (w : World) : (Op.equalIn (d + 2) 22 (.agg #[.int .i64 a, .int .i64 b, .int .i64 c]) (.agg #[.int .i64 a, .int .i64 b, .int .i64 c])).run Tryd.prog w = .ok true w := by
  have hu : Tryd.prog.underlying 22 = some (.array 3 3) := by kernel_rfl
  have hi : Tryd.prog.underlying 3 = some (.int .i64) := by kernel_rfl
  have hs : ∀ w, (sizeOf 3).run Tryd.prog w = .ok 1 w := fun w => by kernel_rfl
  simp [Op.equalIn, run_underlying hu, run_underlying hi, hs, go_sem, part, Std.Legacy.Range.forIn_eq_forIn_range', Std.Legacy.Range.size, List.range'_succ, List.range'_zero, List.forIn_cons, List.forIn_nil]
theorem eqPg_self (x : Nat → Int) (w : World) : (Op.equalIn 10000 32 (.agg (pgV x)) (.agg (pgV x))).run Tryd.prog w = .ok true w := by
  unfold pgV
  generalize x 0 = a0, x 1 = a1, x 2 = a2, x 3 = a3, x 4 = a4, x 5 = a5, x 6 = a6, x 7 = a7, x 8 = a8, x 9 = a9, x 10 = a10, x 11 = a11, x 12 = a12
  rw [show (10000 : Nat) = 9998 + 1 + 1 from rfl, run_equalIn_agg _ _ _ _ _ (by kernel_rfl) (by kernel_rfl)]
  simp only [Program.fieldsOf, Tryd.underlying32]
  have h3 : ∀ w, (sizeOf 22).run Tryd.prog w = .ok 3 w := fun w => by kernel_rfl
  have h1 : ∀ w, (sizeOf 3).run Tryd.prog w = .ok 1 w := fun w => by kernel_rfl
  have i3 : Tryd.prog.underlying 22 = some (.array 3 3) := by kernel_rfl
  have hi : Tryd.prog.underlying 3 = some (.int .i64) := by kernel_rfl
  have q3 := fun d => eqA3 d
  simp [Op.eqFields, part, h3, h1, go_sem, run_underlying i3, run_underlying hi, q3 9997, run_equalIn_int _ _ _ _ _ _ _ hi]
theorem eqPg_guard (x y : Array Value) (op : BinOp) (p q : Operand) (w : World) : (eqGuard op 32 p q (.agg x) (.agg y)).run Tryd.prog w = .ok () w := run_eqGuard_agg w op _ _ _ _ _ (by kernel_rfl)
end Go.Proofs.Sky

namespace Go.Proofs.Sky
open Go Go.RowKit Go.Shelf
set_option maxHeartbeats 4000000
set_option maxRecDepth 8000
/-! the almanac: around, rounded, at, check, At, bound, Error -/
def arQ (d : Int) : Int := (d + 302400) % 604800 - 302400
theorem arQ_bd (d : Int) : -302400 ≤ arQ d ∧ arQ d ≤ 302399 := by unfold arQ; omega
theorem around_any (d : Int) (h : -1000000000000 ≤ d ∧ d ≤ 1000000000000) (w : World) : Calls Tryd.prog 43 #[.int .i64 d] w fun e w' => e = .returned (.int .i64 (arQ d)) ∧ Bw w w' := by
  have HR := Lib.hid (show arQ d = (d + 302400) % 604800 - 302400 from rfl)
  obtain ⟨r, t1, r1, r2, ways⟩ := tmod_way (d + 302400) 604800 (by decide)
  have t2 : (r + 604800).tmod 604800 = (r + 604800) % 604800 := Int.tmod_eq_emod_of_nonneg (by omega)
  have HE := Lib.hid (show (d + 302400) % 604800 = (r + 604800) % 604800 by rcases ways with ⟨y, z⟩ | ⟨y, z⟩ <;> omega)
  clear ways
  have hb : 0 ≤ (r + 604800) % 604800 ∧ (r + 604800) % 604800 < 604800 := by omega
  rw [HE.out] at HR
  clear HE
  generalize (r + 604800) % 604800 = q at *
  go_enter Tryd.func43, Tryd.ntmps43
  go_wp2
  go_ret
  exact ⟨ret_int (by rw [HR.out]), Bw.refl _⟩
theorem alRounded_pos (a b : Int) (ha : 0 ≤ a ∧ a ≤ 1000000000000000) (hb : 1 ≤ b ∧ b ≤ 1000000000000) (w : World) : Calls Tryd.prog 61 #[.int .i64 a, .int .i64 b] w fun e w' => e = .returned (.int .i64 (rn a b)) ∧ Bw w w' := by
  have HR := Lib.hid (show rn a b = (2 * a + b) / (2 * b) by unfold rn; rw [if_neg (by omega)])
  have hn : ¬ a < 0 := by omega
  have hq : (2 * a + b).tdiv (2 * b) = (2 * a + b) / (2 * b) := Int.tdiv_eq_ediv_of_nonneg (by omega)
  have hz : 2 * b ≠ 0 := by omega
  have hbd : 0 ≤ (2 * a + b) / (2 * b) ∧ (2 * a + b) / (2 * b) ≤ 4000000000000000 := ⟨Int.ediv_nonneg (by omega) (by omega), Int.le_trans (Int.ediv_le_self _ (by omega)) (by omega)⟩
  go_enter Tryd.func61, Tryd.ntmps61
  go_wp2
  go_ret
  exact ⟨ret_int (by rw [HR.out]), Bw.refl _⟩
theorem rn_bd2 (a b : Int) (ha : 0 ≤ a ∧ a ≤ 1000000000000000) (hb : 1 ≤ b ∧ b ≤ 1000000000000) : 0 ≤ rn a b ∧ rn a b ≤ 4000000000000000 := by
  unfold rn
  rw [if_neg (by omega)]
  exact ⟨Int.ediv_nonneg (by omega) (by omega), Int.le_trans (Int.ediv_le_self _ (by omega)) (by omega)⟩
theorem alRounded_any (a b : Int) (ha : -1000000000000000 ≤ a ∧ a ≤ 1000000000000000) (hb : 1 ≤ b ∧ b ≤ 1000000000000) (w : World) : Calls Tryd.prog 61 #[.int .i64 a, .int .i64 b] w fun e w' => e = .returned (.int .i64 (rn a b)) ∧ Bw w w' := by
  by_cases hn : 0 ≤ a
  · exact alRounded_pos a b ⟨hn, ha.2⟩ hb w
  have HC := Lib.hid (fun W => alRounded_pos (-a) b (by omega) hb W)
  have HR := Lib.hid (show rn a b = -(rn (-a) b) by unfold rn; rw [if_pos (show a < 0 by omega), if_neg (show ¬ (-a < 0) by omega)])
  have hbd := rn_bd2 (-a) b (by omega) hb
  generalize rn (-a) b = q at *
  generalize rn a b = r at *
  have hn2 : a < 0 := by omega
  go_enter Tryd.func61, Tryd.ntmps61
  go_wp2_with (go_at_call 61; (with_reducible refine Calls.mono (HC.out _) ?_); rintro e1 w1 ⟨rfl, hb1⟩)
  go_ret
  exact ⟨ret_int (by rw [HR.out]), hb1⟩
def atQ (l0 l1 l2 d : Int) : Int := rn ((64 * l0 + l1 * d) * 1024 + l2 * d * d) 1024
theorem mul_bd2 {x y : Int} {A B : Int} (hx : -A ≤ x ∧ x ≤ A) (hy : -B ≤ y ∧ y ≤ B) : -(A * B) ≤ x * y ∧ x * y ≤ A * B := by
  have h1 : (x.natAbs : Int) * (y.natAbs : Int) ≤ A * B := Int.mul_le_mul (by omega) (by omega) (by omega) (by omega)
  rw [← Int.natCast_mul, ← Int.natAbs_mul] at h1
  generalize A * B = AB at *
  omega
theorem al3at_any (l0 l1 l2 d : Int) (g o : Nat) (h0 : -524288 ≤ l0 ∧ l0 ≤ 524287) (h1 : -8192 ≤ l1 ∧ l1 ≤ 8191) (h2 : -2048 ≤ l2 ∧ l2 ≤ 2047) (hd : -302400 ≤ d ∧ d ≤ 302400) (w : World) (hr : w.rangeAt g o [.int .i64 l0, .int .i64 l1, .int .i64 l2]) :
    Calls Tryd.prog 44 #[.pointer (some ⟨g, o, none⟩), .int .i64 d] w fun e w' => e = .returned (.int .i64 (atQ l0 l1 l2 d)) ∧ Bw w w' := by
  have HL := Lib.hid hr
  have b1 := mul_bd2 (show -8192 ≤ l1 ∧ l1 ≤ 8192 by omega) hd
  have b2 := mul_bd2 (show -2048 ≤ l2 ∧ l2 ≤ 2048 by omega) hd
  have b3 := mul_bd2 b2 hd
  have RN := Lib.hid (fun W => alRounded_any ((64 * l0 + l1 * d) * 1024 + l2 * d * d) 1024 (by omega) (by decide) W)
  have HR := Lib.hid (show atQ l0 l1 l2 d = rn ((64 * l0 + l1 * d) * 1024 + l2 * d * d) 1024 from rfl)
  generalize rn ((64 * l0 + l1 * d) * 1024 + l2 * d * d) 1024 = q at *
  generalize atQ l0 l1 l2 d = q2 at *
  clear hr
  have KN := Lib.hid (Blk.new w 22 #[.int .i64 l0, .int .i64 l1, .int .i64 l2])
  have HW := Lib.hid (Bw.alloc (Bw.refl w) (.cells #[.int .i64 l0, .int .i64 l1, .int .i64 l2] 22))
  go_enter Tryd.func44, Tryd.ntmps44
  go_upto_region 2 with ((with_reducible refine at_load 22 (.tmp 7) ?_); refine wpList_load_mid rfl 22 (.tmp 7) rfl g o rfl [.int .i64 l0, .int .i64 l1, .int .i64 l2] _ HL.out Tryd.underlying22 rfl (by kernel_rfl) ?_)
  generalize hWX : World.alloc w _ = wx at *
  have c0 := KN.out.cell (show (#[.int .i64 l0, .int .i64 l1, .int .i64 l2] : Array Value)[0]? = _ from rfl)
  have c1 := KN.out.cell (show (#[.int .i64 l0, .int .i64 l1, .int .i64 l2] : Array Value)[1]? = _ from rfl)
  have c2 := KN.out.cell (show (#[.int .i64 l0, .int .i64 l1, .int .i64 l2] : Array Value)[2]? = _ from rfl)
  clear hWX
  go_wp2_with (go_at_call 61; (with_reducible refine Calls.mono (RN.out _) ?_); rintro e1 w1 ⟨rfl, hb1⟩)
  go_ret
  exact ⟨ret_int (by rw [HR.out]), HW.out.trans hb1⟩
theorem pg_lim {x : Nat → Int} (h : errPg x = 0) : (1 ≤ x 0 ∧ x 0 ≤ 63) ∧ (0 ≤ x 1 ∧ x 1 ≤ 604799) ∧ (0 ≤ x 2 ∧ x 2 ≤ 65535) ∧ (0 ≤ x 3 ∧ x 3 ≤ 1048575) ∧ ∀ i, i < 3 → (-524288 ≤ x (4 + 3 * i) ∧ x (4 + 3 * i) ≤ 524287) ∧ (-8192 ≤ x (5 + 3 * i) ∧ x (5 + 3 * i) ≤ 8191) ∧ (-2048 ≤ x (6 + 3 * i) ∧ x (6 + 3 * i) ≤ 2047) := by
  obtain ⟨h1, h2⟩ := (errPg_iff x).1 h
  unfold hdP at h1
  have k20 : ∀ z, okZ 20 z = true → -524288 ≤ z ∧ z ≤ 524287 := fun z hz => by have := of_decide_eq_true hz; rwa [show lowR 20 true = -524288 from by decide, show highR 20 true = 524287 from by decide] at this
  have k14 : ∀ z, okZ 14 z = true → -8192 ≤ z ∧ z ≤ 8191 := fun z hz => by have := of_decide_eq_true hz; rwa [show lowR 14 true = -8192 from by decide, show highR 14 true = 8191 from by decide] at this
  have k12 : ∀ z, okZ 12 z = true → -2048 ≤ z ∧ z ≤ 2047 := fun z hz => by have := of_decide_eq_true hz; rwa [show lowR 12 true = -2048 from by decide, show highR 12 true = 2047 from by decide] at this
  refine ⟨by omega, by omega, by omega, by omega, fun i hi => ?_⟩
  obtain ⟨a0, a1, a2⟩ := h2 0 (by omega)
  obtain ⟨b0, b1, b2⟩ := h2 1 (by omega)
  obtain ⟨c0, c1, c2⟩ := h2 2 (by omega)
  match i, hi with
  | 0, _ => exact ⟨k20 _ a0, k14 _ b0, k12 _ c0⟩
  | 1, _ => exact ⟨k20 _ a1, k14 _ b1, k12 _ c1⟩
  | 2, _ => exact ⟨k20 _ a2, k14 _ b2, k12 _ c2⟩
def errTm (x : Nat → Int) (t : Int) : Int := if errPg x ≠ 0 then errPg x else if t < 0 ∨ 604800 ≤ t then 2 else 0
theorem errTm_ok {x : Nat → Int} {t : Int} (h : errTm x t = 0) : errPg x = 0 ∧ 0 ≤ t ∧ t < 604800 := by
  unfold errTm at h
  split at h
  · omega
  · split at h
    · omega
    · omega
theorem alcheck_any (x : Nat → Int) (t : Int) (w : World) (hw : WdAt w) : Calls Tryd.prog 42 #[.agg (pgV x), .int .i64 t] w fun e w' => e = .returned (.int .i64 (errTm x t)) ∧ Bw w w' := by
  have HWD := Lib.hid hw
  have PK := Lib.hid (fun W h => PgCheck_any x W h)
  have KX := Lib.hid (Blk.new w 32 (pgV x))
  have HW := Lib.hid (Bw.alloc (Bw.refl w) (.cells (pgV x) 32))
  have HE := Lib.hid (show errTm x t = if errPg x ≠ 0 then errPg x else if t < 0 ∨ 604800 ≤ t then 2 else 0 from rfl)
  generalize errTm x t = et at *
  generalize errPg x = ep at *
  obtain ⟨A, hA⟩ : ∃ A, A = pgV x := ⟨_, rfl⟩
  have HSZ : Hid ((Tryd.prog.info? 32).map (·.size) = some A.size) := Lib.hid (by rw [hA]; kernel_rfl)
  rw [← hA] at PK KX HW ⊢
  clear hA hw
  go_enter Tryd.func42, Tryd.ntmps42
  go_upto_region 1 with fail
  obtain ⟨g, hg⟩ : ∃ g, w.heap.size = g := ⟨_, rfl⟩
  rw [hg] at KX ⊢
  generalize World.alloc w _ = W0 at *
  clear hg
  go_upto_region 2 with (first | ((with_reducible refine at_load 32 (.tmp 2) ?_); refine wpList_load_row rfl 32 _ rfl g rfl 32 A (0, 0) _ KX.out Tryd.underlying32 rfl HSZ.out ?_) | (go_at_call 30; (with_reducible refine Calls.mono (PK.out _ (HWD.out.bw HW.out)) ?_); rintro e1 w1 ⟨rfl, hb1⟩; replace HW := Lib.hid (HW.out.trans hb1); clear hb1))
  by_cases c1 : ep = 0
  case neg =>
    have c1z : (ep != 0) = true := by simpa using c1
    have HR := Lib.hid (HE.out.trans (if_pos c1))
    clear c1
    go_wp2
    go_ret
    exact ⟨ret_int (by rw [HR.out]), HW.out⟩
  case pos =>
    subst c1
    by_cases c2 : t < 0
    case pos =>
      have HR := Lib.hid (HE.out.trans (by rw [if_neg (by decide), if_pos (.inl c2)]))
      go_wp2
      go_ret
      exact ⟨ret_int (by rw [HR.out]), HW.out⟩
    case neg =>
      by_cases c3 : 604800 ≤ t
      case pos =>
        have HR := Lib.hid (HE.out.trans (by rw [if_neg (by decide), if_pos (.inr c3)]))
        go_wp2
        go_ret
        exact ⟨ret_int (by rw [HR.out]), HW.out⟩
      case neg =>
        have HR := Lib.hid (HE.out.trans (by rw [if_neg (by decide), if_neg (by omega)]))
        go_wp2
        go_ret
        exact ⟨ret_int (by rw [HR.out]), HW.out⟩
end Go.Proofs.Sky

namespace Go.Proofs.Sky
open Go Go.RowKit Go.Shelf
attribute [-go_sem] run_max_int2
attribute [local go_sem] run_mx28
set_option maxHeartbeats 4000000
set_option maxRecDepth 8000
/-! the almanac: At, bound, Error -/
def t3V (L : Nat → Int) : Array Value := #[.int .i64 (L 0), .int .i64 (L 1), .int .i64 (L 2)]
theorem pg_rg {W : World} {g : Nat} {T : TypeId} {x : Nat → Int} (hB : Blk W g T (pgV x)) (i : Nat) (hi : i < 3) : W.rangeAt g (4 + 3 * i) [.int .i64 (x (4 + 3 * i)), .int .i64 (x (5 + 3 * i)), .int .i64 (x (6 + 3 * i))] := by
  intro j v h
  have hj : j < 3 := (List.getElem?_eq_some_iff.1 h).1
  have key : v = .int .i64 (x (4 + 3 * i + j)) := by
    match j, hj with
    | 0, _ => obtain rfl := Option.some.inj h; rfl
    | 1, _ => obtain rfl := Option.some.inj h; show Value.int .i64 (x (5 + 3 * i)) = _; rw [show 5 + 3 * i = 4 + 3 * i + 1 by omega]
    | 2, _ => obtain rfl := Option.some.inj h; show Value.int .i64 (x (6 + 3 * i)) = _; rw [show 6 + 3 * i = 4 + 3 * i + 2 by omega]
  rw [key]
  exact hB.cell (pgV_at x _ (by omega))
def atP (x : Nat → Int) (t : Int) (j : Nat) : Int := if errTm x t = 0 then atQ (x (4 + 3 * j)) (x (5 + 3 * j)) (x (6 + 3 * j)) (arQ (t - x 1)) else 0
theorem t3V_congr {x y : Nat → Int} (h : ∀ j, j < 3 → x j = y j) : t3V x = t3V y := by
  unfold t3V; rw [h 0 (by omega), h 1 (by omega), h 2 (by omega)]
theorem AlAt_any (x : Nat → Int) (t : Int) (w : World) (hw : WdAt w) : Calls Tryd.prog 19 #[.agg (pgV x), .int .i64 t] w fun e w' => e = .returned (.tuple #[.agg (t3V (atP x t)), .int .i64 (errTm x t)]) ∧ Bw w w' := by
  have HWD := Lib.hid hw
  have CK := Lib.hid (fun W h => alcheck_any x t W h)
  have KX := Lib.hid ((Blk.new w 32 (pgV x)).alloc (.cells #[.int .i64 0, .int .i64 0, .int .i64 0] 22))
  have KP := Lib.hid (show Blk ((w.alloc (.cells (pgV x) 32)).alloc (.cells #[.int .i64 0, .int .i64 0, .int .i64 0] 22)) (w.heap.size + 1) 22 #[.int .i64 0, .int .i64 0, .int .i64 0] from by have h9 := Blk.new (w.alloc (.cells (pgV x) 32)) 22 #[.int .i64 0, .int .i64 0, .int .i64 0]; simp only [World.size_alloc] at h9; exact h9)
  have HW := Lib.hid (Bw.alloc (Bw.alloc (Bw.refl w) (.cells (pgV x) 32)) (.cells #[.int .i64 0, .int .i64 0, .int .i64 0] 22))
  have HRG := Lib.hid (fun (W : World) (g : Nat) (hB : Blk W g 32 (pgV x)) (i : Nat) (hi : i < 3) => pg_rg hB i hi)
  have H1 : Hid ((pgV x)[1]? = some (.int .i64 (x 1))) := Lib.hid rfl
  have HOK := Lib.hid (fun (h : errTm x t = 0) => And.intro (pg_lim (errTm_ok h).1) (errTm_ok h).2)
  have HAP := Lib.hid (show ∀ j, atP x t j = if errTm x t = 0 then atQ (x (4 + 3 * j)) (x (5 + 3 * j)) (x (6 + 3 * j)) (arQ (t - x 1)) else 0 from fun j => rfl)
  generalize atP x t = AP at *
  generalize errTm x t = et at *
  obtain ⟨A, hA⟩ : ∃ A, A = pgV x := ⟨_, rfl⟩
  have HSZ : Hid ((Tryd.prog.info? 32).map (·.size) = some A.size) := Lib.hid (by rw [hA]; kernel_rfl)
  rw [← hA] at CK KX KP HW HRG H1 ⊢
  clear hA hw
  obtain ⟨g, hg⟩ : ∃ g, w.heap.size = g := ⟨_, rfl⟩
  rw [hg] at KX KP
  have HG := Lib.hid hg
  go_enter Tryd.func19, Tryd.ntmps19
  go_upto_region 1 with fail
  obtain ⟨W0, hW0⟩ : ∃ W0, (w.alloc (.cells A 32)).alloc (.cells #[.int .i64 0, .int .i64 0, .int .i64 0] 22) = W0 := ⟨_, rfl⟩
  rw [hW0] at KX KP HW ⊢
  clear hW0 hg
  go_upto_region 2 with (first | ((with_reducible refine at_load 32 (.tmp 2) ?_); refine wpList_load_row rfl 32 _ rfl g rfl 32 A (0, 0) _ KX.out Tryd.underlying32 rfl HSZ.out ?_) | (go_at_call 42; (with_reducible refine Calls.mono (CK.out _ (HWD.out.bw HW.out)) ?_); rintro e1 w1 ⟨rfl, hb1⟩; replace KX := Lib.hid (KX.out.bw hb1); replace KP := Lib.hid (KP.out.bw hb1); replace HW := Lib.hid (HW.out.trans hb1); clear hb1))
  by_cases c1 : et = 0
  case neg =>
    have c1z : (et != 0) = true := by simpa using c1
    have HR := Lib.hid (show t3V AP = #[.int .i64 0, .int .i64 0, .int .i64 0] from t3V_congr (y := fun _ => 0) (fun j hj => by rw [HAP.out j, if_neg c1]))
    clear c1
    go_wp2_with ((with_reducible refine at_store 22 (.tmp 4) (.tmp 13) ?_); refine wpList_store_row rfl 22 (.tmp 4) (.tmp 13) rfl (g + 1) #[.int .i64 0, .int .i64 0, .int .i64 0] rfl rfl 22 _ KP.out (by kernel_rfl) rfl (by simp [Value.oneCell']) ?_)
    have F9 := KP.out.row #[.int .i64 0, .int .i64 0, .int .i64 0]
    have B9 := Bw.setRow HW.out (show w.heap.size ≤ g + 1 by have := HG.out; omega) #[.int .i64 0, .int .i64 0, .int .i64 0]
    refine bodyPost_ret (v := .tuple #[.agg #[.int .i64 0, .int .i64 0, .int .i64 0], .int .i64 et]) ?_ rfl ⟨by rw [HR.out], B9⟩
    exact results_two_row (p := 4) (u := 5) rfl _ _ (g + 1) _ rfl (run_loadVar_row _ (g + 1) 22 22 #[.int .i64 0, .int .i64 0, .int .i64 0] (0, 0) _ F9 Tryd.underlying22 rfl (by kernel_rfl))
  case pos =>
    obtain ⟨⟨_, hx1, _, _, hx3⟩, ht0, ht1⟩ := HOK.out c1
    subst c1
    obtain ⟨a0, b0, d0⟩ := hx3 0 (by omega)
    obtain ⟨a1, b1, d1⟩ := hx3 1 (by omega)
    obtain ⟨a2, b2, d2⟩ := hx3 2 (by omega)
    have hab := arQ_bd (t - x 1)
    have HP0 := Lib.hid (show AP 0 = atQ (x 4) (x 5) (x 6) (arQ (t - x 1)) from by rw [HAP.out 0, if_pos rfl])
    have HP1 := Lib.hid (show AP 1 = atQ (x 7) (x 8) (x 9) (arQ (t - x 1)) from by rw [HAP.out 1, if_pos rfl])
    have HP2 := Lib.hid (show AP 2 = atQ (x 10) (x 11) (x 12) (arQ (t - x 1)) from by rw [HAP.out 2, if_pos rfl])
    have AR := Lib.hid (fun W => around_any (t - x 1) (by omega) W)
    have A0 := Lib.hid (fun W hB => al3at_any (x 4) (x 5) (x 6) (arQ (t - x 1)) g 4 a0 b0 d0 (by omega) W (HRG.out W g hB 0 (by omega)))
    have A1 := Lib.hid (fun W hB => al3at_any (x 7) (x 8) (x 9) (arQ (t - x 1)) g 7 a1 b1 d1 (by omega) W (HRG.out W g hB 1 (by omega)))
    have A2 := Lib.hid (fun W hB => al3at_any (x 10) (x 11) (x 12) (arQ (t - x 1)) g 10 a2 b2 d2 (by omega) W (HRG.out W g hB 2 (by omega)))
    have l1 := KX.out.cell H1.out
    clear a0 b0 d0 a1 b1 d1 a2 b2 d2 hx3 HOK HAP HRG
    generalize atQ (x 4) (x 5) (x 6) (arQ (t - x 1)) = q0 at *
    generalize atQ (x 7) (x 8) (x 9) (arQ (t - x 1)) = q1 at *
    generalize atQ (x 10) (x 11) (x 12) (arQ (t - x 1)) = q2 at *
    generalize arQ (t - x 1) = d at *
    generalize x 1 = x1 at *
    have HR := Lib.hid (show t3V AP = #[.int .i64 q0, .int .i64 q1, .int .i64 q2] from by unfold t3V; rw [HP0.out, HP1.out, HP2.out])
    go_upto_region 5 with (go_at_call 43; (with_reducible refine Calls.mono (AR.out _) ?_); rintro e1 w2 ⟨rfl, hb1⟩; replace KX := Lib.hid (KX.out.bw hb1); replace KP := Lib.hid (KP.out.bw hb1); replace HW := Lib.hid (HW.out.trans hb1); clear hb1 l1)
    go_wp2_with (first | (go_at_call 44; (first | (with_reducible refine Calls.mono (A0.out _ KX.out) ?_) | (with_reducible refine Calls.mono (A1.out _ KX.out) ?_) | (with_reducible refine Calls.mono (A2.out _ KX.out) ?_)); rintro e1 w3 ⟨rfl, hb1⟩; replace KX := Lib.hid (KX.out.bw hb1); replace KP := Lib.hid (KP.out.bw hb1); replace HW := Lib.hid (HW.out.trans hb1); clear hb1) | ((with_reducible refine at_store 22 (.tmp 4) (.tmp 29) ?_); refine wpList_store_row rfl 22 (.tmp 4) (.tmp 29) rfl (g + 1) #[.int .i64 q0, .int .i64 q1, .int .i64 q2] rfl rfl 22 _ KP.out (by kernel_rfl) rfl (by simp [Value.oneCell']) ?_))
    have F9 := KP.out.row #[.int .i64 q0, .int .i64 q1, .int .i64 q2]
    have B9 := Bw.setRow HW.out (show w.heap.size ≤ g + 1 by have := HG.out; omega) #[.int .i64 q0, .int .i64 q1, .int .i64 q2]
    refine bodyPost_ret (v := .tuple #[.agg #[.int .i64 q0, .int .i64 q1, .int .i64 q2], .int .i64 0]) ?_ rfl ⟨by rw [HR.out], B9⟩
    exact results_two_row (p := 4) (u := 5) rfl _ _ (g + 1) _ rfl (run_loadVar_row _ (g + 1) 22 22 #[.int .i64 q0, .int .i64 q1, .int .i64 q2] (0, 0) _ F9 Tryd.underlying22 rfl (by kernel_rfl))
def bdQ (x : Nat → Int) (t : Int) : Int := x 2 + (x 3 * ((arQ (t - x 1)).natAbs : Int) + 3599) / 3600
theorem albound_any (x : Nat → Int) (t : Int) (w : World) (h : errTm x t = 0) : Calls Tryd.prog 45 #[.agg (pgV x), .int .i64 t] w fun e w' => e = .returned (.int .i64 (bdQ x t)) ∧ Bw w w' := by
  obtain ⟨hp, ht0, ht1⟩ := errTm_ok h
  obtain ⟨_, hx1, hx2, hx3, _⟩ := pg_lim hp
  clear hp h
  have KX := Lib.hid (Blk.new w 32 (pgV x))
  have HW := Lib.hid (Bw.alloc (Bw.refl w) (.cells (pgV x) 32))
  have H1 : Hid ((pgV x)[1]? = some (.int .i64 (x 1))) := Lib.hid rfl
  have H2 : Hid ((pgV x)[2]? = some (.int .i64 (x 2))) := Lib.hid rfl
  have H3 : Hid ((pgV x)[3]? = some (.int .i64 (x 3))) := Lib.hid rfl
  have AR := Lib.hid (fun W => around_any (t - x 1) (by omega) W)
  have hab := arQ_bd (t - x 1)
  have hm := mx28_abs (arQ (t - x 1))
  have HB := Lib.hid (show bdQ x t = x 2 + (x 3 * ((arQ (t - x 1)).natAbs : Int) + 3599) / 3600 from rfl)
  generalize bdQ x t = bq at *
  generalize arQ (t - x 1) = d at *
  have hn : 0 ≤ (d.natAbs : Int) ∧ (d.natAbs : Int) ≤ 302400 := by omega
  generalize (d.natAbs : Int) = n at *
  obtain ⟨A, hA⟩ : ∃ A, A = pgV x := ⟨_, rfl⟩
  rw [← hA] at KX HW H1 H2 H3 ⊢
  clear hA
  generalize x 1 = x1 at *
  generalize x 2 = x2 at *
  generalize x 3 = x3 at *
  have hm3 : 0 ≤ x3 * n ∧ x3 * n ≤ 400000000000 := ⟨Int.mul_nonneg hx3.1 hn.1, Int.le_trans (Int.mul_le_mul hx3.2 hn.2 hn.1 (by decide)) (by decide)⟩
  have hq : (x3 * n + 3599).tdiv 3600 = (x3 * n + 3599) / 3600 := Int.tdiv_eq_ediv_of_nonneg (by omega)
  have hqb : 0 ≤ (x3 * n + 3599) / 3600 ∧ (x3 * n + 3599) / 3600 ≤ 400000000000 := by omega
  obtain ⟨g, hg⟩ : ∃ g, w.heap.size = g := ⟨_, rfl⟩
  rw [hg] at KX
  go_enter Tryd.func45, Tryd.ntmps45
  go_upto_region 1 with fail
  obtain ⟨W0, hW0⟩ : ∃ W0, w.alloc (.cells A 32) = W0 := ⟨_, rfl⟩
  rw [hW0] at KX HW ⊢
  clear hW0 hg
  have l1 := KX.out.cell H1.out
  have l2 := KX.out.cell H2.out
  have l3 := KX.out.cell H3.out
  go_wp2_with (go_at_call 43; (with_reducible refine Calls.mono (AR.out _) ?_); rintro e1 w2 ⟨rfl, hb1⟩; replace l1 := hb1.cell' l1; replace l2 := hb1.cell' l2; replace l3 := hb1.cell' l3; replace HW := Lib.hid (HW.out.trans hb1); clear hb1)
  go_ret
  exact ⟨ret_int (by rw [HB.out]), HW.out⟩
def bdP (x : Nat → Int) (t : Int) : Int := if errTm x t = 0 then bdQ x t else 0
theorem AlError_any (x : Nat → Int) (t : Int) (w : World) (hw : WdAt w) : Calls Tryd.prog 20 #[.agg (pgV x), .int .i64 t] w fun e w' => e = .returned (.tuple #[.int .i64 (bdP x t), .int .i64 (errTm x t)]) ∧ Bw w w' := by
  have HWD := Lib.hid hw
  have CK := Lib.hid (fun W h => alcheck_any x t W h)
  have BD := Lib.hid (fun W h => albound_any x t W h)
  have KX := Lib.hid (Blk.new w 32 (pgV x))
  have HW := Lib.hid (Bw.alloc (Bw.refl w) (.cells (pgV x) 32))
  have HB := Lib.hid (show bdP x t = if errTm x t = 0 then bdQ x t else 0 from rfl)
  generalize bdP x t = bp at *
  generalize bdQ x t = bq at *
  generalize errTm x t = et at *
  obtain ⟨A, hA⟩ : ∃ A, A = pgV x := ⟨_, rfl⟩
  have HSZ : Hid ((Tryd.prog.info? 32).map (·.size) = some A.size) := Lib.hid (by rw [hA]; kernel_rfl)
  rw [← hA] at CK BD KX HW ⊢
  clear hA hw
  obtain ⟨g, hg⟩ : ∃ g, w.heap.size = g := ⟨_, rfl⟩
  rw [hg] at KX
  go_enter Tryd.func20, Tryd.ntmps20
  go_upto_region 1 with fail
  obtain ⟨W0, hW0⟩ : ∃ W0, w.alloc (.cells A 32) = W0 := ⟨_, rfl⟩
  rw [hW0] at KX HW ⊢
  clear hW0 hg
  go_upto_region 2 with (first | ((with_reducible refine at_load 32 (.tmp 2) ?_); refine wpList_load_row rfl 32 _ rfl g rfl 32 A (0, 0) _ KX.out Tryd.underlying32 rfl HSZ.out ?_) | (go_at_call 42; (with_reducible refine Calls.mono (CK.out _ (HWD.out.bw HW.out)) ?_); rintro e1 w1 ⟨rfl, hb1⟩; replace KX := Lib.hid (KX.out.bw hb1); replace HW := Lib.hid (HW.out.trans hb1); clear hb1))
  by_cases c1 : et = 0
  case neg =>
    have c1z : (et != 0) = true := by simpa using c1
    have HR := Lib.hid (HB.out.trans (if_neg c1))
    clear c1
    go_wp2
    refine bodyPost_ret (v := .tuple #[.int .i64 0, .int .i64 et]) ?_ rfl ⟨by rw [HR.out], HW.out⟩
    simp [results, Tryd.results20, go_sem]
  case pos =>
    have HR := Lib.hid (HB.out.trans (if_pos c1))
    have BD2 := Lib.hid (fun W => BD.out W c1)
    subst c1
    go_wp2_with (first | ((with_reducible refine at_load 32 (.tmp 2) ?_); refine wpList_load_row rfl 32 _ rfl g rfl 32 A (0, 0) _ KX.out Tryd.underlying32 rfl HSZ.out ?_) | (go_at_call 45; (with_reducible refine Calls.mono (BD2.out _) ?_); rintro e1 w2 ⟨rfl, hb1⟩; replace HW := Lib.hid (HW.out.trans hb1); clear hb1))
    refine bodyPost_ret (v := .tuple #[.int .i64 bq, .int .i64 0]) ?_ rfl ⟨by rw [HR.out], HW.out⟩
    simp [results, Tryd.results20, go_sem]
end Go.Proofs.Sky

namespace Go.Proofs.Sky
open Go Go.RowKit Go.Shelf
set_option maxHeartbeats 2000000
set_option maxRecDepth 8000
/-! chapter 28: Clock, the walk -/
theorem ck_bd {X : Nat → Int} (h : errE X = 0) : (X 4).natAbs ≤ 2147483648 ∧ (X 5).natAbs ≤ 8388608 ∧ (X 6).natAbs ≤ 32768 := by
  have hp := (errE_parts h).2.1
  have h0 := hp 0 (by omega)
  have h1 := hp 1 (by omega)
  have h2 := hp 2 (by omega)
  unfold okZ at h0 h1 h2
  simp only [decide_eq_true_eq] at h0 h1 h2
  rw [show lowR (clB 0) true = -2147483648 from by decide, show highR (clB 0) true = 2147483647 from by decide] at h0
  rw [show lowR (clB 1) true = -8388608 from by decide, show highR (clB 1) true = 8388607 from by decide] at h1
  rw [show lowR (clB 2) true = -32768 from by decide, show highR (clB 2) true = 32767 from by decide] at h2
  have e0 : -2147483648 ≤ X 4 ∧ X 4 ≤ 2147483647 := h0
  have e1 : -8388608 ≤ X 5 ∧ X 5 ≤ 8388607 := h1
  have e2 : -32768 ≤ X 6 ∧ X 6 ≤ 32767 := h2
  clear h0 h1 h2
  omega
theorem rdI_ck {W : World} {g : Nat} {X : Nat → Int} (hB : Blk W g 25 (eV X)) : RdI W (.slice (some ⟨g, 4, none⟩) 3 3) [X 4, X 5, X 6] := by
  refine ⟨by simp, _, _, rfl, .inr ⟨g, 4, rfl, hB.lt, fun k hk => ?_⟩⟩
  have hk4 : k < 3 := hk
  refine hB.cell ((eV_at X (4 + k) (by omega)).trans ?_)
  match k, hk4 with
  | 0, _ => rfl
  | 1, _ => rfl
  | 2, _ => rfl
def ckE (X : Nat → Int) (t : Int) : Int := if (atE X t).2 = 0 then clkQ (X 4) (X 5) (X 6) (atE X t).1 else 0
theorem Clock28_any (X : Nat → Int) (t : Int) (w : World) : Calls Tryd.prog 15 #[.agg (eV X), .int .i64 t] w fun e w' => e = .returned (.tuple #[.int .i64 (ckE X t), .int .i64 (atE X t).2]) ∧ Bw w w' := by
  have AT := Lib.hid (fun W => at28_any X t W)
  have KX := Lib.hid (Blk.new w 25 (eV X))
  have HW := Lib.hid (Bw.alloc (Bw.refl w) (.cells (eV X) 25))
  have HSZ : Hid ((Tryd.prog.info? 25).map (·.size) = some (eV X).size) := Lib.hid (by kernel_rfl)
  have HRA := Lib.hid (fun W g (hB : Blk W g 25 (eV X)) => rdI_ck hB)
  obtain ⟨g, hg⟩ : ∃ g, w.heap.size = g := ⟨_, rfl⟩
  rw [hg] at KX
  have HOK := Lib.hid (fun h => atE_ok (X := X) (t := t) h)
  have HBD := Lib.hid (fun (h : errE X = 0) => ck_bd h)
  have HPS := Lib.hid (show ckE X t = if (atE X t).2 = 0 then clkQ (X 4) (X 5) (X 6) (atE X t).1 else 0 from rfl)
  generalize ckE X t = CE at *
  generalize atE X t = R at *
  obtain ⟨d, er⟩ := R
  dsimp only at AT HOK HPS
  obtain ⟨A, hA⟩ : ∃ A, A = eV X := ⟨_, rfl⟩
  rw [← hA] at AT KX HW HSZ HRA ⊢
  clear hA
  go_enter Tryd.func15, Tryd.ntmps15
  go_upto_region 1 with fail
  obtain ⟨W0, hW0⟩ : ∃ W0, w.alloc (.cells A 25) = W0 := ⟨_, rfl⟩
  rw [hW0] at KX HW ⊢
  clear hW0 hg
  go_upto_region 2 with (first | ((with_reducible refine at_load 25 (.tmp 2) ?_); refine wpList_load_row rfl 25 _ rfl g rfl 25 A (0, 0) _ KX.out Tryd.underlying25 rfl HSZ.out ?_) | (go_at_call 34; (with_reducible refine Calls.mono (AT.out _) ?_); rintro e1 w1 ⟨rfl, hb1⟩; replace KX := Lib.hid (KX.out.bw hb1); replace HW := Lib.hid (HW.out.trans hb1); clear hb1))
  by_cases c1 : er = 0
  case neg =>
    have c1z : (er != 0) = true := by simpa using c1
    have HR := Lib.hid (HPS.out.trans (if_neg c1))
    clear c1
    go_wp2
    refine bodyPost_ret (v := .tuple #[.int .i64 0, .int .i64 er]) ?_ rfl ⟨by rw [HR.out], HW.out⟩
    simp [results, Tryd.results15, go_sem]
  obtain ⟨hx, hd⟩ := HOK.out c1
  subst c1
  have HR := Lib.hid (HPS.out.trans (if_pos rfl))
  obtain ⟨b0, b1, b2⟩ := HBD.out hx
  have hp4 := (clk3 b0 b1 b2 hd).1
  have OV := Lib.hid (fun W => over_clk b0 b1 b2 hd W)
  have VA : Hid (∀ W v vs, RdI W v [X 4, X 5, X 6] → RdI W vs [40, 24, 0] → Calls Tryd.prog 35 #[v, vs, .int .i64 d] W fun e w' => e = .returned (.agg (nV (hW d (xsW [X 4, X 5, X 6] [40, 24, 0] 3)).1 (hW d (xsW [X 4, X 5, X 6] [40, 24, 0] 3)).2)) ∧ Bw W w') := Lib.hid (fun W v vs h1 h2 => valued_any [X 4, X 5, X 6] [40, 24, 0] d v vs W h1 h2 (by simp) (by simp) rfl (fun j hj => by
    have hj4 : j < 3 := hj
    rcases (by omega : j = 0 ∨ j = 1 ∨ j = 2) with rfl | rfl | rfl
    · show -9000000000000000000 ≤ X 4 ∧ X 4 ≤ 9000000000000000000; omega
    · show -9000000000000000000 ≤ X 5 ∧ X 5 ≤ 9000000000000000000; omega
    · show -9000000000000000000 ≤ X 6 ∧ X 6 ≤ 9000000000000000000; omega) (fun j hj => by
    have hj4 : j < 3 := hj
    rcases (by omega : j = 0 ∨ j = 1 ∨ j = 2) with rfl | rfl | rfl <;> decide) (by omega) hp4)
  clear hp4 b0 b1 b2 hx hd HBD HOK HPS AT
  have HRX := Lib.hid (fun W (hB : Blk W g 25 A) => HRA.out W g hB)
  clear HRA
  generalize X 4 = x0 at *
  generalize X 5 = x1 at *
  generalize X 6 = x2 at *
  generalize hW d (xsW [x0, x1, x2] [40, 24, 0] 3) = RES at *
  generalize clkQ x0 x1 x2 d = CQ at *
  have TM1 := Lib.hid (fun W => times28 RES 299792458 (by decide) W)
  have UN : Hid (∀ W, Calls Tryd.prog 37 #[.int .i64 2, .int .i64 50] W fun e w' => e = .returned (.agg (nV (unitW 2 50).1 (unitW 2 50).2)) ∧ Bw W w') := Lib.hid (fun W => unit28_any 2 50 (by decide) (by decide) W)
  generalize unitW 2 50 = UV at *
  have TM2 := Lib.hid (fun W => times28 UV 1000000 (by decide) W)
  generalize timesW RES 299792458 = RS2 at *
  generalize timesW UV 1000000 = UV2 at *
  have RS := Lib.hid (show RdI (w1.alloc (.cells #[.int .i64 40, .int .i64 24, .int .i64 0] 3)) (.slice (some ⟨w1.heap.size, 0, none⟩) 3 3) [40, 24, 0] from RdI.litN w1 #[.int .i64 40, .int .i64 24, .int .i64 0] 3 [40, 24, 0] w1.heap.size rfl (by rfl) (by simp))
  go_upto_region 4 with fail
  go_wp2_with (first | (go_at_call 35; (with_reducible refine Calls.mono (VA.out _ _ _ (HRX.out _ (KX.out.bw (Bw.alloc (Bw.refl w1) (.cells #[.int .i64 40, .int .i64 24, .int .i64 0] 3)))) RS.out) ?_); rintro e1 w4 ⟨rfl, hb1⟩; replace hb1 := (Bw.alloc (Bw.refl w1) (.cells #[.int .i64 40, .int .i64 24, .int .i64 0] 3)).trans hb1; replace KX := Lib.hid (KX.out.bw hb1); replace HW := Lib.hid (HW.out.trans hb1); clear hb1) | (go_at_call 38; (first | (with_reducible refine Calls.mono (TM1.out _) ?_) | (with_reducible refine Calls.mono (TM2.out _) ?_)); rintro e1 w5 ⟨rfl, hb1⟩; replace KX := Lib.hid (KX.out.bw hb1); replace HW := Lib.hid (HW.out.trans hb1); clear hb1) | (go_at_call 37; (with_reducible refine Calls.mono (UN.out _) ?_); rintro e1 w5 ⟨rfl, hb1⟩; replace KX := Lib.hid (KX.out.bw hb1); replace HW := Lib.hid (HW.out.trans hb1); clear hb1) | (go_at_call 36; (with_reducible refine Calls.mono (OV.out _) ?_); rintro e1 w6 ⟨rfl, hb1⟩; replace KX := Lib.hid (KX.out.bw hb1); replace HW := Lib.hid (HW.out.trans hb1); clear hb1))
  refine bodyPost_ret (v := .tuple #[.int .i64 CQ, .int .i64 0]) ?_ rfl ⟨by rw [HR.out], HW.out⟩
  simp [results, Tryd.results15, go_sem]
end Go.Proofs.Sky

namespace Go.Proofs.Sky
open Go Go.RowKit Go.Shelf
set_option maxHeartbeats 4000000
set_option maxRecDepth 8000
/-! chapter 28: the examples -/
theorem wpList_load_roww28 {P : Program} {ops : Array Oper} {rest : List Oper} {o : Oper} {a : Act} {w : World} {Q : Exit → Act → World → Prop} (ty : TypeId) (x : Operand) (ho : o.op = .load ty x)
    (g : Nat) (hx : a.eval x = .pointer (some ⟨g, 0, none⟩)) (t : TypeId) (cs : Array Value) (fr : Nat × Nat) (d : TypeDesc) (hg : w.heap[g]? = some (.cells cs t fr))
    (hu : P.underlying ty = some d) (hd : (match d with | .struct _ | .array _ _ => true | _ => false) = true) (hi : (P.info? ty).map (·.size) = some cs.size) (hw : Region.wanted o (yielded ops a.tmps) = true)
    (h : wpList P ops Q rest (a.put o.dst (.agg cs)) w) : wpList P ops Q (o :: rest) a w := by
  rw [wpList, if_pos hw]
  exact .inl (wp_load_row ty x ho g hx t cs fr d hg hu hd hi h)
theorem eqP_self (x y z : Int) (w : World) : (Op.equalIn 10000 27 (.agg #[.int .i64 x, .int .i64 y, .int .i64 z]) (.agg #[.int .i64 x, .int .i64 y, .int .i64 z])).run Tryd.prog w = .ok true w := by
  rw [show (10000 : Nat) = 9998 + 1 + 1 from rfl, run_equalIn_agg _ _ _ _ _ (by kernel_rfl) (by kernel_rfl)]
  simp only [Program.fieldsOf, Tryd.underlying27]
  have h1 : ∀ w, (sizeOf 3).run Tryd.prog w = .ok 1 w := fun w => by kernel_rfl
  have hi : Tryd.prog.underlying 3 = some (.int .i64) := by kernel_rfl
  simp [Op.eqFields, part, h1, go_sem, run_underlying hi, run_equalIn_int _ _ _ _ _ _ _ hi]
theorem eqP_guard (x y : Array Value) (op : BinOp) (p q : Operand) (w : World) : (eqGuard op 27 p q (.agg x) (.agg y)).run Tryd.prog w = .ok () w := run_eqGuard_agg w op _ _ _ _ _ (by kernel_rfl)
def plX : Nat → Int := fun i => [1, 0, 100, 0, 1024, 0, 0, 1000, -2000, 1024, 0, 0, 0, 0, 4194304, 0, 0, 0, 0].getD i 0
theorem plain28_any (w : World) : Calls Tryd.prog 13 #[] w fun e w' => e = .returned (.agg (eV plX)) ∧ Bw w w' := by
  have KR := Lib.hid (Blk.new w 25 #[.int .i64 0, .int .i64 0, .int .i64 0, .int .i64 0, .int .i64 0, .int .i64 0, .int .i64 0, .int .i64 0, .int .i64 0, .int .i64 0, .int .i64 0, .int .i64 0, .int .i64 0, .int .i64 0, .int .i64 0, .int .i64 0, .int .i64 0, .int .i64 0, .int .i64 0])
  have HW := Lib.hid (Bw.alloc (Bw.refl w) (.cells #[.int .i64 0, .int .i64 0, .int .i64 0, .int .i64 0, .int .i64 0, .int .i64 0, .int .i64 0, .int .i64 0, .int .i64 0, .int .i64 0, .int .i64 0, .int .i64 0, .int .i64 0, .int .i64 0, .int .i64 0, .int .i64 0, .int .i64 0, .int .i64 0, .int .i64 0] 25))
  go_enter Tryd.func13, Tryd.ntmps13
  go_wp2_with ((with_reducible refine at_store 25 (.tmp 0) (.tmp 4) ?_); refine wpList_store_row rfl 25 (.tmp 0) (.tmp 4) rfl w.heap.size (eV plX) rfl rfl 25 _ KR.out (by kernel_rfl) rfl (by simp [Value.oneCell', eV]) ?_)
  refine bodyPost_ret (v := .agg (eV plX)) ?_ rfl ⟨rfl, Bw.setRow HW.out (Nat.le_refl _) _⟩
  exact results_cell_row (p := 0) rfl _ _ w.heap.size _ _ (0, 0) _ rfl (KR.out.row _) Tryd.underlying25 rfl (by kernel_rfl)
theorem pl_at1 : atE plX 101000000000 = (1000000000, 0) := by kernel_rfl
theorem pl_at4 : atE plX 104000000000 = (4000000000, 0) := by kernel_rfl
theorem pl_at0 : atE plX 100000000000 = (0, 0) := by kernel_rfl
theorem pl_err : errE plX = 0 := by kernel_rfl
theorem pl_ps1 : l3V (psE plX 101000000000) = #[.int .i64 14001, .int .i64 0, .int .i64 0] := by kernel_rfl
theorem pl_ps4 : l3V (psE plX 104000000000) = #[.int .i64 8016, .int .i64 4, .int .i64 0] := by kernel_rfl
theorem pl_vs4 : l3V (vsE plX 104000000000) = #[.int .i64 (-1992), .int .i64 3, .int .i64 0] := by kernel_rfl
theorem pl_ck0 : ckE plX 100000000000 = 300 := by kernel_rfl
theorem pl_sp : l3V (spE plX) = #[.int .i64 16400, .int .i64 9720000, .int .i64 0] := by kernel_rfl
theorem stands28_any (t x y : Int) (h1 : (atE plX t).2 = 0) (h2 : l3V (psE plX t) = #[.int .i64 x, .int .i64 y, .int .i64 0]) (w : World) : Calls Tryd.prog 11 #[.int .i64 t, .int .i64 x, .int .i64 y] w fun e w' => e = .returned (.bool true) ∧ Bw w w' := by
  have PL := Lib.hid (fun W => plain28_any W)
  have PS := Lib.hid (fun W => Position28_any plX t W)
  rw [h1, h2] at PS
  have hq := fun W => eqP_self x y 0 W
  have hg := fun W a b op p q => eqP_guard a b op p q W
  obtain ⟨A, hA⟩ : ∃ A, A = eV plX := ⟨_, rfl⟩
  rw [← hA] at PL PS
  clear hA h1 h2
  have HW := Lib.hid (Bw.refl w)
  go_enter Tryd.func11, Tryd.ntmps11
  go_wp2_with (first | (go_at_call 13; (with_reducible refine Calls.mono (PL.out _) ?_); rintro e1 w1 ⟨rfl, hb1⟩; replace HW := Lib.hid (HW.out.trans hb1); clear hb1) | (go_at_call 14; (with_reducible refine Calls.mono (PS.out _) ?_); rintro e1 w2 ⟨rfl, hb1⟩; replace HW := Lib.hid (HW.out.trans hb1); clear hb1))
  go_ret
  exact ⟨rfl, HW.out.trans (Bw.alloc (Bw.refl _) _)⟩
theorem awake28_any (w : World) : Calls Tryd.prog 10 #[] w fun e w' => e = .returned (.bool true) ∧ Bw w w' := by
  have PL := Lib.hid (fun W => plain28_any W)
  have VE := Lib.hid (fun W => Velocity28_any plX 104000000000 W)
  have CK := Lib.hid (fun W => Clock28_any plX 100000000000 W)
  have SP := Lib.hid (fun W => Speed28_any plX W)
  have S1 := Lib.hid (fun W => stands28_any 101000000000 14001 0 (by rw [pl_at1]) pl_ps1 W)
  have S4 := Lib.hid (fun W => stands28_any 104000000000 8016 4 (by rw [pl_at4]) pl_ps4 W)
  rw [pl_at4, pl_vs4] at VE
  rw [pl_at0, pl_ck0] at CK
  rw [pl_err, pl_sp] at SP
  dsimp only at VE CK
  have hq := fun x y z W => eqP_self x y z W
  have hg := fun W a b op p q => eqP_guard a b op p q W
  obtain ⟨A, hA⟩ : ∃ A, A = eV plX := ⟨_, rfl⟩
  rw [← hA] at PL VE CK SP
  clear hA
  have HW := Lib.hid (Bw.refl w)
  go_enter Tryd.func10, Tryd.ntmps10
  go_upto_region 2 with (first | (go_at_call 13; (with_reducible refine Calls.mono (PL.out _) ?_); rintro e1 w1 ⟨rfl, hb1⟩; replace HW := Lib.hid (HW.out.trans hb1); clear hb1) | (go_at_call 12; (with_reducible refine Calls.mono (VE.out _) ?_); rintro e1 w2 ⟨rfl, hb1⟩; replace HW := Lib.hid (HW.out.trans hb1); clear hb1))
  obtain ⟨g1, hg1⟩ : ∃ g1, w2.heap.size = g1 := ⟨_, rfl⟩
  have KV := Lib.hid (Blk.new w2 27 #[.int .i64 (-1992), .int .i64 3, .int .i64 0])
  have hb1 := Bw.alloc (Bw.refl w2) (.cells #[.int .i64 (-1992), .int .i64 3, .int .i64 0] 27)
  rw [hg1] at KV ⊢
  replace HW := Lib.hid (HW.out.trans hb1); clear hb1
  generalize World.alloc w2 _ = w3 at *
  clear hg1
  go_upto_region 3 with (first | (go_at_call 13; (with_reducible refine Calls.mono (PL.out _) ?_); rintro e1 w4 ⟨rfl, hb1⟩; replace KV := Lib.hid (KV.out.bw hb1); replace HW := Lib.hid (HW.out.trans hb1); clear hb1) | (go_at_call 15; (with_reducible refine Calls.mono (CK.out _) ?_); rintro e1 w5 ⟨rfl, hb1⟩; replace KV := Lib.hid (KV.out.bw hb1); replace HW := Lib.hid (HW.out.trans hb1); clear hb1))
  go_upto_region 4 with (first | (go_at_call 13; (with_reducible refine Calls.mono (PL.out _) ?_); rintro e1 w6 ⟨rfl, hb1⟩; replace KV := Lib.hid (KV.out.bw hb1); replace HW := Lib.hid (HW.out.trans hb1); clear hb1) | (go_at_call 6; (with_reducible refine Calls.mono (SP.out _) ?_); rintro e1 w7 ⟨rfl, hb1⟩; replace KV := Lib.hid (KV.out.bw hb1); replace HW := Lib.hid (HW.out.trans hb1); clear hb1))
  obtain ⟨g5, hg5⟩ : ∃ g5, w7.heap.size = g5 := ⟨_, rfl⟩
  have KS := Lib.hid (Blk.new w7 27 #[.int .i64 16400, .int .i64 9720000, .int .i64 0])
  have hb1 := Bw.alloc (Bw.refl w7) (.cells #[.int .i64 16400, .int .i64 9720000, .int .i64 0] 27)
  rw [hg5] at KS ⊢
  replace KV := Lib.hid (KV.out.bw hb1)
  replace HW := Lib.hid (HW.out.trans hb1); clear hb1
  generalize World.alloc w7 _ = w8 at *
  clear hg5
  go_wp2_with (first | (go_at_call 11; (first | (with_reducible refine Calls.mono (S1.out _) ?_) | (with_reducible refine Calls.mono (S4.out _) ?_)); rintro e1 w9 ⟨rfl, hb1⟩; replace KV := Lib.hid (KV.out.bw hb1); replace KS := Lib.hid (KS.out.bw hb1); replace HW := Lib.hid (HW.out.trans hb1); clear hb1) | ((with_reducible refine at_load 27 (.tmp 1) ?_); refine wpList_load_roww28 27 _ rfl g1 rfl 27 #[.int .i64 (-1992), .int .i64 3, .int .i64 0] (0, 0) _ KV.out Tryd.underlying27 rfl (by kernel_rfl) (by rfl) ?_) | ((with_reducible refine at_load 27 (.tmp 5) ?_); refine wpList_load_roww28 27 _ rfl g5 rfl 27 #[.int .i64 16400, .int .i64 9720000, .int .i64 0] (0, 0) _ KS.out Tryd.underlying27 rfl (by kernel_rfl) (by rfl) ?_))
  go_ret
  exact ⟨rfl, HW.out⟩
end Go.Proofs.Sky

namespace Go.Proofs.Sky
set_option maxRecDepth 8000
/-! chapter 28, plain: OrbitMoves, OrbitSigns -/
theorem rndQ_mul (k P : Int) (hP : 0 < P) : rndQ (k * P) P = k := by
  have key : ∀ j : Int, 0 ≤ j → (2 * (j * P) + P) / 2 / P = j := fun j hj => by
    have h1 : (2 * (j * P) + P) / 2 = P / 2 + j * P := by
      generalize j * P = m
      omega
    rw [h1, Int.add_mul_ediv_right _ _ (by omega)]
    have h2 : P / 2 / P = 0 := Int.ediv_eq_zero_of_lt (by omega) (by omega)
    rw [h2, Int.zero_add]
  unfold rndQ
  by_cases h : k < 0
  · have h1 : k * P < 0 := Int.mul_neg_of_neg_of_pos h hP
    rw [if_pos h1]
    have h2 := key (-k) (by omega)
    rw [Int.neg_mul] at h2
    rw [h2, Int.neg_neg]
  · have h1 : ¬ k * P < 0 := by
      have := Int.mul_nonneg (show 0 ≤ k by omega) (Int.le_of_lt hP)
      omega
    rw [if_neg h1]
    exact key k (by omega)
theorem rndQ_neg (S P : Int) (hP : 0 < P) : rndQ (-S) P = -rndQ S P := by
  have h0 : (2 * 0 + P) / 2 / P = 0 := by
    rw [Int.mul_zero, Int.zero_add]
    exact Int.ediv_eq_zero_of_lt (by omega) (by omega)
  unfold rndQ
  by_cases h : S < 0
  · rw [if_neg (by omega), if_pos h, Int.neg_neg]
  · by_cases h2 : S = 0
    · subst h2
      rw [if_neg (by omega), if_neg (by omega), Int.neg_zero, h0, Int.neg_zero]
    · rw [if_pos (by omega), if_neg h, Int.neg_neg]
theorem rndQ_near (S P : Int) (hP : 0 < P) : 2 * (P * rndQ S P) - 2 * S ≤ P ∧ 2 * S - 2 * (P * rndQ S P) ≤ P := by
  have key : ∀ S : Int, 0 ≤ S → 2 * (P * ((2 * S + P) / 2 / P)) - 2 * S ≤ P ∧ 2 * S - 2 * (P * ((2 * S + P) / 2 / P)) ≤ P := fun S hS => by
    have h1 := Int.mul_ediv_add_emod ((2 * S + P) / 2) P
    have h2 := Int.emod_nonneg ((2 * S + P) / 2) (show P ≠ 0 by omega)
    have h3 := Int.emod_lt_of_pos ((2 * S + P) / 2) hP
    generalize (2 * S + P) / 2 % P = r at *
    generalize P * ((2 * S + P) / 2 / P) = m at *
    omega
  unfold rndQ
  by_cases h : S < 0
  · rw [if_pos h, Int.mul_neg]
    have := key (-S) (by omega)
    generalize P * ((2 * -S + P) / 2 / P) = m at *
    omega
  · rw [if_neg h]
    exact key S (by omega)
/-- two rounded quotients are not much farther from each other than the quotients -/
theorem near_diff {S1 S2 P : Int} (hP : 0 < P) : P * ((rndQ S1 P - rndQ S2 P).natAbs : Int) ≤ ((S1 - S2).natAbs : Int) + P := by
  have h1 := rndQ_near S1 P hP
  have h2 := rndQ_near S2 P hP
  generalize rndQ S1 P = p at *
  generalize rndQ S2 P = q at *
  by_cases h : 0 ≤ p - q
  · have e : ((p - q).natAbs : Int) = p - q := by omega
    rw [e, Int.mul_sub]
    generalize P * p = X at *
    generalize P * q = Y at *
    omega
  · have e : ((p - q).natAbs : Int) = q - p := by omega
    rw [e, Int.mul_sub]
    generalize P * p = X at *
    generalize P * q = Y at *
    omega
theorem abs_mul_le {x y : Int} {A B : Nat} (hx : x.natAbs ≤ A) (hy : y.natAbs ≤ B) : (x * y).natAbs ≤ A * B := by
  rw [Int.natAbs_mul]; exact Nat.mul_le_mul hx hy
theorem abs_add3 (x y z : Int) : (x + y + z).natAbs ≤ x.natAbs + y.natAbs + z.natAbs := by omega
/-- the numerator of a coordinate -/
def posS (c0 c1 c2 c3 d : Int) : Int := c0 * 16 * 1000000000 * 1000000000 * 1000000000 * 67108864 + c1 * d * 1000000000 * 1000000000 * 67108864 + c2 * d * d * 1000000000 * 65536 + c3 * d * d * d
theorem posS_diff (c0 c1 c2 c3 a b : Int) : posS c0 c1 c2 c3 a - posS c0 c1 c2 c3 b = (a - b) * (c1 * 67108864000000000000000000 + c2 * (a + b) * 65536000000000 + c3 * (a * a + a * b + b * b)) := by
  have e1 : (a - b) * (c1 * 67108864000000000000000000) = c1 * a * 67108864000000000000000000 - c1 * b * 67108864000000000000000000 := by
    rw [Int.sub_mul, ← Int.mul_assoc, ← Int.mul_assoc, Int.mul_comm a c1, Int.mul_comm b c1]
  have e2 : (a - b) * (c2 * (a + b) * 65536000000000) = c2 * a * a * 65536000000000 - c2 * b * b * 65536000000000 := by
    have h : (a - b) * (c2 * (a + b)) = c2 * a * a - c2 * b * b := by
      rw [Int.mul_left_comm, Int.sub_mul, Int.mul_add, Int.mul_add, Int.mul_comm b a, Int.mul_sub, Int.mul_add, Int.mul_add, ← Int.mul_assoc c2 a a, ← Int.mul_assoc c2 b b]
      omega
    rw [← Int.mul_assoc, h, Int.sub_mul]
  have e3 : (a - b) * (c3 * (a * a + a * b + b * b)) = c3 * a * a * a - c3 * b * b * b := by
    have h : (a - b) * (a * a + a * b + b * b) = a * a * a - b * b * b := by
      simp only [Int.sub_mul, Int.mul_add]
      have f1 : a * (a * a) = a * a * a := (Int.mul_assoc a a a).symm
      have f2 : b * (b * b) = b * b * b := (Int.mul_assoc b b b).symm
      have f3 : b * (a * a) = a * (a * b) := by rw [Int.mul_comm b (a * a), Int.mul_assoc]
      have f4 : b * (a * b) = a * (b * b) := by rw [← Int.mul_assoc, Int.mul_comm b a, Int.mul_assoc]
      rw [f1, f2, f3, f4]
      omega
    rw [Int.mul_left_comm, h, Int.mul_sub, ← Int.mul_assoc, ← Int.mul_assoc, ← Int.mul_assoc, ← Int.mul_assoc]
  rw [Int.mul_add, Int.mul_add, e1, e2, e3]
  unfold posS
  generalize c3 * a * a * a = p1
  generalize c3 * b * b * b = p2
  generalize c2 * a * a = p3
  generalize c2 * b * b = p4
  generalize c1 * a = p5
  generalize c1 * b = p6
  omega
/-- the bound of a coordinate's change -/
theorem pos_move {c0 c1 c2 c3 a b sp : Int} (ha : a.natAbs ≤ 7200000000000) (hb : b.natAbs ≤ 7200000000000) (hs : (c1.natAbs : Int) * 67108864 + 2 * (c2.natAbs : Int) * 7200 * 65536 + 3 * (c3.natAbs : Int) * 7200 * 7200 ≤ sp * 67108864) :
    1000000000 * (((rndQ (posS c0 c1 c2 c3 a) 67108864000000000000000000000000000 - rndQ (posS c0 c1 c2 c3 b) 67108864000000000000000000000000000).natAbs : Int) - 1) ≤ sp * ((a - b).natAbs : Int) := by
  have h1 := near_diff (S1 := posS c0 c1 c2 c3 a) (S2 := posS c0 c1 c2 c3 b) (P := 67108864000000000000000000000000000) (by decide)
  rw [posS_diff] at h1
  have hab : (a + b).natAbs ≤ 14400000000000 := by omega
  have g1 : (c1 * 67108864000000000000000000).natAbs = c1.natAbs * 67108864000000000000000000 := by rw [Int.natAbs_mul]; rfl
  have g2 : (c2 * (a + b) * 65536000000000).natAbs ≤ c2.natAbs * 14400000000000 * 65536000000000 := abs_mul_le (abs_mul_le (Nat.le_refl _) hab) (Nat.le_refl _)
  have q1 : (a * a).natAbs ≤ 7200000000000 * 7200000000000 := abs_mul_le ha ha
  have q2 : (a * b).natAbs ≤ 7200000000000 * 7200000000000 := abs_mul_le ha hb
  have q3 : (b * b).natAbs ≤ 7200000000000 * 7200000000000 := abs_mul_le hb hb
  have q4 : (a * a + a * b + b * b).natAbs ≤ 3 * (7200000000000 * 7200000000000) := Nat.le_trans (abs_add3 _ _ _) (by omega)
  have g3 : (c3 * (a * a + a * b + b * b)).natAbs ≤ c3.natAbs * (3 * (7200000000000 * 7200000000000)) := abs_mul_le (Nat.le_refl _) q4
  have g4 := abs_add3 (c1 * 67108864000000000000000000) (c2 * (a + b) * 65536000000000) (c3 * (a * a + a * b + b * b))
  have g5 : ((c1 * 67108864000000000000000000 + c2 * (a + b) * 65536000000000 + c3 * (a * a + a * b + b * b)).natAbs : Int) ≤ sp * 67108864000000000000000000 := by
    clear h1 q1 q2 q3 q4
    generalize (c1 * 67108864000000000000000000).natAbs = u1 at *
    generalize (c2 * (a + b) * 65536000000000).natAbs = u2 at *
    generalize (c3 * (a * a + a * b + b * b)).natAbs = u3 at *
    generalize (c1 * 67108864000000000000000000 + c2 * (a + b) * 65536000000000 + c3 * (a * a + a * b + b * b)).natAbs = u4 at *
    omega
  rw [Int.natAbs_mul, Int.natCast_mul] at h1
  generalize ((c1 * 67108864000000000000000000 + c2 * (a + b) * 65536000000000 + c3 * (a * a + a * b + b * b)).natAbs : Int) = T at *
  have h2 := Int.mul_le_mul_of_nonneg_left g5 (show 0 ≤ ((a - b).natAbs : Int) by omega)
  generalize ((a - b).natAbs : Int) = n at *
  rw [show n * (sp * 67108864000000000000000000) = sp * n * 67108864000000000000000000 by rw [← Int.mul_assoc, Int.mul_comm n sp]] at h2
  generalize n * T = m at *
  generalize sp * n = k at *
  omega
def velS (c1 c2 c3 d : Int) : Int := c1 * 1000000000 * 1000000000 * 67108864 + 2 * c2 * d * 1000000000 * 65536 + 3 * c3 * d * d
theorem vel_bound {c1 c2 c3 a sp : Int} (ha : a.natAbs ≤ 7200000000000) (hs : (c1.natAbs : Int) * 67108864 + 2 * (c2.natAbs : Int) * 7200 * 65536 + 3 * (c3.natAbs : Int) * 7200 * 7200 ≤ sp * 67108864) :
    rndQ (velS c1 c2 c3 a) 67108864000000000000000000 ≤ sp + 1 ∧ -sp - 1 ≤ rndQ (velS c1 c2 c3 a) 67108864000000000000000000 := by
  have h1 := rndQ_near (velS c1 c2 c3 a) 67108864000000000000000000 (by decide)
  have g2 : (2 * c2 * a).natAbs ≤ 2 * c2.natAbs * 7200000000000 := abs_mul_le (abs_mul_le (Nat.le_refl 2) (Nat.le_refl _)) ha
  have g3 : (3 * c3 * a * a).natAbs ≤ 3 * c3.natAbs * 7200000000000 * 7200000000000 := abs_mul_le (abs_mul_le (abs_mul_le (Nat.le_refl 3) (Nat.le_refl _)) ha) ha
  unfold velS at *
  generalize 2 * c2 * a = u2 at *
  generalize 3 * c3 * a * a = u3 at *
  generalize rndQ (c1 * 1000000000 * 1000000000 * 67108864 + u2 * 1000000000 * 65536 + u3) 67108864000000000000000000 = v at *
  omega
theorem posS_neg (c0 c1 c2 c3 d : Int) : posS (-c0) (-c1) (-c2) (-c3) d = -posS c0 c1 c2 c3 d := by
  unfold posS
  simp only [Int.neg_mul]
  omega
theorem posS_zero (c0 c1 c2 c3 : Int) : posS c0 c1 c2 c3 0 = 16 * c0 * 67108864000000000000000000000000000 := by
  unfold posS
  simp only [Int.mul_zero, Int.zero_mul]
  omega
theorem velS_zero (c1 c2 c3 : Int) : velS c1 c2 c3 0 = c1 * 67108864000000000000000000 := by
  unfold velS
  simp only [Int.mul_zero, Int.zero_mul]
  omega
end Go.Proofs.Sky
