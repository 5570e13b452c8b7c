/-
  lemmas for the theorems of this claim. No conditions beyond those written in the statements.
-/
import Derived.Test.YtpmopobjlpfdaaaDoorAL6
import Derived.Test.YtpmopobjlpfdaaaDoorFD27
import Derived.Deep.LoopGhost
import Derived.Deep.Cut
set_option linter.unusedVariables false
set_option linter.unusedSimpArgs false
set_option linter.unnecessarySimpa false
namespace Go.Proofs.Sky
open Go Go.RowKit Go.Shelf
attribute [local go_sem] Oper.semAt_some
set_option maxHeartbeats 4000000
set_option maxRecDepth 8000
/-! chapter 40: size, down, up, length, root -/
def szW (n : Int) : Int := (n.natAbs : Int)
theorem szW_max (n : Int) : max n (-n) = szW n := by unfold szW; omega
theorem szW_nn (n : Int) : 0 ≤ szW n := by unfold szW; omega
theorem size40_any (n : Int) (h : -4000000000000000000 ≤ n ∧ n ≤ 4000000000000000000) (w : World) : Calls Tryd.prog 44 #[.int .i64 n] w fun e w' => e = .returned (.int .i64 (szW n)) ∧ Bw w w' := by
  have hw : IntKind.i64.wrap (-n) = -n := by rw [IntKind.wrap_i64]; omega
  go_enter Tryd.func44, Tryd.ntmps44
  go_wp2
  all_goals
    go_ret
    exact ⟨ret_int (by unfold szW; omega), Bw.refl _⟩
theorem dn_way (a b : Int) (hb : 1 ≤ b) : ∃ q m, a.tdiv b = q ∧ a.tmod b = m ∧ ((0 ≤ m ∧ a / b = q) ∨ (m < 0 ∧ a / b = q - 1)) ∧ -szW a ≤ q ∧ q ≤ szW a := by
  have hbd : ∀ c : Int, 0 ≤ c → 0 ≤ c / b ∧ c / b ≤ c := fun c hc => ⟨Int.ediv_nonneg hc (by omega), Int.ediv_le_self _ hc⟩
  by_cases h : 0 ≤ a
  · refine ⟨a / b, a % b, Int.tdiv_eq_ediv_of_nonneg h, Int.tmod_eq_emod_of_nonneg h, .inl ⟨Int.emod_nonneg _ (by omega), rfl⟩, ?_⟩
    have := hbd a h
    unfold szW; omega
  · obtain ⟨c, rfl⟩ : ∃ c, a = -c := ⟨-a, by omega⟩
    have hc : 0 ≤ c := by omega
    have h1 : (-c).tdiv b = -(c / b) := by rw [Int.neg_tdiv, Int.tdiv_eq_ediv_of_nonneg hc]
    have h2 : (-c).tmod b = -(c % b) := by rw [Int.neg_tmod, Int.tmod_eq_emod_of_nonneg hc]
    have h3 := Int.emod_nonneg c (show b ≠ 0 by omega)
    have h4 := hbd c hc
    refine ⟨_, _, h1, h2, ?_, by unfold szW; omega⟩
    rw [Int.neg_ediv]
    by_cases h5 : b ∣ c
    · left
      rw [if_pos h5, Int.emod_eq_zero_of_dvd h5]
      omega
    · right
      rw [if_neg h5, Int.sign_eq_one_of_pos (by omega)]
      have : c % b ≠ 0 := fun h6 => h5 (Int.dvd_of_emod_eq_zero h6)
      omega
theorem down40_any (a b : Int) (ha : -4000000000000000000 ≤ a ∧ a ≤ 4000000000000000000) (hb : 1 ≤ b ∧ b ≤ 1000000000) (w : World) : Calls Tryd.prog 48 #[.int .i64 a, .int .i64 b] w fun e w' => e = .returned (.int .i64 (a / b)) ∧ Bw w w' := by
  obtain ⟨q, m, h1, h2, h3, h4⟩ := dn_way a b hb.1
  have hz : b ≠ 0 := by omega
  have hz1 : (b == 0) = false := by simpa using hz
  have hz2 : ¬ b = -1 := by omega
  unfold szW at h4
  have hq : -4000000000000000000 ≤ q ∧ q ≤ 4000000000000000000 := by omega
  generalize a / b = r at h3 ⊢
  clear h4
  rcases h3 with ⟨h5, rfl⟩ | ⟨h5, rfl⟩
  · have hm : ¬ m < 0 := by omega
    clear h5
    go_enter Tryd.func48, Tryd.ntmps48
    go_wp2
    go_ret
    exact ⟨rfl, Bw.refl _⟩
  · go_enter Tryd.func48, Tryd.ntmps48
    go_wp2
    go_ret
    exact ⟨rfl, Bw.refl _⟩
def upW (a b : Int) : Int := -((-a) / b)
theorem up40_any (a b : Int) (ha : -4000000000000000000 ≤ a ∧ a ≤ 4000000000000000000) (hb : 1 ≤ b ∧ b ≤ 1000000000) (w : World) : Calls Tryd.prog 45 #[.int .i64 a, .int .i64 b] w fun e w' => e = .returned (.int .i64 (upW a b)) ∧ Bw w w' := by
  have DN := Lib.hid (fun W => down40_any (-a) b (by omega) hb W)
  obtain ⟨q, m, h1, h2, h3, h4⟩ := dn_way (-a) b hb.1
  have hq : -4000000000000000001 ≤ (-a) / b ∧ (-a) / b ≤ 4000000000000000000 := by unfold szW at h4; rcases h3 with h3 | h3 <;> omega
  clear h1 h2 h3 h4
  unfold upW
  have hw : IntKind.i64.wrap (-a) = -a := by rw [IntKind.wrap_i64]; omega
  generalize (-a) / b = r at *
  have hw2 : IntKind.i64.wrap (-r) = -r := by rw [IntKind.wrap_i64]; omega
  go_enter Tryd.func45, Tryd.ntmps45
  go_wp2_with (go_at_call 48; (with_reducible refine Calls.mono (DN.out _) ?_); rintro e1 w1 ⟨rfl, hb1⟩)
  go_ret
  exact ⟨rfl, hb1⟩
def len3 (x y z : Int) : Int := szW x + szW y + szW z
theorem length40_any (x y z : Int) (hx : -1000000000000 ≤ x ∧ x ≤ 1000000000000) (hy : -1000000000000 ≤ y ∧ y ≤ 1000000000000) (hz : -1000000000000 ≤ z ∧ z ≤ 1000000000000) (w : World) : Calls Tryd.prog 46 #[.agg #[.int .i64 x, .int .i64 y, .int .i64 z]] w fun e w' => e = .returned (.int .i64 (len3 x y z)) ∧ Bw w w' := by
  have S1 := Lib.hid (fun W => size40_any x (by omega) W)
  have S2 := Lib.hid (fun W => size40_any y (by omega) W)
  have S3 := Lib.hid (fun W => size40_any z (by omega) W)
  have b1 : 0 ≤ szW x ∧ szW x ≤ 1000000000000 := by unfold szW; omega
  have b2 : 0 ≤ szW y ∧ szW y ≤ 1000000000000 := by unfold szW; omega
  have b3 : 0 ≤ szW z ∧ szW z ≤ 1000000000000 := by unfold szW; omega
  have HL := Lib.hid (show szW x + szW y + szW z = len3 x y z from rfl)
  generalize szW x = sx at *
  generalize szW y = sy at *
  generalize szW z = sz at *
  clear hx hy hz
  have K := Lib.hid (Blk.new w 27 #[.int .i64 x, .int .i64 y, .int .i64 z])
  have HW := Lib.hid (Bw.alloc (Bw.refl w) (.cells #[.int .i64 x, .int .i64 y, .int .i64 z] 27))
  go_enter Tryd.func46, Tryd.ntmps46
  go_upto_region 1 with fail
  obtain ⟨g, hg⟩ : ∃ g, w.heap.size = g := ⟨_, rfl⟩
  rw [hg] at K ⊢
  generalize w.alloc _ = W0 at *
  have e0 := fun p : Ext W0 => Ext.cell' (K.out.cell (show (#[.int .i64 x, .int .i64 y, .int .i64 z] : Array Value)[0]? = some (.int .i64 x) from rfl)) p
  have e1 := fun p : Ext W0 => Ext.cell' (K.out.cell (show (#[.int .i64 x, .int .i64 y, .int .i64 z] : Array Value)[1]? = some (.int .i64 y) from rfl)) p
  have e2 := fun p : Ext W0 => Ext.cell' (K.out.cell (show (#[.int .i64 x, .int .i64 y, .int .i64 z] : Array Value)[2]? = some (.int .i64 z) from rfl)) p
  (refine wp_region_quiet_ext (by kernel_rfl) (by kernel_rfl) ?_; (repeat (go_big_quiet_step (((go_at_call 44; first | (with_reducible exact Calls.ext_of (S1.out _)) | (with_reducible exact Calls.ext_of (S2.out _)) | (with_reducible exact Calls.ext_of (S3.out _))))))); refine wpQuiet_nil ?_; rintro wq ⟨⟨_, hbq⟩, rfl⟩; obtain ⟨hccq, hffq⟩ := Bw.cells hbq; have hszq := Bw.size hbq)
  go_wp2
  go_ret
  exact ⟨ret_int HL.out, HW.out.trans hbq⟩
theorem root_am (n r x : Int) (hx : 1 ≤ x) (h1 : 0 ≤ r) (h2 : r * r ≤ n) : 2 * r ≤ x + n / x := by
  have h3 : (2 * r - x) * x ≤ n := by
    have h4 : 0 ≤ (r - x) * (r - x) := by
      rcases Int.le_total 0 (r - x) with h | h
      · exact Int.mul_nonneg h h
      · exact Int.mul_nonneg_of_nonpos_of_nonpos h h
    have e1 : (r - x) * (r - x) = r * r - 2 * (r * x) + x * x := by
      rw [Int.sub_mul, Int.mul_sub, Int.mul_sub, Int.mul_comm x r]; omega
    have e2 : (2 * r - x) * x = 2 * (r * x) - x * x := by rw [Int.sub_mul, Int.mul_assoc]
    omega
  have h5 := (Int.le_ediv_iff_mul_le (show 0 < x by omega)).2 h3
  omega
theorem root_end (n r x : Int) (hx : 1 ≤ x) (h0 : 0 ≤ n) (h3 : n < (r + 1) * (r + 1)) (hxr : r ≤ x) (hy : x ≤ (x + n / x) / 2) (h1 : 0 ≤ r) : x = r := by
  have h4 : x ≤ n / x := by omega
  have h5 := (Int.le_ediv_iff_mul_le (show 0 < x by omega)).1 h4
  rcases Int.lt_or_le r x with h | h
  · have h6 : (r + 1) * (r + 1) ≤ x * x := Int.mul_le_mul (by omega) (by omega) (by omega) (by omega)
    omega
  · omega
theorem root40_any (n r : Int) (h0 : 0 ≤ n) (hn : n ≤ 4000000000000000000) (h1 : 0 ≤ r) (h2 : r * r ≤ n) (h3 : n < (r + 1) * (r + 1)) (w : World) : Calls Tryd.prog 47 #[.int .i64 n] w fun e w' => e = .returned (.int .i64 r) ∧ Bw w w' := by
  by_cases hs : n < 2
  · have hr : n = r := by
      have hr1 : r < 2 := by
        rcases Int.lt_or_le r 2 with h | h
        · exact h
        · have : 2 * 2 ≤ r * r := Int.mul_le_mul h h (by omega) (by omega)
          omega
      have : r = 0 ∨ r = 1 := by omega
      rcases this with rfl | rfl <;> omega
    subst hr
    clear h2 h3
    go_enter Tryd.func47, Tryd.ntmps47
    go_wp2
    go_ret
    exact ⟨rfl, Bw.refl _⟩
  · have HAM := Lib.hid (fun x hx => root_am n r x hx h1 h2)
    have HEN := Lib.hid (fun x hx h4 h5 => root_end n r x hx h0 h3 h4 h5 h1)
    have hr32 : r ≤ 4294967296 := by
      rcases Int.lt_or_le 4294967296 r with h | h
      · have : 4294967297 * 4294967297 ≤ r * r := Int.mul_le_mul (by omega) (by omega) (by omega) (by omega)
        omega
      · exact h
    have hr1 : 1 ≤ r := by
      rcases Int.lt_or_le r 1 with h | h
      · have : r = 0 := by omega
        subst this
        omega
      · exact h
    clear h2 h3
    go_enter Tryd.func47, Tryd.ntmps47
    go_wp2
    go_loopw [3] (fun s3 wr => ∃ x : Int, r ≤ x ∧ x ≤ 4294967296 ∧ s3 = .int .i64 x ∧ wr = w) (fun s3 _ => (intOf s3).toNat)
    case atStart => exact ⟨4294967296, by omega, by omega, rfl, rfl⟩
    case round =>
      obtain ⟨x, hx1, hx2, rfl, rfl⟩ := hrel
      have hx0 : 1 ≤ x := by omega
      have hq1 : n.tdiv x = n / x := Int.tdiv_eq_ediv_of_nonneg h0
      have hz : x ≠ 0 := by omega
      have hqb : 0 ≤ n / x ∧ n / x ≤ 4000000000000000000 := ⟨Int.ediv_nonneg h0 (by omega), Int.le_trans (Int.ediv_le_self _ h0) hn⟩
      have ham := HAM.out x hx0
      have hen := HEN.out x hx0 hx1
      generalize n / x = q at *
      have hq2 : (x + q).tdiv 2 = (x + q) / 2 := Int.tdiv_eq_ediv_of_nonneg (by omega)
      have hw1 : IntKind.i64.wrap (x + q) = x + q := by rw [IntKind.wrap_i64]; omega
      have hyb : 0 ≤ (x + q) / 2 ∧ r ≤ (x + q) / 2 ∧ (x + q) / 2 ≤ 4000000000000000000 := by omega
      generalize (x + q) / 2 = y at *
      by_cases hy : x ≤ y
      · obtain rfl := hen hy
        clear ham hen
        go_wp2
        go_ret
        exact ⟨rfl, Bw.refl _⟩
      · have hy2 : y < x := by omega
        clear hen
        go_wp2
        go_roundw
        case rel => exact ⟨y, hyb.2.1, by omega, by go_num, by trivial⟩
        case measure => simp [intOf]; omega
theorem root_ex (n : Int) (h : 0 ≤ n) : ∃ r : Int, 0 ≤ r ∧ r * r ≤ n ∧ n < (r + 1) * (r + 1) := by
  obtain ⟨k, rfl⟩ : ∃ k : Nat, n = k := ⟨n.toNat, by omega⟩
  clear h
  induction k with
  | zero => exact ⟨0, by decide, by decide, by decide⟩
  | succ k ih =>
    obtain ⟨r, h1, h2, h3⟩ := ih
    by_cases h : ((k + 1 : Nat) : Int) < (r + 1) * (r + 1)
    · exact ⟨r, h1, by omega, h⟩
    · refine ⟨r + 1, by omega, by omega, ?_⟩
      have : (r + 1) * (r + 1) < (r + 1 + 1) * (r + 1 + 1) := by
        rw [show (r + 1 + 1) * (r + 1 + 1) = (r + 1) * (r + 1) + 2 * (r + 1) + 1 by rw [Int.add_mul, Int.mul_add]; omega]
        omega
      omega
end Go.Proofs.Sky
