/-
  lemmas for the theorems of this claim. No conditions beyond those written in the statements.
-/
import Derived.Test.YtcbkjfakedngbaaG25
import Derived.Test.YtcbkjfakedngbaaB25
set_option linter.unusedVariables false
set_option linter.unusedSimpArgs false
set_option linter.unnecessarySimpa false
namespace Go.Proofs.Sky
open Go Go.RowKit Go.Shelf
set_option maxHeartbeats 1000000
theorem rawV_in {u c v : Int} (h : inV v = true) : rawV u c v = rawN (v - c) u := by unfold rawV; rw [if_pos h]
theorem rawV_out {u c v : Int} (h : inV v = false) : rawV u c v = 0 := by unfold rawV; rw [h]; rfl
theorem rawB_in {n : Int} {g : Bool} {u c v : Int} (h : inV v = true) : rawB n g u c v = decide (lowR n g ≤ rawN (v - c) u ∧ rawN (v - c) u ≤ highR n g) := by unfold rawB; rw [h]; rfl
theorem rawB_out {n : Int} {g : Bool} {u c v : Int} (h : inV v = false) : rawB n g u c v = false := by unfold rawB; rw [h]; rfl
theorem inV_iff (v : Int) : inV v = true ↔ (-2000000000000000000 ≤ v ∧ v ≤ 2000000000000000000) := by unfold inV; simp
theorem inV_not (v : Int) (h : ¬ (-2000000000000000000 ≤ v ∧ v ≤ 2000000000000000000)) : inV v = false := by unfold inV; simpa using h
theorem rawN_bd (d u : Int) (hu : 1 ≤ u) (h1 : -2001000000000000000 ≤ d) (h2 : d ≤ 2001000000000000000) : -2001000000000000001 ≤ rawN d u ∧ rawN d u ≤ 2001000000000000001 := by
  by_cases hd : d < 0
  · rw [rawN_neg d u hu hd]
    have a := Int.ediv_nonneg (show 0 ≤ -d by omega) (show 0 ≤ u by omega)
    have b := Int.ediv_le_self u (show 0 ≤ -d by omega)
    split <;> omega
  · rw [rawN_pos d u hu (by omega)]
    have a := Int.ediv_nonneg (show 0 ≤ d by omega) (show 0 ≤ u by omega)
    have b := Int.ediv_le_self u (show 0 ≤ d by omega)
    split <;> omega
/-- the way of the program's division -/
theorem raw_way (d u : Int) (hu : 1 ≤ u) (h1 : -2001000000000000000 ≤ d) (h2 : d ≤ 2001000000000000000) : ∃ q r : Int, d.tdiv u = q ∧ d.tmod u = r ∧ -2001000000000000000 ≤ q ∧ q ≤ 2001000000000000000 ∧ -u < r ∧ r < u ∧
    ((u ≤ 2 * r ∧ rawN d u = q + 1) ∨ (2 * r < u ∧ u ≤ -2 * r ∧ rawN d u = q - 1) ∨ (2 * r < u ∧ -2 * r < u ∧ rawN d u = q)) := by
  refine ⟨d.tdiv u, d.tmod u, rfl, rfl, ?_⟩
  by_cases hd : d < 0
  · have e1 : d.tdiv u = -(-d / u) := by
      have := Int.neg_tdiv (a := -d) (b := u); rw [Int.neg_neg] at this; rw [this, Int.tdiv_eq_ediv_of_nonneg (by omega)]
    have e2 : d.tmod u = -(-d % u) := by
      have := Int.neg_tmod (-d) u; rw [Int.neg_neg] at this; rw [this, Int.tmod_eq_emod_of_nonneg (by omega)]
    rw [e1, e2, rawN_neg d u hu hd]
    have a := Int.ediv_nonneg (show 0 ≤ -d by omega) (show 0 ≤ u by omega)
    have b := Int.ediv_le_self u (show 0 ≤ -d by omega)
    have c := Int.emod_nonneg (-d) (show u ≠ 0 by omega)
    have e := Int.emod_lt_of_pos (-d) (show 0 < u by omega)
    refine ⟨by omega, by omega, by omega, by omega, ?_⟩
    split
    · right; left; omega
    · right; right; omega
  · rw [Int.tdiv_eq_ediv_of_nonneg (by omega), Int.tmod_eq_emod_of_nonneg (by omega), rawN_pos d u hu (by omega)]
    have a := Int.ediv_nonneg (show 0 ≤ d by omega) (show 0 ≤ u by omega)
    have b := Int.ediv_le_self u (show 0 ≤ d by omega)
    have c := Int.emod_nonneg d (show u ≠ 0 by omega)
    have e := Int.emod_lt_of_pos d (show 0 < u by omega)
    refine ⟨by omega, by omega, by omega, by omega, ?_⟩
    split
    · left; omega
    · right; right; omega
theorem ret_ib {a b : Int} {x y : Bool} (h : a = b) (k : x = y) : Ending.returned (.tuple #[.int .i64 a, .bool x]) = .returned (.tuple #[.int .i64 b, .bool y]) := by rw [h, k]
def RawP (n : Int) (g : Bool) (u c v : Int) (e : Ending) : Prop := e = .returned (.tuple #[.int .i64 (rawV u c v), .bool (rawB n g u c v)])
theorem raw_any (a n : Int) (g : Bool) (u c v : Int) (w : World) (h : fk a n u c) : Calls Try.prog 34 #[.agg #[.int .i64 a, .int .i64 n, .bool g, .int .i64 u, .int .i64 c], .int .i64 v] w fun e w' => RawP n g u c v e ∧ Bw w w' := by
  obtain ⟨h1, h2, h3, h4, h5, h6, h7, h8, h9⟩ := h
  by_cases hv : -2000000000000000000 ≤ v ∧ v ≤ 2000000000000000000
  · have HR := Lib.hid (show RawP n g u c v = fun e => e = .returned (.tuple #[.int .i64 (rawN (v - c) u), .bool (decide (lowR n g ≤ rawN (v - c) u ∧ rawN (v - c) u ≤ highR n g))]) by unfold RawP; rw [rawV_in ((inV_iff v).2 hv), rawB_in ((inV_iff v).2 hv)])
    obtain ⟨v1, v2⟩ := hv
    have HC := Lib.hid (fun w => raws_any a n g u c h3 h4 w)
    have ⟨l1, l2⟩ := lowR_bd n g h3 h4
    have ⟨k1, k2⟩ := highR_bd n g h3 h4
    obtain ⟨q, r, t1, t2, q1, q2, r1, r2, ways⟩ := raw_way (v - c) u h6 (by omega) (by omega)
    have c0 := fun p : Ext _ => Ext.cell (w := w.alloc (Obj.cells #[.int .i64 a, .int .i64 n, .bool g, .int .i64 u, .int .i64 c] 24)) (b := w.heap.size) (o := 3) (v := .int .i64 u) (by simp) (by simp [go_sem]) p
    have u0 : (u == 0) = false := by simp; omega
    generalize lowR n g = lo at *
    generalize highR n g = hi at *
    rcases ways with ⟨y1, yR⟩ | ⟨y1, y2, yR⟩ | ⟨y1, y2, yR⟩
    all_goals
      have HQ := Lib.hid yR; clear yR
      go_enter Try.func34, Try.ntmps34
      go_wp2
      (refine wp_region_quiet_ext (by kernel_rfl) (by kernel_rfl) ?_; (repeat (go_big_quiet_step ((fail)))); refine wpQuiet_nil ?_; rintro wa ⟨⟨_, hbq⟩, rfl⟩; obtain ⟨hccq, hffq⟩ := Bw.cells hbq; have hszq := Bw.size hbq)
      clear c0
      go_wp2_with (go_at_call 31; refine (HC.out _).mono ?_; rintro e w' ⟨rfl, hb⟩; obtain ⟨hcc, hff⟩ := Bw.cells hb; have hsz := Bw.size hb; try (have hz0 : w.heap.size < w'.heap.size := by (try simp at hsz); omega); try (have hz1 : w.heap.size + 1 < w'.heap.size := by (try simp at hsz); omega); try (have hz2 : w.heap.size + 1 + 1 < w'.heap.size := by (try simp at hsz); omega); try (have hz3 : w.heap.size + 1 + 1 + 1 < w'.heap.size := by (try simp at hsz); omega); try (have hz4 : w.heap.size + 1 + 1 + 1 + 1 < w'.heap.size := by (try simp at hsz); omega); try (have hzr : wr.heap.size < w'.heap.size := by (try simp at hsz); omega); try (have hzr1 : wr.heap.size + 1 < w'.heap.size := by (try simp at hsz); omega))
      all_goals (go_ret2; refine ⟨by rw [HR.out, HQ.out]; exact ret_ib rfl (by (try simp); (try omega)), (by repeat (first | exact Bw.refl _ | assumption | refine Bw.alloc ?_ _ | refine Bw.drew ?_ | refine Bw.trans ?_ (by assumption) | refine Bw.setCell ?_ (by simp; try omega) _))⟩)
  · have HR := Lib.hid (show RawP n g u c v = fun e => e = .returned (.tuple #[.int .i64 0, .bool false]) by unfold RawP; rw [rawV_out (inV_not v hv), rawB_out (inV_not v hv)])
    have HV := Lib.hid hv; clear hv
    go_enter Try.func34, Try.ntmps34
    go_wp2
    all_goals first | (exfalso; have := HV.out; omega) | skip
    all_goals (go_ret2; exact ⟨by rw [HR.out]; exact ret_ib rfl rfl, (by repeat (first | exact Bw.refl _ | assumption | refine Bw.alloc ?_ _ | refine Bw.drew ?_ | refine Bw.trans ?_ (by assumption) | refine Bw.setCell ?_ (by simp; try omega) _))⟩)
theorem rraw_any (a n : Int) (g : Bool) (u c v : Int) (w : World) (h : fk a n u c) : Calls Try.prog 37 #[.agg #[.int .i64 a, .int .i64 n, .bool g, .int .i64 u, .int .i64 c], .int .i64 v] w fun e w' => RawP n g u c v e ∧ Bw w w' := by
  obtain ⟨h1, h2, h3, h4, h5, h6, h7, h8, h9⟩ := h
  by_cases hv : -2000000000000000000 ≤ v ∧ v ≤ 2000000000000000000
  · have HR := Lib.hid (show RawP n g u c v = fun e => e = .returned (.tuple #[.int .i64 (rawN (v - c) u), .bool (decide (lowR n g ≤ rawN (v - c) u ∧ rawN (v - c) u ≤ highR n g))]) by unfold RawP; rw [rawV_in ((inV_iff v).2 hv), rawB_in ((inV_iff v).2 hv)])
    obtain ⟨v1, v2⟩ := hv
    have HC := Lib.hid (fun w => rraws_any a n g u c h3 h4 w)
    have ⟨l1, l2⟩ := lowR_bd n g h3 h4
    have ⟨k1, k2⟩ := highR_bd n g h3 h4
    generalize lowR n g = lo at *
    generalize highR n g = hi at *
    by_cases hd : v - c < 0
    · have HQ := Lib.hid (show rawN (v - c) u = -((2 * -(v - c) + u) / (2 * u)) by unfold rawN; rw [if_pos hd])
      have b1 := Int.ediv_nonneg (show 0 ≤ 2 * -(v - c) + u by omega) (show 0 ≤ 2 * u by omega)
      have b2 := Int.ediv_le_self (2 * u) (show 0 ≤ 2 * -(v - c) + u by omega)
      go_enter Try.func37, Try.ntmps37
      go_wp2_with (go_at_call 32; refine (HC.out _).mono ?_; rintro e w' ⟨rfl, hb⟩; obtain ⟨hcc, hff⟩ := Bw.cells hb; have hsz := Bw.size hb; try (have hz0 : w.heap.size < w'.heap.size := by (try simp at hsz); omega); try (have hz1 : w.heap.size + 1 < w'.heap.size := by (try simp at hsz); omega); try (have hz2 : w.heap.size + 1 + 1 < w'.heap.size := by (try simp at hsz); omega); try (have hz3 : w.heap.size + 1 + 1 + 1 < w'.heap.size := by (try simp at hsz); omega); try (have hz4 : w.heap.size + 1 + 1 + 1 + 1 < w'.heap.size := by (try simp at hsz); omega); try (have hzr : wr.heap.size < w'.heap.size := by (try simp at hsz); omega); try (have hzr1 : wr.heap.size + 1 < w'.heap.size := by (try simp at hsz); omega))
      all_goals (go_ret2; refine ⟨by rw [HR.out, HQ.out]; exact ret_ib rfl (by (try simp); (try omega)), (by repeat (first | exact Bw.refl _ | assumption | refine Bw.alloc ?_ _ | refine Bw.drew ?_ | refine Bw.trans ?_ (by assumption) | refine Bw.setCell ?_ (by simp; try omega) _))⟩)
    · have HQ := Lib.hid (show rawN (v - c) u = ((2 * (v - c) + u) / (2 * u)) by unfold rawN; rw [if_neg hd])
      have b1 := Int.ediv_nonneg (show 0 ≤ 2 * (v - c) + u by omega) (show 0 ≤ 2 * u by omega)
      have b2 := Int.ediv_le_self (2 * u) (show 0 ≤ 2 * (v - c) + u by omega)
      go_enter Try.func37, Try.ntmps37
      go_wp2_with (go_at_call 32; refine (HC.out _).mono ?_; rintro e w' ⟨rfl, hb⟩; obtain ⟨hcc, hff⟩ := Bw.cells hb; have hsz := Bw.size hb; try (have hz0 : w.heap.size < w'.heap.size := by (try simp at hsz); omega); try (have hz1 : w.heap.size + 1 < w'.heap.size := by (try simp at hsz); omega); try (have hz2 : w.heap.size + 1 + 1 < w'.heap.size := by (try simp at hsz); omega); try (have hz3 : w.heap.size + 1 + 1 + 1 < w'.heap.size := by (try simp at hsz); omega); try (have hz4 : w.heap.size + 1 + 1 + 1 + 1 < w'.heap.size := by (try simp at hsz); omega); try (have hzr : wr.heap.size < w'.heap.size := by (try simp at hsz); omega); try (have hzr1 : wr.heap.size + 1 < w'.heap.size := by (try simp at hsz); omega))
      all_goals (go_ret2; refine ⟨by rw [HR.out, HQ.out]; exact ret_ib rfl (by (try simp); (try omega)), (by repeat (first | exact Bw.refl _ | assumption | refine Bw.alloc ?_ _ | refine Bw.drew ?_ | refine Bw.trans ?_ (by assumption) | refine Bw.setCell ?_ (by simp; try omega) _))⟩)
  · have HR := Lib.hid (show RawP n g u c v = fun e => e = .returned (.tuple #[.int .i64 0, .bool false]) by unfold RawP; rw [rawV_out (inV_not v hv), rawB_out (inV_not v hv)])
    have HV := Lib.hid hv; clear hv
    go_enter Try.func37, Try.ntmps37
    go_wp2
    all_goals first | (exfalso; have := HV.out; omega) | skip
    all_goals (go_ret2; exact ⟨by rw [HR.out]; exact ret_ib rfl rfl, (by repeat (first | exact Bw.refl _ | assumption | refine Bw.alloc ?_ _ | refine Bw.drew ?_ | refine Bw.trans ?_ (by assumption) | refine Bw.setCell ?_ (by simp; try omega) _))⟩)
end Go.Proofs.Sky
