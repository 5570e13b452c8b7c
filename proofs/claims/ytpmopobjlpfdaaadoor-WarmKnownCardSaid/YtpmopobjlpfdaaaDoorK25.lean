/-
  lemmas for the theorems of this claim. No conditions beyond those written in the statements.
-/
import Derived.Laws.BitsLemmas
import Derived.Laws.DeepBits32
import Derived.Laws.Bits64b
import Derived.Test.YtpmopobjlpfdaaaDoorE25
import Derived.Test.YtpmopobjlpfdaaaDoorRG
import Derived.Test.YtpmopobjlpfdaaaDoorA25
import Derived.Test.YtpmopobjlpfdaaaDoorP25L
set_option linter.unusedVariables false
set_option linter.unusedSimpArgs false
set_option linter.unnecessarySimpa false
namespace Go.Proofs.Sky
open Go
theorem and1 (n : Int) : bits .and .i64 n 1 = n % 2 := by
  have h1 : (BitVec.ofInt 64 1).toNat = 2 ^ 1 - 1 := by decide
  have key : (BitVec.ofInt 64 n &&& BitVec.ofInt 64 1).toNat = (n % ((2 ^ 64 : Nat) : Int)).toNat % 2 ^ 1 := by
    rw [BitVec.toNat_and, BitVec.toNat_ofInt, h1, Nat.and_two_pow_sub_one_eq_mod]
  show IntKind.i64.wrap ((BitVec.ofInt 64 n &&& BitVec.ofInt 64 1).toNat : Nat) = n % 2
  rw [key, IntKind.wrap_i64]
  omega
theorem or_i64 (y b : Int) (h0 : 0 ≤ y) (h1 : y < 4611686018427387904) (hb : b = 0 ∨ b = 1) : bits .or .i64 (y * 2) b = 2 * y + b := by
  rw [Int.mul_comm y 2]
  obtain ⟨m, rfl⟩ := Int.eq_ofNat_of_zero_le h0
  obtain ⟨c, rfl⟩ := Int.eq_ofNat_of_zero_le (show 0 ≤ b by omega)
  have e1 : (BitVec.ofInt 64 (2 * (m : Int))).toNat = 2 * m := by rw [BitVec.toNat_ofInt]; omega
  have e2 : (BitVec.ofInt 64 (c : Int)).toNat = c := by rw [BitVec.toNat_ofInt]; omega
  show IntKind.i64.wrap ((BitVec.ofInt 64 (2 * (m : Int)) ||| BitVec.ofInt 64 (c : Int)).toNat : Nat) = _
  rw [BitVec.toNat_or, e1, e2, or_bit (2 * m) c (by omega) (by omega), IntKind.wrap_i64]
  omega
theorem or_u64 (y b : Int) (h0 : 0 ≤ y) (h1 : y < 4611686018427387904) (hb : b = 0 ∨ b = 1) : bits .or .u64 (y * 2) b = 2 * y + b := by
  rw [Int.mul_comm y 2]
  obtain ⟨m, rfl⟩ := Int.eq_ofNat_of_zero_le h0
  obtain ⟨c, rfl⟩ := Int.eq_ofNat_of_zero_le (show 0 ≤ b by omega)
  have e1 : (BitVec.ofInt 64 (2 * (m : Int))).toNat = 2 * m := by rw [BitVec.toNat_ofInt]; omega
  have e2 : (BitVec.ofInt 64 (c : Int)).toNat = c := by rw [BitVec.toNat_ofInt]; omega
  show IntKind.u64.wrap ((BitVec.ofInt 64 (2 * (m : Int)) ||| BitVec.ofInt 64 (c : Int)).toNat : Nat) = _
  rw [BitVec.toNat_or, e1, e2, or_bit (2 * m) c (by omega) (by omega), IntKind.wrap_u64]
  omega
end Go.Proofs.Sky

namespace Go.Proofs.Sky
open Go Go.RowKit Go.Shelf
attribute [local go_sem] Oper.semAt_some
set_option maxHeartbeats 1000000
def putF (zs : List Int) (A N : Nat) (x : Int) (pre : List Nat) : List Int := pre.foldl (fun zs y => zs.set (A + y) (bitN x (N - 1 - y))) zs
theorem putF_snoc (zs : List Int) (A N : Nat) (x : Int) (pre : List Nat) (y : Nat) : putF zs A N x (pre ++ [y]) = (putF zs A N x pre).set (A + y) (bitN x (N - 1 - y)) := by simp [putF]
theorem putF_length (zs : List Int) (A N : Nat) (x : Int) (pre : List Nat) : (putF zs A N x pre).length = zs.length := by
  unfold putF
  induction pre generalizing zs with
  | nil => rfl
  | cons y pre ih => simp [ih]
theorem putF_range (zs : List Int) (A N : Nat) (x : Int) (k : Nat) : putF zs A N x (List.range k) = putL zs A N x k := by
  induction k with
  | zero => rfl
  | succ k ih => rw [List.range_succ, putF_snoc, ih, putL]
/-- a block's cells hold ints, and may be written -/
structure OwI (w : World) (bl : Nat) (zs : List Int) : Prop where
  cell : ∀ i, i < zs.length → w.cell? ⟨bl, i, none⟩ = some (.int .i64 (zs.getD i 0))
  free : ∀ i, i < zs.length → w.frozen? ⟨bl, i, none⟩ = false
theorem OwI.K {w w' : World} {bl : Nat} {zs : List Int} {row : Option Nat} {B : Nat} (h : OwI w bl zs) (hg : w.grownBy w' row) (hr : ∀ r, row = some r → B ≤ r ∧ ∃ o : Obj, w.heap[r]? = some o ∧ o.isCells = false) : OwI w' bl zs :=
  ⟨fun i hi => cellK (h.cell i hi) hg hr, fun i hi => frozenK (h.cell i hi) (h.free i hi) hg hr⟩
theorem OwI.bw {w w' : World} {bl : Nat} {zs : List Int} (h : OwI w bl zs) (hb : Bw w w') : OwI w' bl zs := ⟨fun i hi => hb.cell' (h.cell i hi), fun i hi => hb.frozen' (h.cell i hi) (h.free i hi)⟩
theorem OwI.shut {w w' : World} {bl base : Nat} {zs : List Int} (h : OwI w bl zs) (hS : Shut base w w') : OwI w' bl zs :=
  ⟨fun i hi => hS.cell _ _ _ (h.cell i hi), fun i hi => (hS.frozen (h.cell i hi)).trans (h.free i hi)⟩
theorem OwI.set {w : World} {bl : Nat} {zs : List Int} (h : OwI w bl zs) (i : Nat) (x : Int) (hi : i < zs.length) : OwI (w.setCell ⟨bl, i, none⟩ (.int .i64 x)) bl (zs.set i x) := by
  refine ⟨fun j hj => ?_, fun j hj => by rw [frozen_set]; exact h.free j (by simpa using hj)⟩
  rw [List.length_set] at hj
  by_cases e : i = j
  · subst e
    rw [cell_set_same _ _ _ _ (h.cell i hi)]
    simp [List.getD_eq_getElem?_getD, hj]
  · rw [cell_set_off _ _ _ _ _ e, h.cell j hj]
    simp [List.getD_eq_getElem?_getD, e]
theorem OwI.other {w : World} {bl b o : Nat} {zs : List Int} (h : OwI w bl zs) (u : Value) (hn : b ≠ bl) : OwI (w.setCell ⟨b, o, none⟩ u) bl zs := 
  ⟨fun i hi => by rw [cell_set_ne _ _ _ _ _ _ hn]; exact h.cell i hi, fun i hi => by rw [frozen_set]; exact h.free i hi⟩
end Go.Proofs.Sky

namespace Go.Proofs.Sky
open Go Go.RowKit Go.Shelf
attribute [local go_sem] Oper.semAt_some
set_option maxHeartbeats 1000000
def getF (zs : List Int) (A : Nat) (pre : List Nat) : Int := pre.foldl (fun m y => 2 * m + zs.getD (A + y) 0) 0
theorem getF_snoc (zs : List Int) (A : Nat) (pre : List Nat) (y : Nat) : getF zs A (pre ++ [y]) = 2 * getF zs A pre + zs.getD (A + y) 0 := by simp [getF]
theorem getF_range (zs : List Int) (A k : Nat) : getF zs A (List.range k) = getN zs A k := by
  induction k with
  | zero => rfl
  | succ k ih => rw [List.range_succ, getF_snoc, ih, getN]
def sx (N : Nat) (m : Int) : Int := if 2 ^ (N - 1) ≤ m then m - 2 ^ N else m
theorem sx_wrap (N : Nat) (m : Int) (h1 : 1 ≤ N) (h2 : N ≤ 40) (h3 : 0 ≤ m) (h4 : m < 2 ^ N) : wrap64 (m * 2 ^ (64 - N)) / 2 ^ (64 - N) = sx N m := by
  have e64 : (2 : Int) ^ N * 2 ^ (64 - N) = 18446744073709551616 := by rw [← Int.pow_add, show N + (64 - N) = 64 by omega]; decide
  have e63 : (2 : Int) ^ (N - 1) * 2 ^ (64 - N) = 9223372036854775808 := by rw [← Int.pow_add, show N - 1 + (64 - N) = 63 by omega]; decide
  have hp := pow_pos' (64 - N)
  generalize (2 : Int) ^ (64 - N) = p at *
  unfold sx
  split
  · rename_i h
    have a1 : (2 : Int) ^ (N - 1) * p ≤ m * p := Int.mul_le_mul_of_nonneg_right h (by omega)
    have a2 : m * p < 2 ^ N * p := Int.mul_lt_mul_of_pos_right h4 (by omega)
    have e : wrap64 (m * p) = (m - 2 ^ N) * p := by rw [Int.sub_mul]; unfold wrap64; omega
    rw [e, Int.mul_ediv_cancel _ (by omega)]
  · rename_i h
    have a1 : m * p < 2 ^ (N - 1) * p := Int.mul_lt_mul_of_pos_right (by omega) (by omega)
    have a2 : 0 ≤ m * p := Int.mul_nonneg h3 (by omega)
    have e : wrap64 (m * p) = m * p := by unfold wrap64; omega
    rw [e, Int.mul_ediv_cancel _ (by omega)]
theorem ux_wrap (N : Nat) (m : Int) (h1 : 1 ≤ N) (h2 : N ≤ 40) (h3 : 0 ≤ m) (h4 : m < 2 ^ N) : IntKind.u64.wrap (m * 2 ^ (64 - N)) / 2 ^ (64 - N) = m := by
  rw [IntKind.wrap_u64]
  have e64 : (2 : Int) ^ N * 2 ^ (64 - N) = 18446744073709551616 := by rw [← Int.pow_add, show N + (64 - N) = 64 by omega]; decide
  have hp := pow_pos' (64 - N)
  generalize (2 : Int) ^ (64 - N) = p at *
  have a2 : m * p < 2 ^ N * p := Int.mul_lt_mul_of_pos_right h4 (by omega)
  have a3 : 0 ≤ m * p := Int.mul_nonneg h3 (by omega)
  rw [Int.emod_eq_of_lt a3 (by omega), Int.mul_ediv_cancel _ (by omega)]
end Go.Proofs.Sky

namespace Go.Proofs.Sky
open Go Go.RowKit
set_option maxHeartbeats 1000000
theorem raws_any (a n : Int) (g : Bool) (u c : Int) (h1 : 1 ≤ n) (h2 : n ≤ 40) (w : World) : Calls Tryd.prog 65 #[.agg #[.int .i64 a, .int .i64 n, .bool g, .int .i64 u, .int .i64 c]] w fun e w' => e = .returned (.tuple #[.int .i64 (lowR n g), .int .i64 (highR n g)]) ∧ Bw w w' := by
  have ⟨p1, p2⟩ := pow40 (n.toNat - 1) (by omega)
  have ⟨p3, p4⟩ := pow40 n.toNat (by omega)
  rcases g with _ | _
  · go_enter Tryd.func65, Tryd.ntmps65
    go_wp2
    have e1 := fun p : Ext (w.alloc (Obj.cells #[.int .i64 a, .int .i64 n, .bool false, .int .i64 u, .int .i64 c] 92)) => Ext.cell (b := w.heap.size) (o := 1) (v := .int .i64 n) (by simp) (by simp [go_sem]) p
    (refine wp_region_quiet_ext (by kernel_rfl) (by kernel_rfl) ?_; (repeat (go_big_quiet_step ((fail)))); refine wpQuiet_nil ?_; rintro wq ⟨⟨_, hbq⟩, rfl⟩; obtain ⟨hccq, hffq⟩ := Bw.cells hbq; have hszq := Bw.size hbq)
    go_wp2
    go_ret2
    exact ⟨rfl, (by repeat (first | exact Bw.refl _ | assumption | refine Bw.alloc ?_ _ | refine Bw.drew ?_ | refine Bw.trans ?_ (by assumption) | refine Bw.setCell ?_ (by simp; try omega) _))⟩
  · go_enter Tryd.func65, Tryd.ntmps65
    go_wp2
    have e1 := fun p : Ext (w.alloc (Obj.cells #[.int .i64 a, .int .i64 n, .bool true, .int .i64 u, .int .i64 c] 92)) => Ext.cell (b := w.heap.size) (o := 1) (v := .int .i64 n) (by simp) (by simp [go_sem]) p
    (refine wp_region_quiet_ext (by kernel_rfl) (by kernel_rfl) ?_; (repeat (go_big_quiet_step ((fail)))); refine wpQuiet_nil ?_; rintro wq ⟨⟨_, hbq⟩, rfl⟩; obtain ⟨hccq, hffq⟩ := Bw.cells hbq; have hszq := Bw.size hbq)
    go_wp2
    go_ret2
    exact ⟨rfl, (by repeat (first | exact Bw.refl _ | assumption | refine Bw.alloc ?_ _ | refine Bw.drew ?_ | refine Bw.trans ?_ (by assumption) | refine Bw.setCell ?_ (by simp; try omega) _))⟩
end Go.Proofs.Sky

namespace Go.Proofs.Sky
open Go Go.RowKit Go.Shelf
set_option maxHeartbeats 1000000
theorem rawV_in {u c v : Int} (h : inV v = true) : rawV u c v = rawN (v - c) u := by unfold rawV; rw [if_pos h]
theorem rawV_out {u c v : Int} (h : inV v = false) : rawV u c v = 0 := by unfold rawV; rw [h]; rfl
theorem rawB_in {n : Int} {g : Bool} {u c v : Int} (h : inV v = true) : rawB n g u c v = decide (lowR n g ≤ rawN (v - c) u ∧ rawN (v - c) u ≤ highR n g) := by unfold rawB; rw [h]; rfl
theorem rawB_out {n : Int} {g : Bool} {u c v : Int} (h : inV v = false) : rawB n g u c v = false := by unfold rawB; rw [h]; rfl
theorem inV_iff (v : Int) : inV v = true ↔ (-2000000000000000000 ≤ v ∧ v ≤ 2000000000000000000) := by unfold inV; simp
theorem inV_not (v : Int) (h : ¬ (-2000000000000000000 ≤ v ∧ v ≤ 2000000000000000000)) : inV v = false := by unfold inV; simpa using h
theorem rawN_bd (d u : Int) (hu : 1 ≤ u) (h1 : -2001000000000000000 ≤ d) (h2 : d ≤ 2001000000000000000) : -2001000000000000001 ≤ rawN d u ∧ rawN d u ≤ 2001000000000000001 := by
  by_cases hd : d < 0
  · rw [rawN_neg d u hu hd]
    have a := Int.ediv_nonneg (show 0 ≤ -d by omega) (show 0 ≤ u by omega)
    have b := Int.ediv_le_self u (show 0 ≤ -d by omega)
    split <;> omega
  · rw [rawN_pos d u hu (by omega)]
    have a := Int.ediv_nonneg (show 0 ≤ d by omega) (show 0 ≤ u by omega)
    have b := Int.ediv_le_self u (show 0 ≤ d by omega)
    split <;> omega
/-- the way of the program's division -/
theorem raw_way (d u : Int) (hu : 1 ≤ u) (h1 : -2001000000000000000 ≤ d) (h2 : d ≤ 2001000000000000000) : ∃ q r : Int, d.tdiv u = q ∧ d.tmod u = r ∧ -2001000000000000000 ≤ q ∧ q ≤ 2001000000000000000 ∧ -u < r ∧ r < u ∧
    ((u ≤ 2 * r ∧ rawN d u = q + 1) ∨ (2 * r < u ∧ u ≤ -2 * r ∧ rawN d u = q - 1) ∨ (2 * r < u ∧ -2 * r < u ∧ rawN d u = q)) := by
  refine ⟨d.tdiv u, d.tmod u, rfl, rfl, ?_⟩
  by_cases hd : d < 0
  · have e1 : d.tdiv u = -(-d / u) := by
      have := Int.neg_tdiv (a := -d) (b := u); rw [Int.neg_neg] at this; rw [this, Int.tdiv_eq_ediv_of_nonneg (by omega)]
    have e2 : d.tmod u = -(-d % u) := by
      have := Int.neg_tmod (-d) u; rw [Int.neg_neg] at this; rw [this, Int.tmod_eq_emod_of_nonneg (by omega)]
    rw [e1, e2, rawN_neg d u hu hd]
    have a := Int.ediv_nonneg (show 0 ≤ -d by omega) (show 0 ≤ u by omega)
    have b := Int.ediv_le_self u (show 0 ≤ -d by omega)
    have c := Int.emod_nonneg (-d) (show u ≠ 0 by omega)
    have e := Int.emod_lt_of_pos (-d) (show 0 < u by omega)
    refine ⟨by omega, by omega, by omega, by omega, ?_⟩
    split
    · right; left; omega
    · right; right; omega
  · rw [Int.tdiv_eq_ediv_of_nonneg (by omega), Int.tmod_eq_emod_of_nonneg (by omega), rawN_pos d u hu (by omega)]
    have a := Int.ediv_nonneg (show 0 ≤ d by omega) (show 0 ≤ u by omega)
    have b := Int.ediv_le_self u (show 0 ≤ d by omega)
    have c := Int.emod_nonneg d (show u ≠ 0 by omega)
    have e := Int.emod_lt_of_pos d (show 0 < u by omega)
    refine ⟨by omega, by omega, by omega, by omega, ?_⟩
    split
    · left; omega
    · right; right; omega
theorem ret_ib {a b : Int} {x y : Bool} (h : a = b) (k : x = y) : Ending.returned (.tuple #[.int .i64 a, .bool x]) = .returned (.tuple #[.int .i64 b, .bool y]) := by rw [h, k]
def RawP (n : Int) (g : Bool) (u c v : Int) (e : Ending) : Prop := e = .returned (.tuple #[.int .i64 (rawV u c v), .bool (rawB n g u c v)])
end Go.Proofs.Sky

namespace Go.Proofs.Sky
open Go Go.RowKit Go.Shelf
set_option maxHeartbeats 1000000
end Go.Proofs.Sky

namespace Go.Proofs.Sky
open Go Go.RowKit Go.Shelf
set_option maxHeartbeats 1000000
theorem mul_bd (m u : Int) (h1 : -1099511627776 ≤ m) (h2 : m ≤ 1099511627776) (h3 : 1 ≤ u) (h4 : u ≤ 1000000) : -1099511627776000000 ≤ m * u ∧ m * u ≤ 1099511627776000000 := by
  have a : m * u ≤ 1099511627776 * u := Int.mul_le_mul_of_nonneg_right h2 (by omega)
  have b : -1099511627776 * u ≤ m * u := Int.mul_le_mul_of_nonneg_right h1 (by omega)
  omega
theorem sx_bd (N : Nat) (m : Int) (h1 : 1 ≤ N) (h2 : N ≤ 40) (h3 : 0 ≤ m) (h4 : m < 2 ^ N) : -1099511627776 ≤ sx N m ∧ sx N m ≤ 1099511627776 := by
  have ⟨p1, p2⟩ := pow40 N h2
  have ⟨p3, p4⟩ := pow40 (N - 1) (by omega)
  unfold sx; split <;> omega
def sgnV (N : Nat) (g : Bool) (m : Int) : Int := if g then sx N m else m
theorem sgnV_bd (N : Nat) (g : Bool) (m : Int) (h1 : 1 ≤ N) (h2 : N ≤ 40) (h3 : 0 ≤ m) (h4 : m < 2 ^ N) : -1099511627776 ≤ sgnV N g m ∧ sgnV N g m ≤ 1099511627776 := by
  have ⟨p1, p2⟩ := pow40 N h2
  have := sx_bd N m h1 h2 h3 h4
  unfold sgnV; split <;> omega
def getV (zs : List Int) (A N : Nat) (g : Bool) (u c : Int) : Int := c + sgnV N g (getN zs A N) * u
def limL (a n : Int) (g : Bool) (u c : Int) : Int := if errF a n u c = 0 then c + lowR n g * u else 0
def limH (a n : Int) (g : Bool) (u c : Int) : Int := if errF a n u c = 0 then c + highR n g * u else 0
def LimP (a n : Int) (g : Bool) (u c : Int) (e : Ending) : Prop := e = .returned (.tuple #[.int .i64 (limL a n g u c), .int .i64 (limH a n g u c), .int .i64 (errF a n u c)])
theorem limP_ok {a n u c : Int} {g : Bool} (h : fk a n u c) : LimP a n g u c = fun e => e = .returned (.tuple #[.int .i64 (c + lowR n g * u), .int .i64 (c + highR n g * u), .int .i64 0]) := by unfold LimP limL limH; rw [errF_ok h]; rfl
theorem limP_no {a n u c : Int} {g : Bool} (h : ¬ fk a n u c) : LimP a n g u c = fun e => e = .returned (.tuple #[.int .i64 0, .int .i64 0, .int .i64 2]) := by unfold LimP limL limH; rw [errF_no h]; rfl
theorem ret_iii {a b c a' b' c' : Int} (h1 : a = a') (h2 : b = b') (h3 : c = c') : Ending.returned (.tuple #[.int .i64 a, .int .i64 b, .int .i64 c]) = .returned (.tuple #[.int .i64 a', .int .i64 b', .int .i64 c']) := by rw [h1, h2, h3]
theorem Limits_any (a n : Int) (g : Bool) (u c : Int) (w : World) : Calls Tryd.prog 57 #[.agg #[.int .i64 a, .int .i64 n, .bool g, .int .i64 u, .int .i64 c]] w fun e w' => LimP a n g u c e ∧ Bw w w' := by
  have HC := Lib.hid (fun w => Check_any a n g u c w)
  by_cases h : fk a n u c
  · have HP := Lib.hid (limP_ok (g := g) h)
    rw [errF_ok h] at HC
    obtain ⟨h1, h2, h3, h4, h5, h6, h7, h8, h9⟩ := h
    have HR := Lib.hid (fun w => raws_any a n g u c h3 h4 w)
    have ⟨l1, l2⟩ := lowR_bd n g h3 h4
    have ⟨k1, k2⟩ := highR_bd n g h3 h4
    have ⟨l3, l4⟩ := mul_bd (lowR n g) u (by omega) (by omega) h6 h7
    have ⟨k3, k4⟩ := mul_bd (highR n g) u (by omega) (by omega) h6 h7
    generalize lowR n g = lo at *
    generalize highR n g = hi at *
    go_enter Tryd.func57, Tryd.ntmps57
    go_wp2_with (first | (go_at_call 64; refine (HC.out _).mono ?_; rintro e w' ⟨rfl, hb⟩; obtain ⟨hcc, hff⟩ := Bw.cells hb; have hsz := Bw.size hb; try (have hz0 : w.heap.size < w'.heap.size := by (try simp at hsz); omega); try (have hz1 : w.heap.size + 1 < w'.heap.size := by (try simp at hsz); omega); try (have hz2 : w.heap.size + 1 + 1 < w'.heap.size := by (try simp at hsz); omega); try (have hz3 : w.heap.size + 1 + 1 + 1 < w'.heap.size := by (try simp at hsz); omega); try (have hz4 : w.heap.size + 1 + 1 + 1 + 1 < w'.heap.size := by (try simp at hsz); omega); try (have hzr : wr.heap.size < w'.heap.size := by (try simp at hsz); omega); try (have hzr1 : wr.heap.size + 1 < w'.heap.size := by (try simp at hsz); omega)) | (go_at_call 65; refine (HR.out _).mono ?_; rintro e w' ⟨rfl, hb⟩; obtain ⟨hcc, hff⟩ := Bw.cells hb; have hsz := Bw.size hb; try (have hz0 : w.heap.size < w'.heap.size := by (try simp at hsz); omega); try (have hz1 : w.heap.size + 1 < w'.heap.size := by (try simp at hsz); omega); try (have hz2 : w.heap.size + 1 + 1 < w'.heap.size := by (try simp at hsz); omega); try (have hz3 : w.heap.size + 1 + 1 + 1 < w'.heap.size := by (try simp at hsz); omega); try (have hz4 : w.heap.size + 1 + 1 + 1 + 1 < w'.heap.size := by (try simp at hsz); omega); try (have hzr : wr.heap.size < w'.heap.size := by (try simp at hsz); omega); try (have hzr1 : wr.heap.size + 1 < w'.heap.size := by (try simp at hsz); omega)))
    have k0 : w'.cell? ⟨w.heap.size, 4, none⟩ = some (.int .i64 c) := by simp [*, go_sem]
    have k1 : w'.cell? ⟨w.heap.size, 3, none⟩ = some (.int .i64 u) := by simp [*, go_sem]
    have e0 := fun p : Ext w' => Ext.cell' k0 p
    have e1 := fun p : Ext w' => Ext.cell' k1 p
    (refine wp_region_quiet_ext (by kernel_rfl) (by kernel_rfl) ?_; (repeat (go_big_quiet_step ((fail)))); refine wpQuiet_nil ?_; rintro wq ⟨⟨_, hbq⟩, rfl⟩; obtain ⟨hccq, hffq⟩ := Bw.cells hbq; have hszq := Bw.size hbq)
    go_wp2
    go_ret3
    exact ⟨by rw [HP.out]; exact ret_iii rfl rfl rfl, (by repeat (first | exact Bw.refl _ | assumption | refine Bw.alloc ?_ _ | refine Bw.drew ?_ | refine Bw.trans ?_ (by assumption) | refine Bw.setCell ?_ (by simp; try omega) _))⟩
  · have HP := Lib.hid (limP_no (g := g) h)
    rw [errF_no h] at HC
    clear h
    go_enter Tryd.func57, Tryd.ntmps57
    go_wp2_with (go_at_call 64; refine (HC.out _).mono ?_; rintro e w' ⟨rfl, hb⟩; obtain ⟨hcc, hff⟩ := Bw.cells hb; have hsz := Bw.size hb; try (have hz0 : w.heap.size < w'.heap.size := by (try simp at hsz); omega); try (have hz1 : w.heap.size + 1 < w'.heap.size := by (try simp at hsz); omega); try (have hz2 : w.heap.size + 1 + 1 < w'.heap.size := by (try simp at hsz); omega); try (have hz3 : w.heap.size + 1 + 1 + 1 < w'.heap.size := by (try simp at hsz); omega); try (have hz4 : w.heap.size + 1 + 1 + 1 + 1 < w'.heap.size := by (try simp at hsz); omega); try (have hzr : wr.heap.size < w'.heap.size := by (try simp at hsz); omega); try (have hzr1 : wr.heap.size + 1 < w'.heap.size := by (try simp at hsz); omega))
    go_ret3
    exact ⟨by rw [HP.out]; exact ret_iii rfl rfl rfl, (by repeat (first | exact Bw.refl _ | assumption | refine Bw.alloc ?_ _ | refine Bw.drew ?_ | refine Bw.trans ?_ (by assumption) | refine Bw.setCell ?_ (by simp; try omega) _))⟩
def getR (zs : List Int) (a n : Int) (g : Bool) (u c : Int) : Int := if errT zs a n u c = 0 then getV zs a.toNat n.toNat g u c else 0
def GetP (zs : List Int) (a n : Int) (g : Bool) (u c : Int) (e : Ending) : Prop := e = .returned (.tuple #[.int .i64 (getR zs a n g u c), .int .i64 (errT zs a n u c)])
theorem errT_zero {zs : List Int} {a n u c : Int} (h : errT zs a n u c = 0) : fk a n u c ∧ a + n ≤ zs.length ∧ oksP zs a.toNat n.toNat = true := by
  unfold errT at h
  by_cases hf : fk a n u c
  · rw [errF_ok hf, if_pos rfl] at h
    by_cases hl : (zs.length : Int) < a + n
    · rw [if_pos hl] at h; cases h
    · rw [if_neg hl] at h
      cases ho : oksP zs a.toNat n.toNat with
      | true => exact ⟨hf, by omega, rfl⟩
      | false => rw [ho] at h; cases h
  · rw [errF_no hf] at h; cases h
theorem ret_ii {a b a' b' : Int} (h1 : a = a') (h2 : b = b') : Ending.returned (.tuple #[.int .i64 a, .int .i64 b]) = .returned (.tuple #[.int .i64 a', .int .i64 b']) := by rw [h1, h2]
end Go.Proofs.Sky

namespace Go.Proofs.Sky
open Go Go.RowKit Go.Shelf
set_option maxHeartbeats 1000000
theorem bitN_add (x : Int) (N j : Nat) (h : j < N) : bitN (x + 2 ^ N) j = bitN x j := by
  unfold bitN
  obtain ⟨d, rfl⟩ : ∃ d, N = j + (d + 1) := ⟨N - j - 1, by omega⟩
  have hp := pow_pos' j
  rw [Int.pow_add, Int.add_mul_ediv_left _ _ (by omega), Int.pow_succ]
  omega
theorem bitN_step (x : Int) (k : Nat) : x / 2 ^ k / 2 = x / 2 ^ (k + 1) := by
  have hp := pow_pos' k
  rw [Int.pow_succ]; first | rw [Int.ediv_ediv_of_nonneg (by omega)] | rw [Int.ediv_ediv_eq_ediv_mul _ (by omega)] | exact Int.ediv_ediv_eq_ediv_mul _ (by omega)
end Go.Proofs.Sky
