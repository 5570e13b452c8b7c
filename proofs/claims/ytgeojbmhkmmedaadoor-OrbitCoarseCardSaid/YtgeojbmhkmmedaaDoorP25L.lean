/-
  lemmas for the theorems of this claim. No conditions beyond those written in the statements.
-/
import Derived.Test.YtgeojbmhkmmedaaDoorPlainA
set_option linter.unusedVariables false
set_option linter.unusedSimpArgs false
set_option linter.unnecessarySimpa false
namespace Go.Proofs.Sky
/-! chapter 25, plain -/
def fk (a n u c : Int) : Prop := 0 ≤ a ∧ a ≤ 4000 ∧ 1 ≤ n ∧ n ≤ 40 ∧ a + n ≤ 4000 ∧ 1 ≤ u ∧ u ≤ 1000000 ∧ -1000000000000000 ≤ c ∧ c ≤ 1000000000000000
def lowR (n : Int) (g : Bool) : Int := if g then -(2 ^ (n.toNat - 1)) else 0
def highR (n : Int) (g : Bool) : Int := if g then 2 ^ (n.toNat - 1) - 1 else 2 ^ n.toNat - 1
theorem pow40 (s : Nat) (h : s ≤ 40) : (1 : Int) ≤ 2 ^ s ∧ (2 : Int) ^ s ≤ 1099511627776 := ⟨pow_pos' s, by have := pow_le s 40 h; simpa using this⟩
theorem pow_pred (n : Int) (h : 1 ≤ n) : (2 : Int) ^ n.toNat = 2 * 2 ^ (n.toNat - 1) := by
  obtain ⟨k, hk⟩ : ∃ k, n.toNat = k + 1 := ⟨n.toNat - 1, by omega⟩
  rw [hk, Int.pow_succ]; simp; omega
theorem lowR_bd (n : Int) (g : Bool) (h1 : 1 ≤ n) (h2 : n ≤ 40) : -1099511627776 ≤ lowR n g ∧ lowR n g ≤ 0 := by
  have ⟨p1, p2⟩ := pow40 (n.toNat - 1) (by omega)
  unfold lowR; split <;> omega
theorem highR_bd (n : Int) (g : Bool) (h1 : 1 ≤ n) (h2 : n ≤ 40) : 0 ≤ highR n g ∧ highR n g ≤ 1099511627776 := by
  have ⟨p1, p2⟩ := pow40 (n.toNat - 1) (by omega)
  have ⟨p3, p4⟩ := pow40 n.toNat (by omega)
  unfold highR; split <;> omega
/-- the raw number of a value, before the limits -/
def rawN (d u : Int) : Int := if d < 0 then -((2 * -d + u) / (2 * u)) else (2 * d + u) / (2 * u)
theorem div2 (q r u : Int) (hu : 1 ≤ u) (h0 : 0 ≤ r) (h1 : r < u) : (2 * (u * q + r) + u) / (2 * u) = q + if u ≤ 2 * r then 1 else 0 := by
  have e : 2 * (u * q + r) + u = (2 * r + u) + (2 * u) * q := by
    rw [Int.mul_add, ← Int.mul_assoc]; omega
  rw [e, Int.add_mul_ediv_left _ _ (by omega)]
  split
  · have : (2 * r + u) / (2 * u) = 1 := by
      have h3 : (2 * r + u) = (2 * r - u) + 2 * u * 1 := by omega
      rw [h3, Int.add_mul_ediv_left _ _ (by omega), Int.ediv_eq_zero_of_lt (by omega) (by omega)]; rfl
    omega
  · have : (2 * r + u) / (2 * u) = 0 := Int.ediv_eq_zero_of_lt (by omega) (by omega)
    omega
theorem rawN_pos (d u : Int) (hu : 1 ≤ u) (hd : 0 ≤ d) : rawN d u = d / u + if u ≤ 2 * (d % u) then 1 else 0 := by
  unfold rawN; rw [if_neg (by omega)]
  have h := Int.mul_ediv_add_emod d u
  have := div2 (d / u) (d % u) u hu (Int.emod_nonneg _ (by omega)) (Int.emod_lt_of_pos _ (by omega))
  rw [h] at this; exact this
theorem rawN_neg (d u : Int) (hu : 1 ≤ u) (hd : d < 0) : rawN d u = -(-d / u + if u ≤ 2 * (-d % u) then 1 else 0) := by
  have := rawN_pos (-d) u hu (by omega)
  unfold rawN at this ⊢; rw [if_neg (by omega)] at this; rw [if_pos hd, this]
/-- distance: twice the remainder is at most the unit -/
theorem rawN_near (d u : Int) (hu : 1 ≤ u) : 2 * (rawN d u * u - d) ≤ u ∧ 2 * (d - rawN d u * u) ≤ u := by
  by_cases hd : d < 0
  · rw [rawN_neg d u hu hd]
    have h := Int.mul_ediv_add_emod (-d) u
    have h1 := Int.emod_nonneg (-d) (show u ≠ 0 by omega)
    have h2 := Int.emod_lt_of_pos (-d) (show 0 < u by omega)
    rw [Int.neg_mul, Int.add_mul, Int.mul_comm (-d / u) u]
    split <;> omega
  · rw [rawN_pos d u hu (by omega)]
    have h := Int.mul_ediv_add_emod d u
    have h1 := Int.emod_nonneg d (show u ≠ 0 by omega)
    have h2 := Int.emod_lt_of_pos d (show 0 < u by omega)
    rw [Int.add_mul, Int.mul_comm (d / u) u]
    split <;> omega
def inV (v : Int) : Bool := decide (-2000000000000000000 ≤ v ∧ v ≤ 2000000000000000000)
def rawV (u c v : Int) : Int := if inV v then rawN (v - c) u else 0
def rawB (n : Int) (g : Bool) (u c v : Int) : Bool := inV v && decide (lowR n g ≤ rawN (v - c) u ∧ rawN (v - c) u ≤ highR n g)
/-- the bit of a number at a shift -/
def bitN (x : Int) (s : Nat) : Int := x / 2 ^ s % 2
theorem bitN_01 (x : Int) (s : Nat) : bitN x s = 0 ∨ bitN x s = 1 := by unfold bitN; omega
/-- the list with a raw number in the places of the first k bits (of n) from a on -/
def putL (zs : List Int) (a n : Nat) (x : Int) : Nat → List Int
  | 0 => zs
  | k + 1 => (putL zs a n x k).set (a + k) (bitN x (n - 1 - k))
theorem putL_length (zs : List Int) (a n : Nat) (x : Int) (k : Nat) : (putL zs a n x k).length = zs.length := by
  induction k with
  | zero => rfl
  | succ k ih => simp [putL, ih]
theorem putL_get (zs : List Int) (a n : Nat) (x : Int) (k : Nat) (i : Nat) (h : a + k ≤ zs.length) : (putL zs a n x k).getD i 0 = if a ≤ i ∧ i < a + k then bitN x (n - 1 - (i - a)) else zs.getD i 0 := by
  induction k with
  | zero => rw [if_neg (by omega)]; rfl
  | succ k ih =>
    have ih := ih (by omega)
    simp only [putL, List.getD_eq_getElem?_getD] at ih ⊢
    rw [List.getElem?_set]
    by_cases e : a + k = i
    · subst e
      rw [if_pos rfl, if_pos (by rw [putL_length]; omega), if_pos (by omega)]
      simp
    · rw [if_neg e, ih]
      by_cases h2 : a ≤ i ∧ i < a + k
      · rw [if_pos h2, if_pos (by omega)]
      · rw [if_neg h2, if_neg (by omega)]
/-- the number in the first k places from a on -/
def getN (zs : List Int) (a : Nat) : Nat → Int
  | 0 => 0
  | k + 1 => 2 * getN zs a k + zs.getD (a + k) 0
theorem getN_bd (zs : List Int) (a k : Nat) (h : ∀ i, i < k → zs.getD (a + i) 0 = 0 ∨ zs.getD (a + i) 0 = 1) : 0 ≤ getN zs a k ∧ getN zs a k < 2 ^ k := by
  induction k with
  | zero => simp [getN]
  | succ k ih =>
    have := ih (fun i hi => h i (by omega))
    have h2 := h k (by omega)
    rw [getN, Int.pow_succ]; omega
def sgn (n : Int) (g : Bool) (m : Int) : Int := if highR n g < m then m - 2 ^ n.toNat else m
def oksP (zs : List Int) (a n : Nat) : Bool := (List.range n).all fun i => zs.getD (a + i) 0 == 0 || zs.getD (a + i) 0 == 1
theorem oksP_iff (zs : List Int) (a n : Nat) : oksP zs a n = true ↔ ∀ i, i < n → zs.getD (a + i) 0 = 0 ∨ zs.getD (a + i) 0 = 1 := by
  unfold oksP; simp [List.all_eq_true]
theorem oksP_not (zs : List Int) (a n i : Nat) (hi : i < n) (h0 : zs.getD (a + i) 0 ≠ 0) (h1 : zs.getD (a + i) 0 ≠ 1) : oksP zs a n = false := by
  cases h : oksP zs a n with
  | false => rfl
  | true => have := (oksP_iff zs a n).1 h i hi; omega
end Go.Proofs.Sky

namespace Go.Proofs.Sky
structure Fd where
  a : Int
  n : Int
  g : Bool
  u : Int
  c : Int
deriving instance Inhabited for Fd
def okF (a n u c : Int) : Bool := decide (0 ≤ a ∧ a ≤ 4000 ∧ 1 ≤ n ∧ n ≤ 40 ∧ a + n ≤ 4000 ∧ 1 ≤ u ∧ u ≤ 1000000 ∧ -1000000000000000 ≤ c ∧ c ≤ 1000000000000000)
def errF (a n u c : Int) : Int := if okF a n u c then 0 else 2
theorem errF_ok {a n u c : Int} (h : fk a n u c) : errF a n u c = 0 := by unfold fk at h; unfold errF okF; rw [if_pos (by simpa using h)]
theorem errF_no {a n u c : Int} (h : ¬ fk a n u c) : errF a n u c = 2 := by unfold fk at h; unfold errF okF; rw [if_neg (by simpa using h)]
/-- is a place taken by one of the fields? -/
def tk (pre : List Fd) (p : Int) : Bool := pre.any fun h => decide (h.a ≤ p ∧ p < h.a + h.n)
theorem tk_snoc (pre : List Fd) (f : Fd) (p : Int) : tk (pre ++ [f]) p = (tk pre p || decide (f.a ≤ p ∧ p < f.a + f.n)) := by simp [tk]
def dbl (pre : List Fd) (f : Fd) : Bool := (List.range f.n.toNat).any fun y => tk pre (f.a + (y : Int))
theorem dbl_yes (pre : List Fd) (f : Fd) (y : Nat) (hy : y < f.n.toNat) (h : tk pre (f.a + (y : Int)) = true) : dbl pre f = true := List.any_eq_true.2 ⟨y, List.mem_range.2 hy, h⟩
theorem dbl_no (pre : List Fd) (f : Fd) (h : ∀ y, y < f.n.toNat → tk pre (f.a + (y : Int)) = false) : dbl pre f = false := by
  unfold dbl; rw [List.any_eq_false]; intro y hy; simp [h y (List.mem_range.1 hy)]
def layE (pre : List Fd) (f : Fd) (b : Int) : Int := if errF f.a f.n f.u f.c = 0 then (if b < f.a + f.n then 16 else if dbl pre f then 8 else 0) else 2
def lay (b : Int) : List Fd → List Fd → Int × Int
  | _, [] => (0, 0)
  | pre, f :: r => if layE pre f b = 0 then lay b (pre ++ [f]) r else (layE pre f b, pre.length)
def layout (fs : List Fd) (b : Int) : Int × Int := if 100 < fs.length then (4, 100) else lay b [] fs
theorem lay_step (b : Int) (fs : List Fd) (k : Nat) (f : Fd) (hf : fs[k]? = some f) : lay b (fs.take k) (fs.drop k) = if layE (fs.take k) f b = 0 then lay b (fs.take (k + 1)) (fs.drop (k + 1)) else (layE (fs.take k) f b, (k : Int)) := by
  obtain ⟨hk, rfl⟩ := List.getElem?_eq_some_iff.1 hf
  rw [List.drop_eq_getElem_cons hk, lay, List.take_succ_eq_append_getElem hk, List.length_take, Nat.min_eq_left (by omega)]
end Go.Proofs.Sky
