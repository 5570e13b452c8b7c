/-
  lemmas for the theorems of this claim. No conditions beyond those written in the statements.
-/
import Derived.Test.YtcbkjfakedngbaaP25
set_option linter.unusedVariables false
set_option linter.unusedSimpArgs false
set_option linter.unnecessarySimpa false
namespace Go.Proofs.Sky
structure Fd where
  a : Int
  n : Int
  g : Bool
  u : Int
  c : Int
deriving instance Inhabited for Fd
def okF (a n u c : Int) : Bool := decide (0 ≤ a ∧ a ≤ 4000 ∧ 1 ≤ n ∧ n ≤ 40 ∧ a + n ≤ 4000 ∧ 1 ≤ u ∧ u ≤ 1000000 ∧ -1000000000000000 ≤ c ∧ c ≤ 1000000000000000)
def errF (a n u c : Int) : Int := if okF a n u c then 0 else 2
theorem errF_ok {a n u c : Int} (h : fk a n u c) : errF a n u c = 0 := by unfold fk at h; unfold errF okF; rw [if_pos (by simpa using h)]
theorem errF_no {a n u c : Int} (h : ¬ fk a n u c) : errF a n u c = 2 := by unfold fk at h; unfold errF okF; rw [if_neg (by simpa using h)]
/-- is a place taken by one of the fields? -/
def tk (pre : List Fd) (p : Int) : Bool := pre.any fun h => decide (h.a ≤ p ∧ p < h.a + h.n)
theorem tk_snoc (pre : List Fd) (f : Fd) (p : Int) : tk (pre ++ [f]) p = (tk pre p || decide (f.a ≤ p ∧ p < f.a + f.n)) := by simp [tk]
def dbl (pre : List Fd) (f : Fd) : Bool := (List.range f.n.toNat).any fun y => tk pre (f.a + (y : Int))
theorem dbl_yes (pre : List Fd) (f : Fd) (y : Nat) (hy : y < f.n.toNat) (h : tk pre (f.a + (y : Int)) = true) : dbl pre f = true := List.any_eq_true.2 ⟨y, List.mem_range.2 hy, h⟩
theorem dbl_no (pre : List Fd) (f : Fd) (h : ∀ y, y < f.n.toNat → tk pre (f.a + (y : Int)) = false) : dbl pre f = false := by
  unfold dbl; rw [List.any_eq_false]; intro y hy; simp [h y (List.mem_range.1 hy)]
def layE (pre : List Fd) (f : Fd) (b : Int) : Int := if errF f.a f.n f.u f.c = 0 then (if b < f.a + f.n then 16 else if dbl pre f then 8 else 0) else 2
def lay (b : Int) : List Fd → List Fd → Int × Int
  | _, [] => (0, 0)
  | pre, f :: r => if layE pre f b = 0 then lay b (pre ++ [f]) r else (layE pre f b, pre.length)
def layout (fs : List Fd) (b : Int) : Int × Int := if 100 < fs.length then (4, 100) else lay b [] fs
theorem lay_step (b : Int) (fs : List Fd) (k : Nat) (f : Fd) (hf : fs[k]? = some f) : lay b (fs.take k) (fs.drop k) = if layE (fs.take k) f b = 0 then lay b (fs.take (k + 1)) (fs.drop (k + 1)) else (layE (fs.take k) f b, (k : Int)) := by
  obtain ⟨hk, rfl⟩ := List.getElem?_eq_some_iff.1 hf
  rw [List.drop_eq_getElem_cons hk, lay, List.take_succ_eq_append_getElem hk, List.length_take, Nat.min_eq_left (by omega)]
end Go.Proofs.Sky
