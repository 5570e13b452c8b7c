/-
  lemmas for the theorems of this claim. No conditions beyond those written in the statements.
-/
import Derived.Test.YtcbkjfakedngbaaP25L
set_option linter.unusedVariables false
set_option linter.unusedSimpArgs false
set_option linter.unnecessarySimpa false
namespace Go.Proofs.Sky
def pk (i : Nat) (zs : List Int) : List (Fd × Int) → List Int × (Int × Int)
  | [] => (zs, (0, 0))
  | (f, v) :: r => if rawB f.n f.g f.u f.c v then pk (i + 1) (putL zs f.a.toNat f.n.toNat (rawV f.u f.c v) f.n.toNat) r else ([], (5, (i : Int)))
def packR (b : Int) (fs : List Fd) (vs : List Int) : List Int × (Int × Int) :=
  if b < 0 ∨ 4000 < b then ([], (2, 0)) else if (layout fs b).1 = 0 then (if vs.length = fs.length then pk 0 (List.replicate b.toNat 0) (fs.zip vs) else ([], (3, (fs.length : Int)))) else ([], layout fs b)
theorem lay_zero (b : Int) : ∀ (r pre : List Fd), (lay b pre r).1 = 0 → ∀ f ∈ r, fk f.a f.n f.u f.c ∧ f.a + f.n ≤ b := by
  intro r
  induction r with
  | nil => intro pre _ f hf; cases hf
  | cons g r ih =>
    intro pre h f hf
    rw [lay] at h
    by_cases hE : layE pre g b = 0
    · rw [if_pos hE] at h
      rcases List.mem_cons.1 hf with rfl | hf
      · unfold layE at hE
        by_cases hk : fk f.a f.n f.u f.c
        · rw [errF_ok hk, if_pos rfl] at hE
          by_cases hb : b < f.a + f.n
          · rw [if_pos hb] at hE; cases hE
          · exact ⟨hk, by omega⟩
        · rw [errF_no hk] at hE; cases hE
      · exact ih _ h f hf
    · rw [if_neg hE] at h; exact absurd h hE
theorem layout_zero {b : Int} {fs : List Fd} (h : (layout fs b).1 = 0) : fs.length ≤ 100 ∧ ∀ f ∈ fs, fk f.a f.n f.u f.c ∧ f.a + f.n ≤ b := by
  unfold layout at h
  by_cases hl : 100 < fs.length
  · rw [if_pos hl] at h; cases h
  · rw [if_neg hl] at h; exact ⟨by omega, lay_zero b fs [] h⟩
theorem pk_step (k : Nat) (zs : List Int) (ps : List (Fd × Int)) (f : Fd) (v : Int) (h : ps[k]? = some (f, v)) : pk k zs (ps.drop k) = if rawB f.n f.g f.u f.c v then pk (k + 1) (putL zs f.a.toNat f.n.toNat (rawV f.u f.c v) f.n.toNat) (ps.drop (k + 1)) else ([], (5, (k : Int))) := by
  obtain ⟨hk, e⟩ := List.getElem?_eq_some_iff.1 h
  rw [List.drop_eq_getElem_cons hk, e, pk]
def unp (i : Nat) (zs out : List Int) : List Fd → List Int × (Int × Int)
  | [] => (out, (0, 0))
  | f :: r => if oksP zs f.a.toNat f.n.toNat then unp (i + 1) zs (out ++ [0]) r else ([], (3, (i : Int)))
end Go.Proofs.Sky
