/-
  lemmas for the theorems of this claim. No conditions beyond those written in the statements.
-/
import Derived.Test.YtmfiiocadhdhaaaVA26
import Derived.Deep.Cut
set_option linter.unusedVariables false
set_option linter.unusedSimpArgs false
set_option linter.unnecessarySimpa false
namespace Go.Proofs.Sky
open Go Go.RowKit Go.Shelf
set_option maxHeartbeats 4000000
set_option maxRecDepth 8000
/-! chapter 26, plain: EphemMixes -/
theorem errE_parts {x : Nat → Int} (h : errE x = 0) : hdE x ∧ (∀ i, i < 3 → okZ (clB i) (x (4 + i)) = true) ∧ (∀ i, i < 4 → okZ (axB i) (x (7 + i)) = true ∧ okZ (axB i) (x (11 + i)) = true ∧ okZ (axB i) (x (15 + i)) = true) := by
  refine ⟨Classical.byContradiction fun h9 => ?_, fun i hi => ?_, fun i hi => ⟨?_, ?_, ?_⟩⟩
  · rw [errE_hd h9] at h; cases h
  · cases hq : okZ (clB i) (x (4 + i)) with
    | true => rfl
    | false => rw [errE_cl hi hq] at h; cases h
  · cases hq : okZ (axB i) (x (7 + i)) with
    | true => rfl
    | false => rw [errE_ax hi (.inl hq)] at h; cases h
  · cases hq : okZ (axB i) (x (11 + i)) with
    | true => rfl
    | false => rw [errE_ax hi (.inr (.inl hq))] at h; cases h
  · cases hq : okZ (axB i) (x (15 + i)) with
    | true => rfl
    | false => rw [errE_ax hi (.inr (.inr hq))] at h; cases h
/-- x with the number and the issue of y -/
def likeE (x y : Nat → Int) : Nat → Int := fun i => if i < 2 then y i else x i
theorem likeE_ok {x y : Nat → Int} (hx : errE x = 0) (hy : errE y = 0) : errE (likeE x y) = 0 := by
  obtain ⟨h1, h2, h3⟩ := errE_parts hx
  obtain ⟨g1, _, _⟩ := errE_parts hy
  refine errE_yes ?_ (fun i hi => ?_) (fun i hi => ?_)
  · have e0 : likeE x y 0 = y 0 := rfl
    have e1 : likeE x y 1 = y 1 := rfl
    have e2 : likeE x y 2 = x 2 := rfl
    have e3 : likeE x y 3 = x 3 := rfl
    unfold hdE at h1 g1 ⊢
    rw [e0, e1, e2, e3]
    omega
  · have e : likeE x y (4 + i) = x (4 + i) := if_neg (by omega)
    rw [e]; exact h2 i hi
  · have e7 : likeE x y (7 + i) = x (7 + i) := if_neg (by omega)
    have e11 : likeE x y (11 + i) = x (11 + i) := if_neg (by omega)
    have e15 : likeE x y (15 + i) = x (15 + i) := if_neg (by omega)
    rw [e7, e11, e15]; exact h3 i hi
/-- which kinds there are, by the numbers of their ephemerides -/
def hL (L : Nat → Int) : Nat → Bool := fun j => decide (0 ≤ L j)
def yL (E : Nat → Nat → Int) (L : Nat → Int) : Nat → Nat → Int := fun j => E (L j).toNat
/-- whether a frame of another ephemeris comes -/
def resB (E : Nat → Nat → Int) (now : Int) (c : Nat) : Bool := decide (0 ≤ now) && decide (¬ (E c 0 = E now.toNat 0) ∨ ¬ (E c 1 = E now.toNat 1))
def nxL (L : Nat → Int) (r : Bool) (c k : Nat) : Nat → Int := fun j => if j = k then (c : Int) else if r then -1 else L j
structure Mix (E : Nat → Nat → Int) (P : Pm) (L : Nat → Int) (now : Int) : Prop where
  inv : Inv P (hL L) (yL E L) (E now.toNat 1) (E now.toNat 0)
  now0 : anyH (hL L) = true → 0 ≤ now
  lo : ∀ j, j < 3 → -1 ≤ L j ∧ L j < 3
  nlo : -1 ≤ now ∧ now < 3
theorem Mix.zero (E : Nat → Nat → Int) : Mix E zP (fun _ => -1) (-1) :=
  ⟨⟨fun _ _ => rfl, fun _ _ => rfl, fun _ => ⟨rfl, rfl⟩, fun h => (by cases h), fun _ _ h => (by cases h)⟩, fun h => (by cases h), fun _ _ => (by omega), by omega⟩
theorem mix_h {E : Nat → Nat → Int} {P : Pm} {L : Nat → Int} {now : Int} (M : Mix E P L now) (c k : Nat) : ∀ j, j < 3 → newH (hL L) (samH (hL L) (E now.toNat 1) (E now.toNat 0) (E c)) k j = hL (nxL L (resB E now c) c k) j := by
  intro j hj
  unfold newH
  by_cases e : j = k
  · rw [if_pos e]
    show _ = decide (0 ≤ nxL L _ c k j)
    unfold nxL
    rw [if_pos e]
    exact (decide_eq_true (by omega)).symm
  · rw [if_neg e]
    show _ = decide (0 ≤ nxL L _ c k j)
    unfold nxL
    rw [if_neg e]
    cases hh : hL L j with
    | false =>
      rw [Bool.and_false]
      refine (decide_eq_false ?_).symm
      have h9 : ¬ 0 ≤ L j := of_decide_eq_false hh
      split
      · omega
      · exact h9
    | true =>
      have ha := anyH_of hj hh
      have hn := M.now0 ha
      have h9 : 0 ≤ L j := of_decide_eq_true hh
      unfold samH resB
      rw [ha, decide_eq_true hn, Bool.true_and, Bool.true_and, Bool.and_true]
      by_cases hd : E now.toNat 1 = E c 1 ∧ E now.toNat 0 = E c 0
      · have e2 : decide (¬ (E c 0 = E now.toNat 0) ∨ ¬ (E c 1 = E now.toNat 1)) = false := decide_eq_false (by omega)
        rw [decide_eq_true hd, e2]
        exact (decide_eq_true h9).symm
      · have e2 : decide (¬ (E c 0 = E now.toNat 0) ∨ ¬ (E c 1 = E now.toNat 1)) = true := decide_eq_true (by omega)
        rw [decide_eq_false hd, e2]
        rfl
theorem mix_y {E : Nat → Nat → Int} {P : Pm} {L : Nat → Int} {now : Int} (M : Mix E P L now) (c k : Nat) : ∀ j, j < 3 → hL (nxL L (resB E now c) c k) j = true → upN (yL E L) k (E c) j = yL E (nxL L (resB E now c) c k) j := by
  intro j hj hh
  unfold upN yL nxL
  by_cases e : j = k
  · rw [if_pos e, if_pos e]; rfl
  · rw [if_neg e, if_neg e]
    have h9 : 0 ≤ nxL L (resB E now c) c k j := of_decide_eq_true hh
    unfold nxL at h9
    rw [if_neg e] at h9
    cases hr : resB E now c with
    | false => rfl
    | true => rw [hr, if_pos rfl] at h9; omega
theorem Inv.congr2 {p : Pm} {h h' : Nat → Bool} {Y Y' : Nat → Nat → Int} {is pr : Int} (I : Inv p h Y is pr) (hh : ∀ j, j < 3 → h j = h' j) (hY : ∀ j, j < 3 → h' j = true → Y j = Y' j) : Inv p h' Y' is pr := by
  have ha : anyH h = anyH h' := by unfold anyH; rw [hh 0 (by omega), hh 1 (by omega), hh 2 (by omega)]
  refine ⟨fun j hj => (I.hh j hj).trans (hh j hj), fun j hj => ?_, fun h9 => I.no (ha.trans h9), fun h9 => I.yes (ha.trans h9), fun j hj h9 => by rw [← hY j hj h9]; exact I.each j hj ((hh j hj).trans h9)⟩
  rw [I.hz j hj, hh j hj]
  cases h1 : h' j with
  | false => rfl
  | true => rw [hY j hj h1]
theorem mix_add {E : Nat → Nat → Int} {P : Pm} {L : Nat → Int} {now : Int} (M : Mix E P L now) {c k : Nat} (hc : c < 3) (hk : k < 3) (hE : errE (E c) = 0) {t : Int} (ht : 0 ≤ t ∧ t < 131072) :
    (addR P t ((k : Int) + 1) (FrE (E c) k)).2.2.2 = 0 ∧ (addR P t ((k : Int) + 1) (FrE (E c) k)).2.2.1 = allH (hL (nxL L (resB E now c) c k)) ∧
      (allH (hL (nxL L (resB E now c) c k)) = true → eV (addR P t ((k : Int) + 1) (FrE (E c) k)).2.1 = eV (mixE (E (nxL L (resB E now c) c k 0).toNat) (E (nxL L (resB E now c) c k 1).toNat) (E (nxL L (resB E now c) c k 2).toNat)) ∧ (addR P t ((k : Int) + 1) (FrE (E c) k)).1 = zP) ∧
      (allH (hL (nxL L (resB E now c) c k)) = false → Mix E (addR P t ((k : Int) + 1) (FrE (E c) k)).1 (nxL L (resB E now c) c k) c) := by
  obtain ⟨a1, a2, a3, a4⟩ := M.inv.add hE hk ht
  have hn := mix_h M c k
  have hy := mix_y M c k
  have hA : allH (newH (hL L) (samH (hL L) (E now.toNat 1) (E now.toNat 0) (E c)) k) = allH (hL (nxL L (resB E now c) c k)) := by
    unfold allH; rw [hn 0 (by omega), hn 1 (by omega), hn 2 (by omega)]
  rw [hA] at a2 a3 a4
  refine ⟨a1, a2, fun h9 => ?_, fun h9 => ?_⟩
  · obtain ⟨b1, b2⟩ := a3 h9
    have h8 := h9
    unfold allH at h8
    simp only [Bool.and_eq_true] at h8
    rw [hy 0 (by omega) h8.1, hy 1 (by omega) h8.2.1, hy 2 (by omega) h8.2.2] at b1
    exact ⟨b1, b2⟩
  · refine ⟨(a4 h9).2.congr2 hn hy, fun _ => by omega, fun j hj => ?_, by omega⟩
    have h8 := M.lo j hj
    unfold nxL
    split
    · omega
    · split
      · omega
      · exact h8
end Go.Proofs.Sky
