/-
  lemmas for the theorems of this claim. No conditions beyond those written in the statements.
-/
import Derived.Test.YtmfiiocadhdhaaaPB26
import Derived.Test.YtmfiiocadhdhaaaSD26
import Derived.Test.YtmfiiocadhdhaaaN26
import Derived.Test.YtmfiiocadhdhaaaSF26
import Derived.Deep.Cut
import Derived.Test.YtmfiiocadhdhaaaM26
import Derived.Test.YtmfiiocadhdhaaaG26
import Derived.Test.YtmfiiocadhdhaaaRdAt
import Derived.Test.YtmfiiocadhdhaaaHeld
import Derived.BigQuiet
import Derived.Test.YtmfiiocadhdhaaaRC26
set_option linter.unusedVariables false
set_option linter.unusedSimpArgs false
set_option linter.unnecessarySimpa false
namespace Go.Proofs.Sky
open Go Go.RowKit Go.Shelf
set_option maxHeartbeats 4000000
set_option maxRecDepth 8000
/-! chapter 26, plain: frames of ephemerides are read again -/
theorem okB_of {zs : List Int} (hl : zs.length = 206) (h : ∀ q, zs.getD q 0 = 0 ∨ zs.getD q 0 = 1) : okB zs = true ∧ bit2 zs = true := by
  have h1 : bit2 zs = true := bit2_yes (fun j _ => h j)
  exact ⟨(okB_bit2 hl).trans h1, h1⟩
theorem fr_at {x : Nat → Int} (h : errE x = 0) {k : Nat} (hk : k < 3) : ∀ i, i < (LS k).length → rvX (FrE x k) k i = x ((LS k).getD i (0, false, 0)).2.2 := by
  intro i hi
  obtain ⟨p1, _, p3, _, _, p6⟩ := packedE h k hk
  have h1 := unpackS (okW_LS k) (FrE x k) p1 (okB_of p1 p6).1
  rw [p3] at h1
  have h2 := (Prod.mk.inj h1).1
  rw [← rvS_X hk hi p1 p6]
  have h3 := congrArg (fun l => l[i]?) h2
  unfold valsE at h3
  simp only [List.getElem?_map, List.getElem?_range hi, List.getElem?_eq_getElem hi, Option.map_some, Option.some.injEq] at h3
  rw [← h3, List.getD_eq_getElem?_getD, List.getElem?_eq_getElem hi]; rfl
theorem ls_head : ∀ k, k < 3 → ((LS k).getD 0 (0, false, 0)).2.2 = 1 ∧ ((LS k).getD 1 (0, false, 0)).2.2 = 0 := by decide
theorem fr_is {x : Nat → Int} (h : errE x = 0) {k : Nat} (hk : k < 3) : rvX (FrE x k) k 0 = x 1 ∧ rvX (FrE x k) k 1 = x 0 := by
  have hl := (ls_len k hk).2.1
  have h0 := fr_at h hk 0 (by omega)
  have h1 := fr_at h hk 1 (by omega)
  rw [(ls_head k hk).1] at h0
  rw [(ls_head k hk).2] at h1
  exact ⟨h0, h1⟩
theorem fr_rok {x : Nat → Int} (h : errE x = 0) {k : Nat} (hk : k < 3) : rokV (FrE x k) ((k : Int) + 1) = true := by
  obtain ⟨p1, _, _, _, p5, p6⟩ := packedE h k hk
  have hlim := errE_lim h
  unfold rokV
  rw [kd1 hk, decide_eq_true p1, (okB_of p1 p6).2, tl0_yes (fun j h1 _ => by rw [p5 j h1]; decide), Bool.true_and, Bool.true_and, Bool.true_and]
  apply decide_eq_true
  refine ⟨by rw [(fr_is h hk).2]; omega, ?_⟩
  rcases (by omega : k = 0 ∨ k = 1 ∨ k = 2) with rfl | rfl | rfl
  · have h9 := fr_at h hk 2 (by decide)
    rw [show ((LS 0).getD 2 (0, false, 0)).2.2 = 2 from rfl] at h9
    exact .inr (by rw [h9]; omega)
  · exact .inl (by decide)
  · exact .inl (by decide)
theorem fr_rokP {x : Nat → Int} (h : errE x = 0) {k : Nat} (hk : k < 3) {t : Int} (ht : 0 ≤ t ∧ t < 131072) : rokP t ((k : Int) + 1) (FrE x k) = true := by
  unfold rokP
  rw [fr_rok h hk, decide_eq_true (by omega)]; rfl
/-- the ephemeris that three frames make -/
def mixE (a b c : Nat → Int) : Nat → Int := fun i => if i < 7 then a i else if i < 13 then b i else c i
theorem tog_mix {a b c : Nat → Int} (ha : errE a = 0) (hb : errE b = 0) (hc : errE c = 0) : eV (togE (rvL (FrE a 0) 0) (rvL (FrE b 1) 1) (rvL (FrE c 2) 2)) = eV (mixE a b c) := by
  apply eV_congr
  intro i hi
  have g0 : ∀ j, j < 7 → (rvL (FrE a 0) 0).getD j 0 = a ((LS 0).getD j (0, false, 0)).2.2 := fun j hj => (rvL_get _ 0 j hj).trans (fr_at ha (by omega) j hj)
  have g1 : ∀ j, j < 8 → (rvL (FrE b 1) 1).getD j 0 = b ((LS 1).getD j (0, false, 0)).2.2 := fun j hj => (rvL_get _ 1 j hj).trans (fr_at hb (by omega) j hj)
  have g2 : ∀ j, j < 8 → (rvL (FrE c 2) 2).getD j 0 = c ((LS 2).getD j (0, false, 0)).2.2 := fun j hj => (rvL_get _ 2 j hj).trans (fr_at hc (by omega) j hj)
  generalize rvL (FrE a 0) 0 = LA at *
  generalize rvL (FrE b 1) 1 = LB at *
  generalize rvL (FrE c 2) 2 = LC at *
  match i, hi with
  | 0, _ => exact g0 1 (by omega)
  | 1, _ => exact g0 0 (by omega)
  | 2, _ => exact g0 2 (by omega)
  | 3, _ => exact g0 3 (by omega)
  | 4, _ => exact g0 4 (by omega)
  | 5, _ => exact g0 5 (by omega)
  | 6, _ => exact g0 6 (by omega)
  | 7, _ => exact g1 2 (by omega)
  | 8, _ => exact g1 3 (by omega)
  | 9, _ => exact g1 4 (by omega)
  | 10, _ => exact g1 5 (by omega)
  | 11, _ => exact g1 6 (by omega)
  | 12, _ => exact g1 7 (by omega)
  | 13, _ => exact g2 2 (by omega)
  | 14, _ => exact g2 3 (by omega)
  | 15, _ => exact g2 4 (by omega)
  | 16, _ => exact g2 5 (by omega)
  | 17, _ => exact g2 6 (by omega)
  | 18, _ => exact g2 7 (by omega)
  | n + 19, h => exact absurd h (by omega)
theorem mix_self (a : Nat → Int) : mixE a a a = a := by
  funext i
  unfold mixE
  split
  · rfl
  · split <;> rfl
/-! parts of frames of ephemerides -/
structure Inv (p : Pm) (h : Nat → Bool) (Y : Nat → Nat → Int) (is pr : Int) : Prop where
  hh : ∀ j, j < 3 → p.h j = h j
  hz : ∀ j, j < 3 → p.Z j = if h j then FrE (Y j) j else []
  no : anyH h = false → p.is = 0 ∧ p.pr = 0
  yes : anyH h = true → p.is = is ∧ p.pr = pr
  each : ∀ j, j < 3 → h j = true → errE (Y j) = 0 ∧ Y j 1 = is ∧ Y j 0 = pr
theorem anyH_of {h : Nat → Bool} {j : Nat} (hj : j < 3) (h1 : h j = true) : anyH h = true := by
  unfold anyH
  match j, hj with
  | 0, _ => rw [h1]; rfl
  | 1, _ => rw [h1]; simp
  | 2, _ => rw [h1]; simp
theorem Inv.zero (Y : Nat → Nat → Int) (is pr : Int) : Inv zP (fun _ => false) Y is pr := ⟨fun _ _ => rfl, fun _ _ => rfl, fun _ => ⟨rfl, rfl⟩, fun h => (by cases h), fun _ _ h => (by cases h)⟩
theorem Inv.snd {p : Pm} {h : Nat → Bool} {Y : Nat → Nat → Int} {is pr : Int} (I : Inv p h Y is pr) : sndP p = true := by
  have hu : anyU p.h 3 = anyH h := by
    show (((false || p.h 0) || p.h 1) || p.h 2) = (h 0 || (h 1 || h 2))
    rw [I.hh 0 (by omega), I.hh 1 (by omega), I.hh 2 (by omega), Bool.false_or, Bool.or_assoc]
  rw [sndP_end (fun k hk => ?_), hu]
  · cases ha : anyH h with
    | true => rfl
    | false => rw [Bool.false_or]; exact decide_eq_true (I.no ha)
  · unfold sndK
    rw [I.hh k hk, I.hz k hk]
    cases hk1 : h k with
    | false => exact decide_eq_true (show ([] : List Int).length = 0 from rfl)
    | true =>
      obtain ⟨e1, e2, e3⟩ := I.each k hk hk1
      obtain ⟨y1, y2⟩ := I.yes (anyH_of hk hk1)
      rw [if_pos rfl, if_pos rfl, fr_rok e1 hk, (fr_is e1 hk).1, (fr_is e1 hk).2, Bool.true_and]
      exact decide_eq_true ⟨by rw [e2, y1], by rw [e3, y2]⟩
/-- whether a frame of X goes with what is there -/
def samH (h : Nat → Bool) (is pr : Int) (X : Nat → Int) : Bool := anyH h && decide (is = X 1 ∧ pr = X 0)
theorem Inv.same {p : Pm} {h : Nat → Bool} {Y : Nat → Nat → Int} {is pr : Int} (I : Inv p h Y is pr) {X : Nat → Int} (hX : errE X = 0) {k : Nat} (hk : k < 3) : smP p (FrE X k) k = samH h is pr X := by
  unfold smP samH
  rw [(fr_is hX hk).1, (fr_is hX hk).2]
  cases ha : anyH h with
  | true => rw [(I.yes ha).1, (I.yes ha).2, Bool.true_and]
  | false =>
    rw [(I.no ha).1, (I.no ha).2, Bool.false_and]
    have := (errE_lim hX).2.2
    exact decide_eq_false (by omega)
def newH (h : Nat → Bool) (s : Bool) (k : Nat) : Nat → Bool := fun j => if j = k then true else s && h j
theorem Inv.next {p : Pm} {h : Nat → Bool} {Y : Nat → Nat → Int} {is pr : Int} (I : Inv p h Y is pr) {X : Nat → Int} (hX : errE X = 0) {k : Nat} (hk : k < 3) : Inv (nxP p (FrE X k) k) (newH h (samH h is pr X) k) (upN Y k X) (X 1) (X 0) := by
  have hs := I.same hX hk
  have hany : anyH (newH h (samH h is pr X) k) = true := anyH_of hk (by unfold newH; rw [if_pos rfl])
  refine ⟨fun j hj => ?_, fun j hj => ?_, fun h9 => (by rw [hany] at h9; cases h9), fun _ => fr_is hX hk, fun j hj hh => ?_⟩
  · unfold nxP newH
    dsimp only
    by_cases e : j = k
    · rw [if_pos e, if_pos e]
    · rw [if_neg e, if_neg e, hs, I.hh j hj]
  · unfold nxP newH upN
    dsimp only
    by_cases e : j = k
    · rw [if_pos e, if_pos e, if_pos rfl, if_pos e, e]
    · rw [if_neg e, if_neg e, if_neg e, hs, I.hz j hj]
      cases samH h is pr X with
      | false => rfl
      | true => simp
  · unfold newH at hh
    unfold upN
    by_cases e : j = k
    · rw [if_pos e]; exact ⟨hX, rfl, rfl⟩
    · rw [if_neg e] at hh ⊢
      simp only [Bool.and_eq_true] at hh
      obtain ⟨e1, e2, e3⟩ := I.each j hj hh.2
      have h9 := hh.1
      unfold samH at h9
      simp only [Bool.and_eq_true, decide_eq_true_eq] at h9
      exact ⟨e1, by rw [e2, h9.2.1], by rw [e3, h9.2.2]⟩
def allH (h : Nat → Bool) : Bool := h 0 && (h 1 && h 2)
theorem Inv.add {p : Pm} {h : Nat → Bool} {Y : Nat → Nat → Int} {is pr : Int} (I : Inv p h Y is pr) {X : Nat → Int} (hX : errE X = 0) {k : Nat} (hk : k < 3) {t : Int} (ht : 0 ≤ t ∧ t < 131072) :
    (addR p t ((k : Int) + 1) (FrE X k)).2.2.2 = 0 ∧ (addR p t ((k : Int) + 1) (FrE X k)).2.2.1 = allH (newH h (samH h is pr X) k) ∧
      (allH (newH h (samH h is pr X) k) = true → eV (addR p t ((k : Int) + 1) (FrE X k)).2.1 = eV (mixE (upN Y k X 0) (upN Y k X 1) (upN Y k X 2)) ∧ (addR p t ((k : Int) + 1) (FrE X k)).1 = zP) ∧
      (allH (newH h (samH h is pr X) k) = false → eV (addR p t ((k : Int) + 1) (FrE X k)).2.1 = eV zE ∧ Inv (addR p t ((k : Int) + 1) (FrE X k)).1 (newH h (samH h is pr X) k) (upN Y k X) (X 1) (X 0)) := by
  have IN := I.next hX hk
  have hall : ((nxP p (FrE X k) k).h 0 && (nxP p (FrE X k) k).h 1 && (nxP p (FrE X k) k).h 2) = allH (newH h (samH h is pr X) k) := by
    rw [IN.hh 0 (by omega), IN.hh 1 (by omega), IN.hh 2 (by omega), Bool.and_assoc]; rfl
  unfold addR
  rw [I.snd, fr_rokP hX hk ht, if_pos rfl, if_pos rfl, kd1 hk, hall]
  cases hA : allH (newH h (samH h is pr X) k) with
  | false => exact ⟨rfl, rfl, fun h9 => (by cases h9), fun _ => ⟨rfl, IN⟩⟩
  | true =>
    refine ⟨rfl, rfl, fun _ => ⟨?_, rfl⟩, fun h9 => by cases h9⟩
    unfold allH at hA
    simp only [Bool.and_eq_true] at hA
    obtain ⟨a0, a1, a2⟩ := hA
    rw [if_pos rfl]
    dsimp only
    rw [IN.hz 0 (by omega), IN.hz 1 (by omega), IN.hz 2 (by omega), a0, a1, a2, if_pos rfl, if_pos rfl, if_pos rfl]
    exact tog_mix (IN.each 0 (by omega) a0).1 (IN.each 1 (by omega) a1).1 (IN.each 2 (by omega) a2).1
/-! three frames in three orders -/
def fD (d : Value) (x : Nat → Int) (t : Int) (k : Nat) : Fr := ⟨t, (k : Int) + 1, d, FrE x k⟩
theorem fD_rok {x : Nat → Int} (h : errE x = 0) (d : Value) {t : Int} (ht : 0 ≤ t ∧ t < 131072) {k : Nat} (hk : k < 3) : rokP (fD d x t k).t (fD d x t k).k (fD d x t k).l = true := fr_rokP h hk ht
theorem read_of {x : Nat → Int} (h : errE x = 0) (fs : List Fr) (hl : fs.length = 3) (ha : allP (fun j => fs.getD j dFr) = true) (h1 : ofK (fun j => fs.getD j dFr) 3 1 = rvL (FrE x 0) 0) (h2 : ofK (fun j => fs.getD j dFr) 3 2 = rvL (FrE x 1) 1) (h3 : ofK (fun j => fs.getD j dFr) 3 3 = rvL (FrE x 2) 2) : eV (readR fs).1 = eV x ∧ (readR fs).2 = 0 := by
  have l0 : (rvL (FrE x 0) 0).length = 7 := rvL_len _ 0
  have l1 : (rvL (FrE x 1) 1).length = 8 := rvL_len _ 1
  have l2 : (rvL (FrE x 2) 2).length = 8 := rvL_len _ 2
  have q0 : ∀ j, j < 2 → (rvL (FrE x 0) 0).getD j 0 = rvX (FrE x 0) 0 j := fun j hj => rvL_get _ 0 j (by show j < 7; omega)
  have q1 : ∀ j, j < 2 → (rvL (FrE x 1) 1).getD j 0 = rvX (FrE x 1) 1 j := fun j hj => rvL_get _ 1 j (by show j < 8; omega)
  have q2 : ∀ j, j < 2 → (rvL (FrE x 2) 2).getD j 0 = rvX (FrE x 2) 2 j := fun j hj => rvL_get _ 2 j (by show j < 8; omega)
  have hap : apart (rvL (FrE x 0) 0) (rvL (FrE x 1) 1) (rvL (FrE x 2) 2) = false := by
    apply decide_eq_false
    rw [l0, l1, l2, q0 0 (by omega), q0 1 (by omega), q1 0 (by omega), q1 1 (by omega), q2 0 (by omega), q2 1 (by omega), (fr_is h (k := 0) (by omega)).1, (fr_is h (k := 0) (by omega)).2, (fr_is h (k := 1) (by omega)).1, (fr_is h (k := 1) (by omega)).2, (fr_is h (k := 2) (by omega)).1, (fr_is h (k := 2) (by omega)).2]
    simp
  rw [(read_eq fs).1, (read_eq fs).2]
  unfold rrR
  rw [if_pos ⟨hl, ha⟩, h1, h2, h3, hap]
  refine ⟨?_, rfl⟩
  show eV (togE _ _ _) = _
  rw [tog_mix h h h, mix_self]
theorem of_three (a b c : Fr) (m : Nat) : ofK (fun j => [a, b, c].getD j dFr) 3 m = if (m : Int) = c.k then rvL c.l (kdN c.k) else if (m : Int) = b.k then rvL b.l (kdN b.k) else if (m : Int) = a.k then rvL a.l (kdN a.k) else [] := rfl
theorem of_pick {x : Nat → Int} {a b c : Value} {t0 t1 t2 : Int} {k0 k1 k2 : Nat} (m : Nat) (hm : m < 3) (h : m = k2 ∨ (m ≠ k2 ∧ m = k1) ∨ (m ≠ k2 ∧ m ≠ k1 ∧ m = k0)) : ofK (fun j => [fD a x t0 k0, fD b x t1 k1, fD c x t2 k2].getD j dFr) 3 (m + 1) = rvL (FrE x m) m := by
  rw [of_three]
  unfold fD
  dsimp only
  rcases h with rfl | ⟨h1, rfl⟩ | ⟨h1, h2, rfl⟩
  · rw [if_pos (by omega), kd1 hm]
  · rw [if_neg (by omega), if_pos (by omega), kd1 hm]
  · rw [if_neg (by omega), if_neg (by omega), if_pos (by omega), kd1 hm]
theorem read_perm {x : Nat → Int} (h : errE x = 0) (tm : Nat → Int) (ht : ∀ j, j < 3 → 0 ≤ tm j ∧ tm j < 131072) (k : Nat) (hk : k < 3) (a b c : Value) : eV (readR [fD a x (tm k) k, fD b x (tm ((k + 2) % 3)) ((k + 2) % 3), fD c x (tm ((k + 1) % 3)) ((k + 1) % 3)]).1 = eV x ∧ (readR [fD a x (tm k) k, fD b x (tm ((k + 2) % 3)) ((k + 2) % 3), fD c x (tm ((k + 1) % 3)) ((k + 1) % 3)]).2 = 0 := by
  match k, hk with
  | 0, _ =>
    refine read_of h _ rfl ((allP_iff _).2 (fun j hj => ?_)) (of_pick (k0 := 0) (k1 := 2) (k2 := 1) 0 (by omega) (.inr (.inr ⟨by decide, by decide, rfl⟩))) (of_pick (k0 := 0) (k1 := 2) (k2 := 1) 1 (by omega) (.inl rfl)) (of_pick (k0 := 0) (k1 := 2) (k2 := 1) 2 (by omega) (.inr (.inl ⟨by decide, rfl⟩)))
    match j, hj with
    | 0, _ => exact fD_rok h a (ht 0 (by omega)) (k := 0) (by omega)
    | 1, _ => exact fD_rok h b (ht 2 (by omega)) (k := 2) (by omega)
    | 2, _ => exact fD_rok h c (ht 1 (by omega)) (k := 1) (by omega)
  | 1, _ =>
    refine read_of h _ rfl ((allP_iff _).2 (fun j hj => ?_)) (of_pick (k0 := 1) (k1 := 0) (k2 := 2) 0 (by omega) (.inr (.inl ⟨by decide, rfl⟩))) (of_pick (k0 := 1) (k1 := 0) (k2 := 2) 1 (by omega) (.inr (.inr ⟨by decide, by decide, rfl⟩))) (of_pick (k0 := 1) (k1 := 0) (k2 := 2) 2 (by omega) (.inl rfl))
    match j, hj with
    | 0, _ => exact fD_rok h a (ht 1 (by omega)) (k := 1) (by omega)
    | 1, _ => exact fD_rok h b (ht 0 (by omega)) (k := 0) (by omega)
    | 2, _ => exact fD_rok h c (ht 2 (by omega)) (k := 2) (by omega)
  | 2, _ =>
    refine read_of h _ rfl ((allP_iff _).2 (fun j hj => ?_)) (of_pick (k0 := 2) (k1 := 1) (k2 := 0) 0 (by omega) (.inl rfl)) (of_pick (k0 := 2) (k1 := 1) (k2 := 0) 1 (by omega) (.inr (.inl ⟨by decide, rfl⟩))) (of_pick (k0 := 2) (k1 := 1) (k2 := 0) 2 (by omega) (.inr (.inr ⟨by decide, by decide, rfl⟩)))
    match j, hj with
    | 0, _ => exact fD_rok h a (ht 2 (by omega)) (k := 2) (by omega)
    | 1, _ => exact fD_rok h b (ht 1 (by omega)) (k := 1) (by omega)
    | 2, _ => exact fD_rok h c (ht 0 (by omega)) (k := 0) (by omega)
end Go.Proofs.Sky

namespace Go.Proofs.Sky
/-- the number from 0 to k-1 that any number selects -/
def bel (n k : Int) : Int := if k < 1 then 0 else n % k
theorem bel_bd (n k : Int) (h : 1 ≤ k) : 0 ≤ bel n k ∧ bel n k < k := by
  unfold bel; rw [if_neg (by omega)]
  exact ⟨Int.emod_nonneg _ (by omega), Int.emod_lt_of_pos _ (by omega)⟩
def nth (zs : List Int) (i : Int) : Int := if i < 0 ∨ (zs.length : Int) ≤ i then 0 else zs.getD i.toNat 0
theorem tmod_way (n k : Int) (h : 1 ≤ k) : ∃ r, n.tmod k = r ∧ -k < r ∧ r < k ∧ ((r < 0 ∧ n % k = r + k) ∨ (0 ≤ r ∧ n % k = r)) := by
  refine ⟨n.tmod k, rfl, ?_⟩
  have a := Int.emod_nonneg n (show k ≠ 0 by omega)
  have b := Int.emod_lt_of_pos n (show 0 < k by omega)
  by_cases hn : 0 ≤ n
  · rw [Int.tmod_eq_emod_of_nonneg hn]; exact ⟨by omega, by omega, .inr ⟨a, rfl⟩⟩
  · have e : n.tmod k = -((-n) % k) := by
      have := Int.neg_tmod (-n) k; rw [Int.neg_neg] at this; rw [this, Int.tmod_eq_emod_of_nonneg (by omega)]
    have c := Int.emod_nonneg (-n) (show k ≠ 0 by omega)
    have d := Int.emod_lt_of_pos (-n) (show 0 < k by omega)
    have f := Int.mul_ediv_add_emod (-n) k
    have g := Int.mul_ediv_add_emod n k
    rw [e]
    refine ⟨by omega, by omega, ?_⟩
    by_cases hz : (-n) % k = 0
    · right
      refine ⟨by omega, ?_⟩
      have : k ∣ n := by have := Int.dvd_of_emod_eq_zero hz; exact (Int.dvd_neg).1 this
      rw [Int.emod_eq_zero_of_dvd this, hz]; rfl
    · left
      refine ⟨by omega, ?_⟩
      have h1 : n = k * (-((-n) / k) - 1) + (k - (-n) % k) := by rw [Int.mul_sub, Int.mul_neg]; omega
      have h2 : n % k = (k - (-n) % k) % k := by
        conv => lhs; rw [h1]
        rw [Int.add_comm, Int.add_mul_emod_self_left]
      rw [h2, Int.emod_eq_of_lt (by omega) (by omega)]; omega
end Go.Proofs.Sky

namespace Go.Proofs.Sky
open Go Go.RowKit Go.Shelf
set_option maxHeartbeats 4000000
set_option maxRecDepth 8000
theorem Below_any (n k : Int) (w : World) (h : 1 ≤ k) (h2 : k ≤ 4611686018427387904) : Calls Try.prog 27 #[.int .i64 n, .int .i64 k] w fun e w' => e = .returned (.int .i64 (bel n k)) ∧ Bw w w' := by
  obtain ⟨r, t1, r1, r2, ways⟩ := tmod_way n k h
  have hk0 : (k == 0) = false := by simp; omega
  rcases ways with ⟨y1, yR⟩ | ⟨y1, yR⟩
  all_goals
    have HB := Lib.hid (show bel n k = n % k by unfold bel; rw [if_neg (by omega)])
    rw [yR] at HB
    clear yR
    go_enter Try.func27, Try.ntmps27
    go_wp2
    go_ret
    exact ⟨ret_int (by rw [HB.out]), (by repeat (first | exact Bw.refl _ | assumption | refine Bw.alloc ?_ _ | refine Bw.drew ?_ | refine Bw.trans ?_ (by assumption) | refine Bw.setCell ?_ (by simp; try omega) _))⟩
theorem Nth_any (zs : List Int) (v : Value) (i : Int) (w : World) (hv : RdI w v zs) : Calls Try.prog 28 #[v, .int .i64 i] w fun e w' => e = .returned (.int .i64 (nth zs i)) ∧ Bw w w' := by
  obtain ⟨hlen, ad, cap, rfl, hz⟩ := hv
  by_cases h : i < 0 ∨ (zs.length : Int) ≤ i
  · have HN := Lib.hid (show nth zs i = 0 by unfold nth; rw [if_pos h])
    clear hz
    rcases h with h | h
    all_goals
      go_enter Try.func28, Try.ntmps28
      go_wp2
      all_goals (go_ret; exact ⟨ret_int HN.out.symm, (by repeat (first | exact Bw.refl _ | assumption | refine Bw.alloc ?_ _ | refine Bw.drew ?_ | refine Bw.trans ?_ (by assumption) | refine Bw.setCell ?_ (by simp; try omega) _))⟩)
  · have HN := Lib.hid (show nth zs i = zs.getD i.toNat 0 by unfold nth; rw [if_neg h])
    obtain ⟨j, rfl⟩ := Int.eq_ofNat_of_zero_le (show 0 ≤ i by omega)
    obtain ⟨b, off, rfl, hb, hz⟩ := hz.resolve_left (by intro e; subst e; simp at h)
    have hc := hz j (by omega)
    rw [show ((j : Int)).toNat = j by omega] at HN
    have hj : (j : Int) < zs.length := by omega
    clear hz h
    generalize zs.getD j 0 = z at hc HN
    go_enter Try.func28, Try.ntmps28
    go_wp2
    go_ret
    exact ⟨ret_int HN.out.symm, (by repeat (first | exact Bw.refl _ | assumption | refine Bw.alloc ?_ _ | refine Bw.drew ?_ | refine Bw.trans ?_ (by assumption) | refine Bw.setCell ?_ (by simp; try omega) _))⟩
/-! chapter 26: an ephemeris by numbers -/
def sgE (n b : Int) : Int := bel n (2 ^ b.toNat) - 2 ^ (b.toNat - 1)
theorem sgn_ok (n b : Int) (hb : b = 16 ∨ b = 22 ∨ b = 24 ∨ b = 32) : okZ b (sgE n b) = true := by
  unfold okZ sgE
  have h9 := bel_bd n (2 ^ b.toNat) (by rcases hb with rfl | rfl | rfl | rfl <;> decide)
  rcases hb with rfl | rfl | rfl | rfl
  · rw [show (2 : Int) ^ ((16 : Int)).toNat = 65536 from by decide] at h9
    apply decide_eq_true
    rw [show lowR 16 true = -32768 from by decide, show highR 16 true = 32767 from by decide, show (2 : Int) ^ ((16 : Int)).toNat = 65536 from by decide, show (2 : Int) ^ (((16 : Int)).toNat - 1) = 32768 from by decide]
    omega
  · rw [show (2 : Int) ^ ((22 : Int)).toNat = 4194304 from by decide] at h9
    apply decide_eq_true
    rw [show lowR 22 true = -2097152 from by decide, show highR 22 true = 2097151 from by decide, show (2 : Int) ^ ((22 : Int)).toNat = 4194304 from by decide, show (2 : Int) ^ (((22 : Int)).toNat - 1) = 2097152 from by decide]
    omega
  · rw [show (2 : Int) ^ ((24 : Int)).toNat = 16777216 from by decide] at h9
    apply decide_eq_true
    rw [show lowR 24 true = -8388608 from by decide, show highR 24 true = 8388607 from by decide, show (2 : Int) ^ ((24 : Int)).toNat = 16777216 from by decide, show (2 : Int) ^ (((24 : Int)).toNat - 1) = 8388608 from by decide]
    omega
  · rw [show (2 : Int) ^ ((32 : Int)).toNat = 4294967296 from by decide] at h9
    apply decide_eq_true
    rw [show lowR 32 true = -2147483648 from by decide, show highR 32 true = 2147483647 from by decide, show (2 : Int) ^ ((32 : Int)).toNat = 4294967296 from by decide, show (2 : Int) ^ (((32 : Int)).toNat - 1) = 2147483648 from by decide]
    omega
theorem signed_any (n b : Int) (hb : b = 16 ∨ b = 22 ∨ b = 24 ∨ b = 32) (w : World) : Calls Try.prog 45 #[.int .i64 n, .int .i64 b] w fun e w' => e = .returned (.int .i64 (sgE n b)) ∧ Bw w w' := by
  obtain ⟨S, hS⟩ : ∃ S, S = sgE n b := ⟨_, rfl⟩
  rw [← hS]
  rcases hb with rfl | rfl | rfl | rfl
  · have HS := Lib.hid (show bel n 65536 - 32768 = S from by rw [hS]; unfold sgE; rw [show (2 : Int) ^ ((16 : Int)).toNat = 65536 from by decide, show (2 : Int) ^ (((16 : Int)).toNat - 1) = 32768 from by decide])
    clear hS
    have BE := Lib.hid (fun W => Below_any n 65536 W (by decide) (by decide))
    have hbd := bel_bd n 65536 (by decide)
    generalize bel n 65536 = B at *
    go_enter Try.func45, Try.ntmps45
    go_wp2_with (go_at_call 27; (with_reducible refine Calls.mono (BE.out _) ?_); rintro e1 w1 ⟨rfl, hb9⟩)
    go_ret
    exact ⟨ret_int HS.out, hb9⟩
  · have HS := Lib.hid (show bel n 4194304 - 2097152 = S from by rw [hS]; unfold sgE; rw [show (2 : Int) ^ ((22 : Int)).toNat = 4194304 from by decide, show (2 : Int) ^ (((22 : Int)).toNat - 1) = 2097152 from by decide])
    clear hS
    have BE := Lib.hid (fun W => Below_any n 4194304 W (by decide) (by decide))
    have hbd := bel_bd n 4194304 (by decide)
    generalize bel n 4194304 = B at *
    go_enter Try.func45, Try.ntmps45
    go_wp2_with (go_at_call 27; (with_reducible refine Calls.mono (BE.out _) ?_); rintro e1 w1 ⟨rfl, hb9⟩)
    go_ret
    exact ⟨ret_int HS.out, hb9⟩
  · have HS := Lib.hid (show bel n 16777216 - 8388608 = S from by rw [hS]; unfold sgE; rw [show (2 : Int) ^ ((24 : Int)).toNat = 16777216 from by decide, show (2 : Int) ^ (((24 : Int)).toNat - 1) = 8388608 from by decide])
    clear hS
    have BE := Lib.hid (fun W => Below_any n 16777216 W (by decide) (by decide))
    have hbd := bel_bd n 16777216 (by decide)
    generalize bel n 16777216 = B at *
    go_enter Try.func45, Try.ntmps45
    go_wp2_with (go_at_call 27; (with_reducible refine Calls.mono (BE.out _) ?_); rintro e1 w1 ⟨rfl, hb9⟩)
    go_ret
    exact ⟨ret_int HS.out, hb9⟩
  · have HS := Lib.hid (show bel n 4294967296 - 2147483648 = S from by rw [hS]; unfold sgE; rw [show (2 : Int) ^ ((32 : Int)).toNat = 4294967296 from by decide, show (2 : Int) ^ (((32 : Int)).toNat - 1) = 2147483648 from by decide])
    clear hS
    have BE := Lib.hid (fun W => Below_any n 4294967296 W (by decide) (by decide))
    have hbd := bel_bd n 4294967296 (by decide)
    generalize bel n 4294967296 = B at *
    go_enter Try.func45, Try.ntmps45
    go_wp2_with (go_at_call 27; (with_reducible refine Calls.mono (BE.out _) ?_); rintro e1 w1 ⟨rfl, hb9⟩)
    go_ret
    exact ⟨ret_int HS.out, hb9⟩
theorem laxis_any (zs : List Int) (v : Value) (at_ : Int) (w : World) (hv : RdI w v zs) (h0 : 0 ≤ at_) (h1 : at_ ≤ 1000) : Calls Try.prog 46 #[v, .int .i64 at_] w fun e w' => e = .returned (.agg #[.int .i64 (sgE (nth zs at_) 32), .int .i64 (sgE (nth zs (at_ + 1)) 24), .int .i64 (sgE (nth zs (at_ + 2)) 22), .int .i64 (sgE (nth zs (at_ + 3)) 24)]) ∧ Bw w w' := by
  have HV := Lib.hid hv
  obtain ⟨ad, cap, rfl⟩ := hv.form
  clear hv
  have NH := Lib.hid (fun i W hW => Nth_any zs (.slice ad zs.length cap) i W hW)
  have SG32 := Lib.hid (fun n W => signed_any n 32 (by decide) W)
  have SG24 := Lib.hid (fun n W => signed_any n 24 (by decide) W)
  have SG22 := Lib.hid (fun n W => signed_any n 22 (by decide) W)
  have SG16 := Lib.hid (fun n W => signed_any n 16 (by decide) W)
  obtain ⟨S, hS⟩ : ∃ S : Int → Int → Int, S = sgE := ⟨_, rfl⟩
  obtain ⟨N, hN⟩ : ∃ N : List Int → Int → Int, N = nth := ⟨_, rfl⟩
  simp only [← hS, ← hN] at NH SG32 SG24 SG22 SG16 ⊢
  clear hS hN
  obtain ⟨g, hg⟩ : ∃ g, w.heap.size = g := ⟨_, rfl⟩
  have HBW := Lib.hid (Bw.alloc (Bw.refl w) (.cells #[.int .i64 0, .int .i64 0, .int .i64 0, .int .i64 0] 23))
  have KR := Lib.hid (Blk.new w 23 #[.int .i64 0, .int .i64 0, .int .i64 0, .int .i64 0])
  rw [hg] at KR
  go_enter Try.func46, Try.ntmps46
  go_upto_region 1 with fail
  obtain ⟨W0, hW0⟩ : ∃ W0, w.alloc (.cells #[.int .i64 0, .int .i64 0, .int .i64 0, .int .i64 0] 23) = W0 := ⟨_, rfl⟩
  rw [hW0] at HBW KR ⊢
  clear hW0
  go_wp2_with (go_at_call 28; (with_reducible refine Calls.mono (NH.out _ _ (HV.out.mono HBW.out)) ?_); rintro e1 w1 ⟨rfl, hb9⟩; replace HBW := Lib.hid (HBW.out.trans hb9); replace KR := Lib.hid (KR.out.bw hb9); clear hb9)
  refine Calls.mono (SG32.out _ _) ?_
  rintro e1 w1 ⟨rfl, hb9⟩
  replace HBW := Lib.hid (HBW.out.trans hb9)
  replace KR := Lib.hid (KR.out.bw hb9)
  clear hb9
  go_wp2_with (go_at_call 28; (with_reducible refine Calls.mono (NH.out _ _ (HV.out.mono HBW.out)) ?_); rintro e1 w1 ⟨rfl, hb9⟩; replace HBW := Lib.hid (HBW.out.trans hb9); replace KR := Lib.hid (KR.out.bw hb9); clear hb9)
  refine Calls.mono (SG24.out _ _) ?_
  rintro e1 w1 ⟨rfl, hb9⟩
  replace HBW := Lib.hid (HBW.out.trans hb9)
  replace KR := Lib.hid (KR.out.bw hb9)
  clear hb9
  go_wp2_with (go_at_call 28; (with_reducible refine Calls.mono (NH.out _ _ (HV.out.mono HBW.out)) ?_); rintro e1 w1 ⟨rfl, hb9⟩; replace HBW := Lib.hid (HBW.out.trans hb9); replace KR := Lib.hid (KR.out.bw hb9); clear hb9)
  refine Calls.mono (SG22.out _ _) ?_
  rintro e1 w1 ⟨rfl, hb9⟩
  replace HBW := Lib.hid (HBW.out.trans hb9)
  replace KR := Lib.hid (KR.out.bw hb9)
  clear hb9
  go_wp2_with (go_at_call 28; (with_reducible refine Calls.mono (NH.out _ _ (HV.out.mono HBW.out)) ?_); rintro e1 w1 ⟨rfl, hb9⟩; replace HBW := Lib.hid (HBW.out.trans hb9); replace KR := Lib.hid (KR.out.bw hb9); clear hb9)
  refine Calls.mono (SG24.out _ _) ?_
  rintro e1 w1 ⟨rfl, hb9⟩
  replace HBW := Lib.hid (HBW.out.trans hb9)
  replace KR := Lib.hid (KR.out.bw hb9)
  clear hb9
  go_wp2_with ((with_reducible refine at_store 23 (.tmp 4) (.tmp 24) ?_); refine wpList_store_row rfl 23 (.tmp 4) (.tmp 24) rfl g #[.int .i64 (S (N zs at_) 32), .int .i64 (S (N zs (at_ + 1)) 24), .int .i64 (S (N zs (at_ + 2)) 22), .int .i64 (S (N zs (at_ + 3)) 24)] rfl rfl 23 _ KR.out (by kernel_rfl) rfl (by simp [Value.oneCell']) ?_)
  have F9 := KR.out.row #[.int .i64 (S (N zs at_) 32), .int .i64 (S (N zs (at_ + 1)) 24), .int .i64 (S (N zs (at_ + 2)) 22), .int .i64 (S (N zs (at_ + 3)) 24)]
  have B9 := Bw.setRow HBW.out (Nat.le_of_eq hg) #[.int .i64 (S (N zs at_) 32), .int .i64 (S (N zs (at_ + 1)) 24), .int .i64 (S (N zs (at_ + 2)) 22), .int .i64 (S (N zs (at_ + 3)) 24)]
  refine bodyPost_ret (v := .agg #[.int .i64 (S (N zs at_) 32), .int .i64 (S (N zs (at_ + 1)) 24), .int .i64 (S (N zs (at_ + 2)) 22), .int .i64 (S (N zs (at_ + 3)) 24)]) ?_ rfl ⟨rfl, B9⟩
  exact results_cell_row (p := 4) rfl _ _ g _ _ (0, 0) _ rfl F9 Try.underlying23 rfl (by kernel_rfl)
def ofX (zs : List Int) : Nat → Int := fun i => [1 + bel (nth zs 0) 63, bel (nth zs 1) 256, bel (nth zs 2) 604800, bel (nth zs 3) 65536, sgE (nth zs 4) 32, sgE (nth zs 5) 24, sgE (nth zs 6) 16, sgE (nth zs 7) 32, sgE (nth zs 8) 24, sgE (nth zs 9) 22, sgE (nth zs 10) 24, sgE (nth zs 11) 32, sgE (nth zs 12) 24, sgE (nth zs 13) 22, sgE (nth zs 14) 24, sgE (nth zs 15) 32, sgE (nth zs 16) 24, sgE (nth zs 17) 22, sgE (nth zs 18) 24].getD i 0
theorem ofX_ok (zs : List Int) : errE (ofX zs) = 0 := by
  have b0 := bel_bd (nth zs 0) 63 (by decide)
  have b1 := bel_bd (nth zs 1) 256 (by decide)
  have b2 := bel_bd (nth zs 2) 604800 (by decide)
  have b3 := bel_bd (nth zs 3) 65536 (by decide)
  refine errE_yes ?_ (fun i hi => ?_) (fun i hi => ?_)
  · unfold hdE
    show 1 ≤ 1 + bel (nth zs 0) 63 ∧ 1 + bel (nth zs 0) 63 ≤ 63 ∧ 0 ≤ bel (nth zs 1) 256 ∧ bel (nth zs 1) 256 ≤ 255 ∧ 0 ≤ bel (nth zs 2) 604800 ∧ bel (nth zs 2) 604800 ≤ 604799 ∧ 0 ≤ bel (nth zs 3) 65536 ∧ bel (nth zs 3) 65536 ≤ 65535
    omega
  · match i, hi with
    | 0, _ => exact sgn_ok _ 32 (by decide)
    | 1, _ => exact sgn_ok _ 24 (by decide)
    | 2, _ => exact sgn_ok _ 16 (by decide)
  · match i, hi with
    | 0, _ => exact ⟨sgn_ok _ 32 (by decide), sgn_ok _ 32 (by decide), sgn_ok _ 32 (by decide)⟩
    | 1, _ => exact ⟨sgn_ok _ 24 (by decide), sgn_ok _ 24 (by decide), sgn_ok _ 24 (by decide)⟩
    | 2, _ => exact ⟨sgn_ok _ 22 (by decide), sgn_ok _ 22 (by decide), sgn_ok _ 22 (by decide)⟩
    | 3, _ => exact ⟨sgn_ok _ 24 (by decide), sgn_ok _ 24 (by decide), sgn_ok _ 24 (by decide)⟩
theorem of_any (zs : List Int) (v : Value) (w : World) (hv : RdI w v zs) : Calls Try.prog 26 #[v] w fun e w' => e = .returned (.agg (eV (ofX zs))) ∧ Bw w w' := by
  have HV := Lib.hid hv
  obtain ⟨ad, cap, rfl⟩ := hv.form
  clear hv
  have NH := Lib.hid (fun i W hW => Nth_any zs (.slice ad zs.length cap) i W hW)
  have SG32 := Lib.hid (fun n W => signed_any n 32 (by decide) W)
  have SG24 := Lib.hid (fun n W => signed_any n 24 (by decide) W)
  have SG22 := Lib.hid (fun n W => signed_any n 22 (by decide) W)
  have SG16 := Lib.hid (fun n W => signed_any n 16 (by decide) W)
  have A7 : Hid (∀ W, RdI W (.slice ad zs.length cap) zs → Calls Try.prog 46 #[.slice ad zs.length cap, .int .i64 7] W fun e w' => e = .returned (.agg #[.int .i64 (sgE (nth zs 7) 32), .int .i64 (sgE (nth zs 8) 24), .int .i64 (sgE (nth zs 9) 22), .int .i64 (sgE (nth zs 10) 24)]) ∧ Bw W w') := Lib.hid (fun W hW => laxis_any zs (.slice ad zs.length cap) 7 W hW (by decide) (by decide))
  have A11 : Hid (∀ W, RdI W (.slice ad zs.length cap) zs → Calls Try.prog 46 #[.slice ad zs.length cap, .int .i64 11] W fun e w' => e = .returned (.agg #[.int .i64 (sgE (nth zs 11) 32), .int .i64 (sgE (nth zs 12) 24), .int .i64 (sgE (nth zs 13) 22), .int .i64 (sgE (nth zs 14) 24)]) ∧ Bw W w') := Lib.hid (fun W hW => laxis_any zs (.slice ad zs.length cap) 11 W hW (by decide) (by decide))
  have A15 : Hid (∀ W, RdI W (.slice ad zs.length cap) zs → Calls Try.prog 46 #[.slice ad zs.length cap, .int .i64 15] W fun e w' => e = .returned (.agg #[.int .i64 (sgE (nth zs 15) 32), .int .i64 (sgE (nth zs 16) 24), .int .i64 (sgE (nth zs 17) 22), .int .i64 (sgE (nth zs 18) 24)]) ∧ Bw W w') := Lib.hid (fun W hW => laxis_any zs (.slice ad zs.length cap) 15 W hW (by decide) (by decide))
  have BE := Lib.hid (fun n k W h1 h2 => Below_any n k W h1 h2)
  have HBD := Lib.hid (bel_bd (nth zs 0) 63 (by decide))
  obtain ⟨g, hg⟩ : ∃ g, w.heap.size = g := ⟨_, rfl⟩
  have HBW := Lib.hid (Bw.alloc (Bw.refl w) (.cells #[.int .i64 0, .int .i64 0, .int .i64 0, .int .i64 0, .int .i64 0, .int .i64 0, .int .i64 0, .int .i64 0, .int .i64 0, .int .i64 0, .int .i64 0, .int .i64 0, .int .i64 0, .int .i64 0, .int .i64 0, .int .i64 0, .int .i64 0, .int .i64 0, .int .i64 0] 25))
  have KR := Lib.hid (Blk.new w 25 #[.int .i64 0, .int .i64 0, .int .i64 0, .int .i64 0, .int .i64 0, .int .i64 0, .int .i64 0, .int .i64 0, .int .i64 0, .int .i64 0, .int .i64 0, .int .i64 0, .int .i64 0, .int .i64 0, .int .i64 0, .int .i64 0, .int .i64 0, .int .i64 0, .int .i64 0])
  rw [hg] at KR
  go_enter Try.func26, Try.ntmps26
  go_upto_region 1 with fail
  obtain ⟨W0, hW0⟩ : ∃ W0, w.alloc (.cells #[.int .i64 0, .int .i64 0, .int .i64 0, .int .i64 0, .int .i64 0, .int .i64 0, .int .i64 0, .int .i64 0, .int .i64 0, .int .i64 0, .int .i64 0, .int .i64 0, .int .i64 0, .int .i64 0, .int .i64 0, .int .i64 0, .int .i64 0, .int .i64 0, .int .i64 0] 25) = W0 := ⟨_, rfl⟩
  rw [hW0] at HBW KR ⊢
  clear hW0
  have hbd := HBD.out
  go_upto_region 2 with (first | (go_at_call 28; (with_reducible refine Calls.mono (NH.out _ _ (HV.out.mono HBW.out)) ?_); rintro e1 w1 ⟨rfl, hb9⟩; replace HBW := Lib.hid (HBW.out.trans hb9); replace KR := Lib.hid (KR.out.bw hb9); clear hb9) | (go_at_call 27; (with_reducible refine Calls.mono (BE.out _ _ _ ?_ ?_) ?_); (focus decide); (focus decide); rintro e1 w1 ⟨rfl, hb9⟩; replace HBW := Lib.hid (HBW.out.trans hb9); replace KR := Lib.hid (KR.out.bw hb9); clear hb9) | ((with_reducible refine at_store 25 (.tmp 3) (.tmp 17) ?_); have K3 := Lib.hid (Blk.new w1 25 #[.int .i64 0, .int .i64 0, .int .i64 0, .int .i64 0, .int .i64 0, .int .i64 0, .int .i64 0, .int .i64 0, .int .i64 0, .int .i64 0, .int .i64 0, .int .i64 0, .int .i64 0, .int .i64 0, .int .i64 0, .int .i64 0, .int .i64 0, .int .i64 0, .int .i64 0]); refine wpList_store_row rfl 25 (.tmp 3) (.tmp 17) rfl w1.heap.size #[.int .i64 (1 + bel (nth zs 0) 63), .int .i64 (bel (nth zs 1) 256), .int .i64 (bel (nth zs 2) 604800), .int .i64 (bel (nth zs 3) 65536), .int .i64 0, .int .i64 0, .int .i64 0, .int .i64 0, .int .i64 0, .int .i64 0, .int .i64 0, .int .i64 0, .int .i64 0, .int .i64 0, .int .i64 0, .int .i64 0, .int .i64 0, .int .i64 0, .int .i64 0] rfl rfl 25 _ K3.out (by kernel_rfl) rfl (by simp [Value.oneCell']) ?_))
  obtain ⟨g3, hg3⟩ : ∃ g3, w1.heap.size = g3 := ⟨_, rfl⟩
  have H3 := Lib.hid (show w.heap.size ≤ g3 by have := KR.out.lt; omega)
  have H3b := Lib.hid (show g < g3 by have := KR.out.lt; omega)
  have hb9 := Bw.setRow (Bw.alloc (Bw.refl w1) (.cells #[.int .i64 0, .int .i64 0, .int .i64 0, .int .i64 0, .int .i64 0, .int .i64 0, .int .i64 0, .int .i64 0, .int .i64 0, .int .i64 0, .int .i64 0, .int .i64 0, .int .i64 0, .int .i64 0, .int .i64 0, .int .i64 0, .int .i64 0, .int .i64 0, .int .i64 0] 25)) (Nat.le_of_eq hg3) #[.int .i64 (1 + bel (nth zs 0) 63), .int .i64 (bel (nth zs 1) 256), .int .i64 (bel (nth zs 2) 604800), .int .i64 (bel (nth zs 3) 65536), .int .i64 0, .int .i64 0, .int .i64 0, .int .i64 0, .int .i64 0, .int .i64 0, .int .i64 0, .int .i64 0, .int .i64 0, .int .i64 0, .int .i64 0, .int .i64 0, .int .i64 0, .int .i64 0, .int .i64 0]
  replace K3 := Lib.hid (K3.out.row #[.int .i64 (1 + bel (nth zs 0) 63), .int .i64 (bel (nth zs 1) 256), .int .i64 (bel (nth zs 2) 604800), .int .i64 (bel (nth zs 3) 65536), .int .i64 0, .int .i64 0, .int .i64 0, .int .i64 0, .int .i64 0, .int .i64 0, .int .i64 0, .int .i64 0, .int .i64 0, .int .i64 0, .int .i64 0, .int .i64 0, .int .i64 0, .int .i64 0, .int .i64 0])
  rw [hg3] at K3
  obtain ⟨W1, hW1⟩ : ∃ W1, (w1.alloc (.cells #[.int .i64 0, .int .i64 0, .int .i64 0, .int .i64 0, .int .i64 0, .int .i64 0, .int .i64 0, .int .i64 0, .int .i64 0, .int .i64 0, .int .i64 0, .int .i64 0, .int .i64 0, .int .i64 0, .int .i64 0, .int .i64 0, .int .i64 0, .int .i64 0, .int .i64 0] 25)).setRow g3 #[.int .i64 (1 + bel (nth zs 0) 63), .int .i64 (bel (nth zs 1) 256), .int .i64 (bel (nth zs 2) 604800), .int .i64 (bel (nth zs 3) 65536), .int .i64 0, .int .i64 0, .int .i64 0, .int .i64 0, .int .i64 0, .int .i64 0, .int .i64 0, .int .i64 0, .int .i64 0, .int .i64 0, .int .i64 0, .int .i64 0, .int .i64 0, .int .i64 0, .int .i64 0] = W1 := ⟨_, rfl⟩
  rw [hg3]
  rw [hW1] at K3 hb9 ⊢
  clear hW1
  replace HBW := Lib.hid (HBW.out.trans hb9)
  replace KR := Lib.hid (KR.out.bw hb9)
  clear hb9 hg3 hbd
  (try simp only [Act.put])
  go_wp2_with (go_at_call 28; (with_reducible refine Calls.mono (NH.out _ _ (HV.out.mono HBW.out)) ?_); rintro e1 w1 ⟨rfl, hb9⟩; replace HBW := Lib.hid (HBW.out.trans hb9); replace KR := Lib.hid (KR.out.bw hb9); replace K3 := Lib.hid (K3.out.bw hb9); clear hb9)
  refine Calls.mono (SG32.out _ _) ?_
  rintro e1 w1 ⟨rfl, hb9⟩
  replace HBW := Lib.hid (HBW.out.trans hb9)
  replace KR := Lib.hid (KR.out.bw hb9)
  replace K3 := Lib.hid (K3.out.bw hb9)
  clear hb9
  go_wp2_with (go_at_call 28; (with_reducible refine Calls.mono (NH.out _ _ (HV.out.mono HBW.out)) ?_); rintro e1 w1 ⟨rfl, hb9⟩; replace HBW := Lib.hid (HBW.out.trans hb9); replace KR := Lib.hid (KR.out.bw hb9); replace K3 := Lib.hid (K3.out.bw hb9); clear hb9)
  refine Calls.mono (SG24.out _ _) ?_
  rintro e1 w1 ⟨rfl, hb9⟩
  replace HBW := Lib.hid (HBW.out.trans hb9)
  replace KR := Lib.hid (KR.out.bw hb9)
  replace K3 := Lib.hid (K3.out.bw hb9)
  clear hb9
  go_wp2_with (go_at_call 28; (with_reducible refine Calls.mono (NH.out _ _ (HV.out.mono HBW.out)) ?_); rintro e1 w1 ⟨rfl, hb9⟩; replace HBW := Lib.hid (HBW.out.trans hb9); replace KR := Lib.hid (KR.out.bw hb9); replace K3 := Lib.hid (K3.out.bw hb9); clear hb9)
  refine Calls.mono (SG16.out _ _) ?_
  rintro e1 w1 ⟨rfl, hb9⟩
  replace HBW := Lib.hid (HBW.out.trans hb9)
  replace KR := Lib.hid (KR.out.bw hb9)
  replace K3 := Lib.hid (K3.out.bw hb9)
  clear hb9
  go_upto_region 3 with (first | (go_at_call 28; (with_reducible refine Calls.mono (NH.out _ _ (HV.out.mono HBW.out)) ?_); rintro e1 w1 ⟨rfl, hb9⟩; replace HBW := Lib.hid (HBW.out.trans hb9); replace KR := Lib.hid (KR.out.bw hb9); replace K3 := Lib.hid (K3.out.bw hb9); clear hb9) | ((with_reducible refine at_store 22 (.tmp 28) (.tmp 27) ?_); refine wpList_store_at rfl 22 (.tmp 28) (.tmp 27) rfl g3 4 #[.int .i64 (sgE (nth zs 4) 32), .int .i64 (sgE (nth zs 5) 24), .int .i64 (sgE (nth zs 6) 16)] rfl rfl 25 _ K3.out (by kernel_rfl) (by simp) (by simp [Value.oneCell']) ?_; replace HBW := Lib.hid (Bw.setRow HBW.out H3.out #[.int .i64 (1 + bel (nth zs 0) 63), .int .i64 (bel (nth zs 1) 256), .int .i64 (bel (nth zs 2) 604800), .int .i64 (bel (nth zs 3) 65536), .int .i64 (sgE (nth zs 4) 32), .int .i64 (sgE (nth zs 5) 24), .int .i64 (sgE (nth zs 6) 16), .int .i64 0, .int .i64 0, .int .i64 0, .int .i64 0, .int .i64 0, .int .i64 0, .int .i64 0, .int .i64 0, .int .i64 0, .int .i64 0, .int .i64 0, .int .i64 0]); replace KR := Lib.hid (KR.out.row_other (g' := g3) (by have := H3b.out; omega) #[.int .i64 (1 + bel (nth zs 0) 63), .int .i64 (bel (nth zs 1) 256), .int .i64 (bel (nth zs 2) 604800), .int .i64 (bel (nth zs 3) 65536), .int .i64 (sgE (nth zs 4) 32), .int .i64 (sgE (nth zs 5) 24), .int .i64 (sgE (nth zs 6) 16), .int .i64 0, .int .i64 0, .int .i64 0, .int .i64 0, .int .i64 0, .int .i64 0, .int .i64 0, .int .i64 0, .int .i64 0, .int .i64 0, .int .i64 0, .int .i64 0]); replace K3 := Lib.hid (K3.out.row #[.int .i64 (1 + bel (nth zs 0) 63), .int .i64 (bel (nth zs 1) 256), .int .i64 (bel (nth zs 2) 604800), .int .i64 (bel (nth zs 3) 65536), .int .i64 (sgE (nth zs 4) 32), .int .i64 (sgE (nth zs 5) 24), .int .i64 (sgE (nth zs 6) 16), .int .i64 0, .int .i64 0, .int .i64 0, .int .i64 0, .int .i64 0, .int .i64 0, .int .i64 0, .int .i64 0, .int .i64 0, .int .i64 0, .int .i64 0, .int .i64 0]); try simp only [Act.put]))
  (try simp only [Act.put])
  go_wp2_with fail
  refine Calls.mono (A7.out _ (HV.out.mono HBW.out)) ?_
  rintro e1 w1 ⟨rfl, hb9⟩
  replace HBW := Lib.hid (HBW.out.trans hb9)
  replace KR := Lib.hid (KR.out.bw hb9)
  replace K3 := Lib.hid (K3.out.bw hb9)
  clear hb9
  go_wp2_with fail
  refine Calls.mono (A11.out _ (HV.out.mono HBW.out)) ?_
  rintro e1 w1 ⟨rfl, hb9⟩
  replace HBW := Lib.hid (HBW.out.trans hb9)
  replace KR := Lib.hid (KR.out.bw hb9)
  replace K3 := Lib.hid (K3.out.bw hb9)
  clear hb9
  go_wp2_with fail
  refine Calls.mono (A15.out _ (HV.out.mono HBW.out)) ?_
  rintro e1 w1 ⟨rfl, hb9⟩
  replace HBW := Lib.hid (HBW.out.trans hb9)
  replace KR := Lib.hid (KR.out.bw hb9)
  replace K3 := Lib.hid (K3.out.bw hb9)
  clear hb9
  go_wp2_with (first | ((with_reducible refine at_store 23 (.tmp 35) (.tmp 30) ?_); refine wpList_store_at rfl 23 (.tmp 35) (.tmp 30) rfl g3 7 #[.int .i64 (sgE (nth zs 7) 32), .int .i64 (sgE (nth zs 8) 24), .int .i64 (sgE (nth zs 9) 22), .int .i64 (sgE (nth zs 10) 24)] rfl rfl 25 _ K3.out (by kernel_rfl) (by simp) (by simp [Value.oneCell']) ?_; replace HBW := Lib.hid (Bw.setRow HBW.out H3.out #[.int .i64 (1 + bel (nth zs 0) 63), .int .i64 (bel (nth zs 1) 256), .int .i64 (bel (nth zs 2) 604800), .int .i64 (bel (nth zs 3) 65536), .int .i64 (sgE (nth zs 4) 32), .int .i64 (sgE (nth zs 5) 24), .int .i64 (sgE (nth zs 6) 16), .int .i64 (sgE (nth zs 7) 32), .int .i64 (sgE (nth zs 8) 24), .int .i64 (sgE (nth zs 9) 22), .int .i64 (sgE (nth zs 10) 24), .int .i64 0, .int .i64 0, .int .i64 0, .int .i64 0, .int .i64 0, .int .i64 0, .int .i64 0, .int .i64 0]); replace KR := Lib.hid (KR.out.row_other (g' := g3) (by have := H3b.out; omega) #[.int .i64 (1 + bel (nth zs 0) 63), .int .i64 (bel (nth zs 1) 256), .int .i64 (bel (nth zs 2) 604800), .int .i64 (bel (nth zs 3) 65536), .int .i64 (sgE (nth zs 4) 32), .int .i64 (sgE (nth zs 5) 24), .int .i64 (sgE (nth zs 6) 16), .int .i64 (sgE (nth zs 7) 32), .int .i64 (sgE (nth zs 8) 24), .int .i64 (sgE (nth zs 9) 22), .int .i64 (sgE (nth zs 10) 24), .int .i64 0, .int .i64 0, .int .i64 0, .int .i64 0, .int .i64 0, .int .i64 0, .int .i64 0, .int .i64 0]); replace K3 := Lib.hid (K3.out.row #[.int .i64 (1 + bel (nth zs 0) 63), .int .i64 (bel (nth zs 1) 256), .int .i64 (bel (nth zs 2) 604800), .int .i64 (bel (nth zs 3) 65536), .int .i64 (sgE (nth zs 4) 32), .int .i64 (sgE (nth zs 5) 24), .int .i64 (sgE (nth zs 6) 16), .int .i64 (sgE (nth zs 7) 32), .int .i64 (sgE (nth zs 8) 24), .int .i64 (sgE (nth zs 9) 22), .int .i64 (sgE (nth zs 10) 24), .int .i64 0, .int .i64 0, .int .i64 0, .int .i64 0, .int .i64 0, .int .i64 0, .int .i64 0, .int .i64 0]); try simp only [Act.put]) | ((with_reducible refine at_store 23 (.tmp 36) (.tmp 32) ?_); refine wpList_store_at rfl 23 (.tmp 36) (.tmp 32) rfl g3 11 #[.int .i64 (sgE (nth zs 11) 32), .int .i64 (sgE (nth zs 12) 24), .int .i64 (sgE (nth zs 13) 22), .int .i64 (sgE (nth zs 14) 24)] rfl rfl 25 _ K3.out (by kernel_rfl) (by simp) (by simp [Value.oneCell']) ?_; replace HBW := Lib.hid (Bw.setRow HBW.out H3.out #[.int .i64 (1 + bel (nth zs 0) 63), .int .i64 (bel (nth zs 1) 256), .int .i64 (bel (nth zs 2) 604800), .int .i64 (bel (nth zs 3) 65536), .int .i64 (sgE (nth zs 4) 32), .int .i64 (sgE (nth zs 5) 24), .int .i64 (sgE (nth zs 6) 16), .int .i64 (sgE (nth zs 7) 32), .int .i64 (sgE (nth zs 8) 24), .int .i64 (sgE (nth zs 9) 22), .int .i64 (sgE (nth zs 10) 24), .int .i64 (sgE (nth zs 11) 32), .int .i64 (sgE (nth zs 12) 24), .int .i64 (sgE (nth zs 13) 22), .int .i64 (sgE (nth zs 14) 24), .int .i64 0, .int .i64 0, .int .i64 0, .int .i64 0]); replace KR := Lib.hid (KR.out.row_other (g' := g3) (by have := H3b.out; omega) #[.int .i64 (1 + bel (nth zs 0) 63), .int .i64 (bel (nth zs 1) 256), .int .i64 (bel (nth zs 2) 604800), .int .i64 (bel (nth zs 3) 65536), .int .i64 (sgE (nth zs 4) 32), .int .i64 (sgE (nth zs 5) 24), .int .i64 (sgE (nth zs 6) 16), .int .i64 (sgE (nth zs 7) 32), .int .i64 (sgE (nth zs 8) 24), .int .i64 (sgE (nth zs 9) 22), .int .i64 (sgE (nth zs 10) 24), .int .i64 (sgE (nth zs 11) 32), .int .i64 (sgE (nth zs 12) 24), .int .i64 (sgE (nth zs 13) 22), .int .i64 (sgE (nth zs 14) 24), .int .i64 0, .int .i64 0, .int .i64 0, .int .i64 0]); replace K3 := Lib.hid (K3.out.row #[.int .i64 (1 + bel (nth zs 0) 63), .int .i64 (bel (nth zs 1) 256), .int .i64 (bel (nth zs 2) 604800), .int .i64 (bel (nth zs 3) 65536), .int .i64 (sgE (nth zs 4) 32), .int .i64 (sgE (nth zs 5) 24), .int .i64 (sgE (nth zs 6) 16), .int .i64 (sgE (nth zs 7) 32), .int .i64 (sgE (nth zs 8) 24), .int .i64 (sgE (nth zs 9) 22), .int .i64 (sgE (nth zs 10) 24), .int .i64 (sgE (nth zs 11) 32), .int .i64 (sgE (nth zs 12) 24), .int .i64 (sgE (nth zs 13) 22), .int .i64 (sgE (nth zs 14) 24), .int .i64 0, .int .i64 0, .int .i64 0, .int .i64 0]); try simp only [Act.put]) | ((with_reducible refine at_store 23 (.tmp 37) (.tmp 34) ?_); refine wpList_store_at rfl 23 (.tmp 37) (.tmp 34) rfl g3 15 #[.int .i64 (sgE (nth zs 15) 32), .int .i64 (sgE (nth zs 16) 24), .int .i64 (sgE (nth zs 17) 22), .int .i64 (sgE (nth zs 18) 24)] rfl rfl 25 _ K3.out (by kernel_rfl) (by simp) (by simp [Value.oneCell']) ?_; replace HBW := Lib.hid (Bw.setRow HBW.out H3.out #[.int .i64 (1 + bel (nth zs 0) 63), .int .i64 (bel (nth zs 1) 256), .int .i64 (bel (nth zs 2) 604800), .int .i64 (bel (nth zs 3) 65536), .int .i64 (sgE (nth zs 4) 32), .int .i64 (sgE (nth zs 5) 24), .int .i64 (sgE (nth zs 6) 16), .int .i64 (sgE (nth zs 7) 32), .int .i64 (sgE (nth zs 8) 24), .int .i64 (sgE (nth zs 9) 22), .int .i64 (sgE (nth zs 10) 24), .int .i64 (sgE (nth zs 11) 32), .int .i64 (sgE (nth zs 12) 24), .int .i64 (sgE (nth zs 13) 22), .int .i64 (sgE (nth zs 14) 24), .int .i64 (sgE (nth zs 15) 32), .int .i64 (sgE (nth zs 16) 24), .int .i64 (sgE (nth zs 17) 22), .int .i64 (sgE (nth zs 18) 24)]); replace KR := Lib.hid (KR.out.row_other (g' := g3) (by have := H3b.out; omega) #[.int .i64 (1 + bel (nth zs 0) 63), .int .i64 (bel (nth zs 1) 256), .int .i64 (bel (nth zs 2) 604800), .int .i64 (bel (nth zs 3) 65536), .int .i64 (sgE (nth zs 4) 32), .int .i64 (sgE (nth zs 5) 24), .int .i64 (sgE (nth zs 6) 16), .int .i64 (sgE (nth zs 7) 32), .int .i64 (sgE (nth zs 8) 24), .int .i64 (sgE (nth zs 9) 22), .int .i64 (sgE (nth zs 10) 24), .int .i64 (sgE (nth zs 11) 32), .int .i64 (sgE (nth zs 12) 24), .int .i64 (sgE (nth zs 13) 22), .int .i64 (sgE (nth zs 14) 24), .int .i64 (sgE (nth zs 15) 32), .int .i64 (sgE (nth zs 16) 24), .int .i64 (sgE (nth zs 17) 22), .int .i64 (sgE (nth zs 18) 24)]); replace K3 := Lib.hid (K3.out.row #[.int .i64 (1 + bel (nth zs 0) 63), .int .i64 (bel (nth zs 1) 256), .int .i64 (bel (nth zs 2) 604800), .int .i64 (bel (nth zs 3) 65536), .int .i64 (sgE (nth zs 4) 32), .int .i64 (sgE (nth zs 5) 24), .int .i64 (sgE (nth zs 6) 16), .int .i64 (sgE (nth zs 7) 32), .int .i64 (sgE (nth zs 8) 24), .int .i64 (sgE (nth zs 9) 22), .int .i64 (sgE (nth zs 10) 24), .int .i64 (sgE (nth zs 11) 32), .int .i64 (sgE (nth zs 12) 24), .int .i64 (sgE (nth zs 13) 22), .int .i64 (sgE (nth zs 14) 24), .int .i64 (sgE (nth zs 15) 32), .int .i64 (sgE (nth zs 16) 24), .int .i64 (sgE (nth zs 17) 22), .int .i64 (sgE (nth zs 18) 24)]); try simp only [Act.put]) | ((with_reducible refine at_load 25 (.tmp 3) ?_); refine wpList_load_row rfl 25 _ rfl g3 rfl 25 _ (0, 0) _ K3.out Try.underlying25 rfl (by kernel_rfl) ?_) | ((with_reducible refine at_store 25 (.tmp 2) (.tmp 38) ?_); refine wpList_store_row rfl 25 (.tmp 2) (.tmp 38) rfl g #[.int .i64 (1 + bel (nth zs 0) 63), .int .i64 (bel (nth zs 1) 256), .int .i64 (bel (nth zs 2) 604800), .int .i64 (bel (nth zs 3) 65536), .int .i64 (sgE (nth zs 4) 32), .int .i64 (sgE (nth zs 5) 24), .int .i64 (sgE (nth zs 6) 16), .int .i64 (sgE (nth zs 7) 32), .int .i64 (sgE (nth zs 8) 24), .int .i64 (sgE (nth zs 9) 22), .int .i64 (sgE (nth zs 10) 24), .int .i64 (sgE (nth zs 11) 32), .int .i64 (sgE (nth zs 12) 24), .int .i64 (sgE (nth zs 13) 22), .int .i64 (sgE (nth zs 14) 24), .int .i64 (sgE (nth zs 15) 32), .int .i64 (sgE (nth zs 16) 24), .int .i64 (sgE (nth zs 17) 22), .int .i64 (sgE (nth zs 18) 24)] rfl rfl 25 _ KR.out (by kernel_rfl) rfl (by simp [Value.oneCell']) ?_))
  have F9 := KR.out.row #[.int .i64 (1 + bel (nth zs 0) 63), .int .i64 (bel (nth zs 1) 256), .int .i64 (bel (nth zs 2) 604800), .int .i64 (bel (nth zs 3) 65536), .int .i64 (sgE (nth zs 4) 32), .int .i64 (sgE (nth zs 5) 24), .int .i64 (sgE (nth zs 6) 16), .int .i64 (sgE (nth zs 7) 32), .int .i64 (sgE (nth zs 8) 24), .int .i64 (sgE (nth zs 9) 22), .int .i64 (sgE (nth zs 10) 24), .int .i64 (sgE (nth zs 11) 32), .int .i64 (sgE (nth zs 12) 24), .int .i64 (sgE (nth zs 13) 22), .int .i64 (sgE (nth zs 14) 24), .int .i64 (sgE (nth zs 15) 32), .int .i64 (sgE (nth zs 16) 24), .int .i64 (sgE (nth zs 17) 22), .int .i64 (sgE (nth zs 18) 24)]
  have B9 := Bw.setRow HBW.out (Nat.le_of_eq hg) #[.int .i64 (1 + bel (nth zs 0) 63), .int .i64 (bel (nth zs 1) 256), .int .i64 (bel (nth zs 2) 604800), .int .i64 (bel (nth zs 3) 65536), .int .i64 (sgE (nth zs 4) 32), .int .i64 (sgE (nth zs 5) 24), .int .i64 (sgE (nth zs 6) 16), .int .i64 (sgE (nth zs 7) 32), .int .i64 (sgE (nth zs 8) 24), .int .i64 (sgE (nth zs 9) 22), .int .i64 (sgE (nth zs 10) 24), .int .i64 (sgE (nth zs 11) 32), .int .i64 (sgE (nth zs 12) 24), .int .i64 (sgE (nth zs 13) 22), .int .i64 (sgE (nth zs 14) 24), .int .i64 (sgE (nth zs 15) 32), .int .i64 (sgE (nth zs 16) 24), .int .i64 (sgE (nth zs 17) 22), .int .i64 (sgE (nth zs 18) 24)]
  refine bodyPost_ret (v := .agg (eV (ofX zs))) ?_ rfl ⟨rfl, B9⟩
  exact res_eph1 (p := 2) rfl _ _ g (ofX zs) rfl F9
end Go.Proofs.Sky

namespace Go.Proofs.Sky
open Go Go.RowKit Go.Shelf
set_option maxHeartbeats 4000000
set_option maxRecDepth 8000
/-! chapter 26: the reference's right -/
theorem val_rows (zs : List Int) (k : Nat) (hk : k < 3) (v : Value) (w : World) (hv : RdI w v zs) : Calls Try.prog 44 #[v, .int .i64 ((k : Int) + 1)] w fun e w' => (∃ v', e = .returned (.tuple #[v', .bool (rokV zs ((k : Int) + 1))]) ∧ (rokV zs ((k : Int) + 1) = true → RdI w' v' (rvL zs k) ∧ Capd v')) ∧ Bw w w' := by
  have h9 := rval_any zs ((k : Int) + 1) v w hv
  refine Calls.mono h9 ?_
  rintro e w' ⟨⟨v', rfl, h1⟩, hb⟩
  rw [kd1 hk] at h1
  exact ⟨⟨v', rfl, fun h => ⟨(h1 h).1, (h1 h).2.1⟩⟩, hb⟩
theorem rv_cells {zs : List Int} {k : Nat} (hk : k < 3) {w : World} {v : Value} (h : RdI w v (rvL zs k)) : ∃ b o c, v = .slice (some ⟨b, o, none⟩) (rvL zs k).length c ∧ 2 < (rvL zs k).length ∧ w.cell? ⟨b, o, none⟩ = some (.int .i64 (rvX zs k 0)) ∧ w.cell? ⟨b, o + 1, none⟩ = some (.int .i64 (rvX zs k 1)) := by
  have hl : (rvL zs k).length = (LS k).length := by unfold rvL; simp
  have h2 := (ls_len k hk).2.1
  obtain ⟨b, o, c, hv, _, hc⟩ := h.at (by omega)
  refine ⟨b, o, c, hv, by omega, ?_, ?_⟩
  · have h9 := hc 0 (by omega); rw [rvL_get zs k 0 (by omega)] at h9; exact h9
  · have h9 := hc 1 (by omega); rw [rvL_get zs k 1 (by omega)] at h9; exact h9
theorem right26_any (p : Pm) (D : Nat → Value) (w : World) (hD : ∀ j, j < 3 → RdI w (D j) (p.Z j) ∧ Capd (D j)) :
    Calls Try.prog 43 #[.agg (ptV p.h p.is p.pr D)] w fun e w' => e = .returned (.bool (sndP p)) ∧ Bw w w' := by
  have RV := Lib.hid (fun zs k hk v W h1 => val_rows zs k hk v W h1)
  have HD := Lib.hid hD
  clear hD
  have HNO := Lib.hid (fun k hk h9 => sndP_no (p := p) (k := k) hk h9)
  have HEN := Lib.hid (fun h9 => sndP_end (p := p) h9)
  generalize sndP p = S at *
  obtain ⟨h, is, pr, Z⟩ := p
  dsimp only at HD HNO HEN ⊢
  have HBW := Lib.hid (Bw.alloc (Bw.refl w) (.cells (ptV h is pr D) 43))
  have KP := Lib.hid (Blk.new w 43 (ptV h is pr D))
  go_enter Try.func43, Try.ntmps43
  go_upto_region 1 with fail
  obtain ⟨W0, hW0⟩ : ∃ W0, w.alloc (.cells (ptV h is pr D) 43) = W0 := ⟨_, rfl⟩
  rw [hW0] at HBW KP ⊢
  clear hW0
  obtain ⟨g, hg⟩ : ∃ g, w.heap.size = g := ⟨_, rfl⟩
  rw [hg] at KP ⊢
  clear hg
  go_wp2
  go_loopg [3, 4] 3 (fun gg s3 s4 wr => ∃ k : Nat, k ≤ 3 ∧ 3 - k ≤ gg ∧ s4 = .int .i64 k ∧ s3 = .bool (anyU h k) ∧ Hid (Bw W0 wr) ∧ Hid (∀ j, j < k → sndK (h j) is pr (Z j) j = true))
  case atStart => exact ⟨0, by omega, by omega, rfl, rfl, Lib.hid (Bw.refl _), Lib.hid (fun j h9 => absurd h9 (by omega))⟩
  case round =>
    obtain ⟨k, hk, hgg, rfl, rfl, HW, HI⟩ := hrel
    obtain ⟨wa, rfl⟩ : ∃ wa, wa = wr := ⟨_, rfl⟩
    have KQ := Lib.hid (KP.out.bw HW.out)
    have c3 := KQ.out.cell (ptV_is h is pr D)
    have c4 := KQ.out.cell (ptV_pr h is pr D)
    by_cases hlt : k < 3
    · have hkz : (k : Int) < 3 := by omega
      have hk0 : (0 : Int) ≤ k := by omega
      have HNK := Lib.hid (HNO.out k hlt)
      have HIN := Lib.hid (fun h9 : sndK (h k) is pr (Z k) k = true => (fun j (hj : j < k + 1) => (by
        rcases Nat.lt_succ_iff_lt_or_eq.1 hj with h8 | rfl
        · exact HI.out j h8
        · exact h9) : ∀ j, j < k + 1 → sndK (h j) is pr (Z j) j = true))
      have ch := KQ.out.cell (ptV_h h is pr D k hlt)
      have cD := KQ.out.cell (ptV_D h is pr D k hlt)
      have HDK := Lib.hid (And.intro ((HD.out k hlt).1.mono (HBW.out.trans HW.out)) (HD.out k hlt).2)
      obtain ⟨a9, cap9, hv9⟩ := HDK.out.1.form
      rw [hv9] at cD HDK
      have HAU := Lib.hid (show anyU h (k + 1) = (anyU h k || h k) from rfl)
      have hlv := HDK.out.1.1
      have RVK := Lib.hid (RV.out (Z k) k hlt (.slice a9 (Z k).length cap9) wa HDK.out.1)
      obtain ⟨n, hn⟩ : ∃ n, n = (Z k).length := ⟨_, rfl⟩
      rw [← hn] at cD hlv RVK
      have HNN := Lib.hid hn
      clear hn
      cases hhk : h k with
      | false =>
        rw [hhk] at ch
        by_cases hz : n = 0
        · have hzz : ((n : Int) != 0) = false := by simp [hz]
          have HG := Lib.hid (HIN.out (by unfold sndK; rw [hhk]; exact decide_eq_true (by have := HNN.out; omega)))
          have HAK := Lib.hid (show anyU h k = anyU h (k + 1) by rw [HAU.out, hhk, Bool.or_false])
          clear hz
          go_wp2
          go_roundg (3 - (k + 1))
          case measure => omega
          case rel => exact ⟨k + 1, by omega, by omega, by go_num, by rw [← HAK.out], HW, HG.out⟩
        · have hzz : ((n : Int) != 0) = true := by simpa using hz
          have HG := Lib.hid (HNK.out (by unfold sndK; rw [hhk]; exact decide_eq_false (by have := HNN.out; omega)))
          clear hz
          go_wp2
          go_ret
          exact ⟨ret_bool HG.out.symm, HBW.out.trans HW.out⟩
      | true =>
        rw [hhk] at ch
        have HSK : Hid (sndK (h k) is pr (Z k) k = (rokV (Z k) ((k : Int) + 1) && decide (rvX (Z k) k 0 = is ∧ rvX (Z k) k 1 = pr))) := Lib.hid (by unfold sndK; rw [hhk]; rfl)
        have HAK := Lib.hid (show (true : Bool) = anyU h (k + 1) by rw [HAU.out, hhk, Bool.or_true])
        have HRC := Lib.hid (fun W v h9 => rv_cells (zs := Z k) hlt (w := W) (v := v) h9)
        generalize rokV (Z k) ((k : Int) + 1) = R at *
        generalize (rvL (Z k) k) = LV at *
        generalize rvX (Z k) k 0 = y0 at *
        generalize rvX (Z k) k 1 = y1 at *
        go_upto_region 10 with (go_at_call 44; (with_reducible refine Calls.mono RVK.out ?_); rintro e1 w2 ⟨⟨vv, rfl, hrv⟩, hb9⟩; have HRV := Lib.hid hrv; have HB9 := Lib.hid hb9; clear hrv hb9 c3 c4 ch cD)
        replace KQ := Lib.hid (KQ.out.bw HB9.out)
        replace HW := Lib.hid (HW.out.trans HB9.out)
        have c3 := KQ.out.cell (ptV_is h is pr D)
        have c4 := KQ.out.cell (ptV_pr h is pr D)
        have e3 := fun p' : Ext w2 => Ext.cell' c3 p'
        have e4 := fun p' : Ext w2 => Ext.cell' c4 p'
        clear c3 c4
        cases R with
        | false =>
          have HG := Lib.hid (HNK.out (by rw [HSK.out]; rfl))
          (refine wp_region_quiet_ext (by kernel_rfl) (by kernel_rfl) ?_; (repeat (go_big_quiet_step ((fail)))); refine wpQuiet_nil ?_; rintro wq ⟨⟨_, hbq⟩, rfl⟩; obtain ⟨hccq, hffq⟩ := Bw.cells hbq; have hszq := Bw.size hbq)
          replace HW := Lib.hid (HW.out.trans hbq)
          clear e3 e4
          go_wp2
          go_ret
          exact ⟨ret_bool HG.out.symm, HBW.out.trans HW.out⟩
        | true =>
          obtain ⟨bb, oo, cc, hvv, hll, hc0, hc1⟩ := HRC.out _ _ (HRV.out rfl).1
          subst hvv
          obtain ⟨ln, hln⟩ : ∃ ln, ln = LV.length := ⟨_, rfl⟩
          rw [← hln] at hll ⊢
          have hll0 : 0 < ln := by omega
          have hll1 : 1 < ln := by omega
          have hllz0 : (0 : Int) < ln := by omega
          have hllz1 : (1 : Int) < ln := by omega
          have e5 := fun p' : Ext w2 => Ext.cell' hc0 p'
          have e6 := fun p' : Ext w2 => Ext.cell' hc1 p'
          clear hc0 hc1 hln
          by_cases q1 : y0 = is
          · have q1b : (y0 != is) = false := by simpa using q1
            by_cases q2 : y1 = pr
            · have q2b : (y1 != pr) = false := by simpa using q2
              have HG := Lib.hid (HIN.out (by rw [HSK.out, Bool.true_and]; exact decide_eq_true ⟨q1, q2⟩))
              clear q1 q2
              (refine wp_region_quiet_ext (by kernel_rfl) (by kernel_rfl) ?_; (repeat (go_big_quiet_step ((fail)))); refine wpQuiet_nil ?_; rintro wq ⟨⟨_, hbq⟩, rfl⟩; obtain ⟨hccq, hffq⟩ := Bw.cells hbq; have hszq := Bw.size hbq)
              replace HW := Lib.hid (HW.out.trans hbq)
              clear e3 e4 e5 e6
              go_wp2
              go_roundg (3 - (k + 1))
              case measure => omega
              case rel => exact ⟨k + 1, by omega, by omega, by go_num, by rw [← HAK.out], HW, HG.out⟩
            · have q2b : (y1 != pr) = true := by simpa using q2
              have HG := Lib.hid (HNK.out (by rw [HSK.out, Bool.true_and]; exact decide_eq_false (fun h9 => q2 h9.2)))
              clear q1 q2
              (refine wp_region_quiet_ext (by kernel_rfl) (by kernel_rfl) ?_; (repeat (go_big_quiet_step ((fail)))); refine wpQuiet_nil ?_; rintro wq ⟨⟨_, hbq⟩, rfl⟩; obtain ⟨hccq, hffq⟩ := Bw.cells hbq; have hszq := Bw.size hbq)
              replace HW := Lib.hid (HW.out.trans hbq)
              clear e3 e4 e5 e6
              go_wp2
              go_ret
              exact ⟨ret_bool HG.out.symm, HBW.out.trans HW.out⟩
          · have q1b : (y0 != is) = true := by simpa using q1
            have HG := Lib.hid (HNK.out (by rw [HSK.out, Bool.true_and]; exact decide_eq_false (fun h9 => q1 h9.1)))
            clear q1
            (refine wp_region_quiet_ext (by kernel_rfl) (by kernel_rfl) ?_; (repeat (go_big_quiet_step ((fail)))); refine wpQuiet_nil ?_; rintro wq ⟨⟨_, hbq⟩, rfl⟩; obtain ⟨hccq, hffq⟩ := Bw.cells hbq; have hszq := Bw.size hbq)
            replace HW := Lib.hid (HW.out.trans hbq)
            clear e3 e4 e5 e6
            go_wp2
            go_ret
            exact ⟨ret_bool HG.out.symm, HBW.out.trans HW.out⟩
    · obtain rfl : k = 3 := by omega
      have hkz : ¬ ((3 : Nat) : Int) < 3 := by omega
      have HG0 := Lib.hid (HEN.out HI.out)
      replace HBW := Lib.hid (HBW.out.trans HW.out)
      cases hau : anyU h 3 with
      | true =>
        have HG := Lib.hid (HG0.out.trans (by rw [hau]; rfl : _ = true))
        go_wp2
        go_ret
        exact ⟨ret_bool HG.out.symm, HBW.out⟩
      | false =>
        rw [hau, Bool.false_or] at HG0
        by_cases q1 : is = 0
        · have q1b : (is == 0) = true := by simpa using q1
          have HG := Lib.hid (HG0.out.trans (dec_and q1))
          clear q1
          go_wp2
          go_ret
          exact ⟨ret_bool HG.out.symm, HBW.out⟩
        · have q1b : (is == 0) = false := by simpa using q1
          have HG := Lib.hid (HG0.out.trans (show decide (is = 0 ∧ pr = 0) = false from decide_eq_false (fun h9 => q1 h9.1)))
          clear q1
          go_wp2
          go_ret
          exact ⟨ret_bool HG.out.symm, HBW.out⟩
end Go.Proofs.Sky
