/-
  lemmas for the theorems of this claim. No conditions beyond those written in the statements.
-/
import Derived.Test.YtdaplhjkccfmgaaFF30
set_option linter.unusedVariables false
set_option linter.unusedSimpArgs false
set_option linter.unnecessarySimpa false
namespace Go.Proofs.Sky
open Go Go.RowKit Go.Shelf
/-- a store into the second cell of an element of a row of pairs -/
theorem RdS.put {w : World} {b off n cap : Nat} {ps : List (Int × Int)} (h : RdS w (.slice (some ⟨b, off, none⟩) n cap) ps) {i : Nat} (hi : i < ps.length) (z : Int) : RdS (w.setCell ⟨b, off + i * 2 + 1, none⟩ (.int .i64 z)) (.slice (some ⟨b, off, none⟩) n cap) (ps.set i ((ps.getD i (0, 0)).1, z)) := by
  obtain ⟨h2, a, c, h3, h4⟩ := h
  injection h3 with x1 x2 x3
  subst x1 x2 x3
  refine ⟨by simpa using h2, _, _, by rw [List.length_set], .inr ?_⟩
  rcases h4 with h4 | ⟨b', off', h5, h6, h7⟩
  · subst h4; simp at hi
  · injection h5 with h5; injection h5 with h5 h5'; subst h5 h5'
    refine ⟨b, off, rfl, by simpa using h6, fun j hj => ?_⟩
    rw [List.length_set] at hj
    have ⟨c1, c2⟩ := h7 j hj
    have hg : (ps.set i ((ps.getD i (0, 0)).1, z)).getD j (0, 0) = if i = j then ((ps.getD i (0, 0)).1, z) else ps.getD j (0, 0) := by
      rw [List.getD_eq_getElem?_getD, List.getElem?_set]
      by_cases hij : i = j
      · rw [if_pos hij, if_pos hij, if_pos hi]; rfl
      · rw [if_neg hij, if_neg hij, ← List.getD_eq_getElem?_getD]
    rw [hg]
    by_cases hij : i = j
    · subst hij
      rw [if_pos rfl]
      refine ⟨?_, cell_set_same _ _ _ _ c2⟩
      rw [cell_set_off _ _ _ _ _ (by omega)]; exact c1
    · rw [if_neg hij, cell_set_off _ _ _ _ _ (by omega), cell_set_off _ _ _ _ _ (by omega)]
      exact ⟨c1, c2⟩
theorem flat_put (ps : List (Int × Int)) (i : Nat) (hi : i < ps.length) (z : Int) : (flat ps).set (i * 2 + 1) (.int .i64 z) = flat (ps.set i ((ps.getD i (0, 0)).1, z)) := by
  induction ps generalizing i with
  | nil => simp at hi
  | cons p ps ih =>
    cases i with
    | zero => simp [flat_cons]
    | succ i =>
      rw [show (i + 1) * 2 + 1 = (i * 2 + 1) + 1 + 1 by omega, flat_cons]
      simp only [List.set_cons_succ]
      rw [ih i (by simpa using hi), flat_cons]
      simp
def bumpL (J : Int) (a i : Nat) (ms : List (Int × Int)) : List (Int × Int) := (List.range ms.length).map fun j => if a ≤ j ∧ j < i then bumpM J (ms.getD j (0, 0)) else ms.getD j (0, 0)
theorem bumpL_len (J : Int) (a i : Nat) (ms : List (Int × Int)) : (bumpL J a i ms).length = ms.length := by simp [bumpL]
theorem bumpL_at (J : Int) (a i : Nat) (ms : List (Int × Int)) (j : Nat) (hj : j < ms.length) : (bumpL J a i ms).getD j (0, 0) = if a ≤ j ∧ j < i then bumpM J (ms.getD j (0, 0)) else ms.getD j (0, 0) := getD_map_range _ _ _ _ hj
theorem bumpL_start (J : Int) (a : Nat) (ms : List (Int × Int)) : bumpL J a a ms = ms := by
  apply List.ext_getElem?
  intro j
  by_cases hj : j < ms.length
  · have h := bumpL_at J a a ms j hj
    rw [if_neg (by omega), List.getD_eq_getElem?_getD, List.getD_eq_getElem?_getD, List.getElem?_eq_getElem hj, List.getElem?_eq_getElem (by rw [bumpL_len]; exact hj)] at h
    rw [List.getElem?_eq_getElem hj, List.getElem?_eq_getElem (by rw [bumpL_len]; exact hj)]
    simpa using h
  · rw [List.getElem?_eq_none (by rw [bumpL_len]; omega), List.getElem?_eq_none (by omega)]
theorem ext_getD {α : Type} (d : α) (l m : List α) (hl : l.length = m.length) (h : ∀ j, j < l.length → l.getD j d = m.getD j d) : l = m := by
  apply List.ext_getElem hl
  intro j h1 h2
  have := h j h1
  rw [List.getD_eq_getElem?_getD, List.getD_eq_getElem?_getD, List.getElem?_eq_getElem h1, List.getElem?_eq_getElem h2] at this
  simpa using this
theorem bumpL_step (J : Int) (a i : Nat) (ms : List (Int × Int)) (ha : a ≤ i) (hi : i < ms.length) : (bumpL J a i ms).set i ((ms.getD i (0, 0)).1, (ms.getD i (0, 0)).2 + J) = bumpL J a (i + 1) ms := by
  apply ext_getD (0, 0) _ _ (by rw [List.length_set, bumpL_len, bumpL_len])
  intro j hj
  rw [List.length_set, bumpL_len] at hj
  rw [bumpL_at _ _ _ _ _ hj, List.getD_eq_getElem?_getD, List.getElem?_set]
  by_cases hij : i = j
  · subst hij
    rw [if_pos rfl, if_pos (by rw [bumpL_len]; exact hi), if_pos (by omega)]; rfl
  · rw [if_neg hij, ← List.getD_eq_getElem?_getD, bumpL_at _ _ _ _ _ hj]
    by_cases h : a ≤ j ∧ j < i
    · rw [if_pos h, if_pos (by omega)]
    · rw [if_neg h, if_neg (by omega)]
theorem bumpL_end (J : Int) (a : Nat) (ms : List (Int × Int)) (ha : a < ms.length) : bumpL J a ms.length ms = ms.take a ++ (ms.getD a (0, 0) :: ms.drop (a + 1)).map (bumpM J) := by
  have e : ms.getD a (0, 0) :: ms.drop (a + 1) = ms.drop a := by
    rw [List.getD_eq_getElem?_getD, List.getElem?_eq_getElem ha]; exact (List.drop_eq_getElem_cons ha).symm
  rw [e]
  apply ext_getD (0, 0) _ _ (by rw [bumpL_len, List.length_append, List.length_take, List.length_map, List.length_drop]; omega)
  intro j hj
  rw [bumpL_len] at hj
  rw [bumpL_at _ _ _ _ _ hj]
  by_cases h : a ≤ j
  · rw [if_pos ⟨h, hj⟩, List.getD_eq_getElem?_getD, List.getD_eq_getElem?_getD, List.getElem?_append_right (by rw [List.length_take]; omega), List.length_take, List.getElem?_map, List.getElem?_drop, show a + (j - min a ms.length) = j by omega, List.getElem?_eq_getElem hj]; rfl
  · rw [if_neg (by omega), List.getD_eq_getElem?_getD, List.getD_eq_getElem?_getD, List.getElem?_append_left (by rw [List.length_take]; omega), List.getElem?_take, if_pos (by omega)]
theorem slips_final (zs : List Int) (e g W J : Int) (he : 0 ≤ e) (he2 : e ≤ 10000) (hg : 0 ≤ g) (hg2 : g ≤ 100) (hW : 1 ≤ W) (hW2 : W ≤ 100) (hJ : 2 * e + 2 * g + 2 * (e + g) < J ∨ J < -(2 * e + 2 * g + 2 * (e + g))) (hJ2 : -1000000 ≤ J ∧ J ≤ 1000000) (k a : Nat) (hk : k ≤ 40) (ha : 0 < a) (hak : a < k) :
    ∃ rs, replR W (2 * e + 2 * g) (bumpL J a k (scMs zs e g 5000 k)) = (rs, [(a : Int)], 0) ∧ rs.length = k ∧ rs.getD a (0, 0) = (((scMs zs e g 5000 k).getD a (0, 0)).1, 1) := by
  have hlen := scMs_len zs e g 5000 k
  have hd : ∀ m ∈ scMs zs e g 5000 k, -5000 - (e + g) ≤ m.1 - m.2 ∧ m.1 - m.2 ≤ -5000 + (e + g) := fun m hm => by
    obtain ⟨j, _, rfl⟩ := scMs_mem hm
    have := scM_bd zs e g 5000 j he hg
    omega
  have ho : ∀ m ∈ bumpL J a k (scMs zs e g 5000 k), okM m = true := fun m hm => by
    unfold bumpL at hm
    obtain ⟨j, hj, rfl⟩ := List.mem_map.1 hm
    rw [List.mem_range, hlen] at hj
    rw [show (scMs zs e g 5000 k).getD j (0, 0) = scM zs e g 5000 j from getD_map_range _ k j _ hj]
    have h1 := scM_bd zs e g 5000 j he hg
    have h2 := scA_bd zs (j + 1)
    rw [okM_iff]
    split
    · unfold bumpM; simp only; omega
    · omega
  have hrun := replR_run (W := W) (L := 2 * e + 2 * g) (ps := bumpL J a k (scMs zs e g 5000 k)) ⟨hW, hW2, by omega, by omega⟩ (by rw [bumpL_len, hlen]; omega) ho
  have hend := bumpL_end J a (scMs zs e g 5000 k) (by omega)
  rw [hlen] at hend
  have hpl : ((scMs zs e g 5000 k).take a).length = a := by rw [List.length_take]; omega
  have hsplit : scMs zs e g 5000 k = (scMs zs e g 5000 k).take a ++ (scMs zs e g 5000 k).getD a (0, 0) :: (scMs zs e g 5000 k).drop (a + 1) := by
    rw [List.getD_eq_getElem?_getD, List.getElem?_eq_getElem (by omega)]
    conv => lhs; rw [← List.take_append_drop a (scMs zs e g 5000 k)]
    congr 1
    exact List.drop_eq_getElem_cons (by omega)
  obtain ⟨s1, s2⟩ := slips_plain W (2 * e + 2 * g) (e + g) (-5000) J hW (by omega) (by omega) hJ ((scMs zs e g 5000 k).take a) ((scMs zs e g 5000 k).drop (a + 1)) ((scMs zs e g 5000 k).getD a (0, 0)) (by omega) (by rw [← hsplit]; exact hd)
  rw [hpl, ← hend] at s1 s2
  refine ⟨_, hrun.trans (by rw [s1]), by rw [resL_len, bumpL_len, hlen], s2⟩
end Go.Proofs.Sky
