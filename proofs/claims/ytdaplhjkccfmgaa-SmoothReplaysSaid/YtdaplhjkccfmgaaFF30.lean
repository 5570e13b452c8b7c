/-
  lemmas for the theorems of this claim. No conditions beyond those written in the statements.
-/
import Derived.Test.YtdaplhjkccfmgaaDD30
set_option linter.unusedVariables false
set_option linter.unusedSimpArgs false
set_option linter.unnecessarySimpa false
namespace Go.Proofs.Sky
open Go Go.RowKit Go.Shelf
theorem resL_bd {W L : Int} (hW : 1 ≤ W) (hW2 : W ≤ 100) (ps : List (Int × Int)) : ∀ ds, okD W ds → (∀ m ∈ ps, okM m = true) → ∀ r ∈ resL W L ds ps, (-4000000000000000 ≤ r.1 ∧ r.1 ≤ 4000000000000000) ∧ 1 ≤ r.2 ∧ r.2 ≤ W := by
  induction ps with
  | nil => intro ds _ _ r hr; cases hr
  | cons m ps ih =>
    intro ds hd hm r hr
    obtain ⟨⟨m1, m2⟩, m3, m4⟩ := (okM_iff m).1 (hm m (by simp))
    have hn : okD W (nextD W L ds (m.1 - m.2)) := okD_next hW hd (by omega) (by omega)
    rw [resL_head] at hr
    rcases List.mem_cons.1 hr with rfl | hr
    · have hl := nextD_len W L ds (m.1 - m.2) hW hd.1
      have ⟨s1, s2⟩ := sumI_bd (nextD W L ds (m.1 - m.2)) 20000000000000 (by omega) hn.2
      have ⟨y1, y2⟩ := mul_bd2 m.2 ((nextD W L ds (m.1 - m.2)).length : Int) 10000000000000 100 (by omega) (by omega) (by omega) (by omega) (by omega)
      refine ⟨⟨?_, ?_⟩, ?_, ?_⟩ <;> simp only <;> omega
    · exact ih _ hn (fun m hm' => hm m (by simp [hm'])) r hr
def shP (m : Int × Int) : Int × Int := (bel m.1 1000000001, bel m.2 1000000001)
theorem shP_bd (m : Int × Int) : (0 ≤ (shP m).1 ∧ (shP m).1 ≤ 1000000000) ∧ 0 ≤ (shP m).2 ∧ (shP m).2 ≤ 1000000000 := by
  have h1 := bel_bd m.1 1000000001 (by omega)
  have h2 := bel_bd m.2 1000000001 (by omega)
  unfold shP; simp only; omega
theorem shifts_plain (W L a b : Int) (hW : 1 ≤ W) (hW2 : W ≤ 100) (hL : 0 ≤ L) (hL2 : L ≤ 1000000000) (ha : -1000000000 ≤ a) (ha2 : a ≤ 1000000000) (hb : -1000000000 ≤ b) (hb2 : b ≤ 1000000000) (ps : List (Int × Int)) (hl : ps.length ≤ 100) :
    ∃ rs sl, replR W L (ps.map shP) = (rs, sl, 0) ∧ replR W L ((ps.map shP).map (shiftM a b)) = (rs.map (fun r => (r.1 + a * r.2, r.2)), sl, 0) ∧ rs.length = ps.length ∧ ∀ r ∈ rs, (-4000000000000000 ≤ r.1 ∧ r.1 ≤ 4000000000000000) ∧ 1 ≤ r.2 ∧ r.2 ≤ W := by
  have o1 : ∀ m ∈ ps.map shP, okM m = true := fun m hm => by
    obtain ⟨x, _, rfl⟩ := List.mem_map.1 hm
    have := shP_bd x
    rw [okM_iff]; omega
  have o2 : ∀ m ∈ (ps.map shP).map (shiftM a b), okM m = true := fun m hm => by
    obtain ⟨y, hy, rfl⟩ := List.mem_map.1 hm
    obtain ⟨x, _, rfl⟩ := List.mem_map.1 hy
    have := shP_bd x
    rw [okM_iff]; unfold shiftM; simp only; omega
  have hwl : wl W L := ⟨hW, hW2, hL, hL2⟩
  have ⟨s1, s2⟩ := shift_plain W L a b (ps.map shP) [] 0
  refine ⟨_, _, replR_run hwl (by simp; omega) o1, (replR_run hwl (by simp; omega) o2).trans ?_, by rw [resL_len, List.length_map], resL_bd hW hW2 _ _ (okD_nil hW) o1⟩
  simp only [List.map_nil] at s1 s2
  rw [s1, s2]
end Go.Proofs.Sky
