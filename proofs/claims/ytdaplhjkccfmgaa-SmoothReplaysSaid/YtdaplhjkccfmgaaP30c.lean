/-
  lemmas for the theorems of this claim. No conditions beyond those written in the statements.
-/
import Derived.Test.YtdaplhjkccfmgaaP30b
import Derived.Test.YtdaplhjkccfmgaaKit
set_option linter.unusedVariables false
set_option linter.unusedSimpArgs false
set_option linter.unnecessarySimpa false
namespace Go.Proofs.Sky
/-! chapter 30, plain: the laws -/
def scA (zs : List Int) : Nat → Int
  | 0 => 20000000
  | k + 1 => scA zs k + bel (zs.getD (3 * k) 0) 2001 - 1000
def scM (zs : List Int) (e g c : Int) (j : Nat) : Int × Int := (scA zs (j + 1) + bel (zs.getD (3 * j + 1) 0) (2 * e + 1) - e, scA zs (j + 1) + c + bel (zs.getD (3 * j + 2) 0) (2 * g + 1) - g)
def scK (zs : List Int) : Nat := min 40 (zs.length / 3)
def scMs (zs : List Int) (e g c : Int) (k : Nat) : List (Int × Int) := (List.range k).map (scM zs e g c)
def scTs (zs : List Int) (k : Nat) : List Int := (List.range k).map fun j => scA zs (j + 1)
theorem scMs_succ (zs : List Int) (e g c : Int) (k : Nat) : scMs zs e g c (k + 1) = scMs zs e g c k ++ [scM zs e g c k] := by simp [scMs, List.range_succ]
theorem scTs_succ (zs : List Int) (k : Nat) : scTs zs (k + 1) = scTs zs k ++ [scA zs (k + 1)] := by simp [scTs, List.range_succ]
theorem scA_bd (zs : List Int) (k : Nat) : 20000000 - 1000 * (k : Int) ≤ scA zs k ∧ scA zs k ≤ 20000000 + 1000 * (k : Int) := by
  induction k with
  | zero => simp [scA]
  | succ k ih =>
    have := bel_bd (zs.getD (3 * k) 0) 2001 (by omega)
    simp only [scA]; omega
theorem scM_bd (zs : List Int) (e g c : Int) (j : Nat) (he : 0 ≤ e) (hg : 0 ≤ g) :
    (-e ≤ (scM zs e g c j).1 - scA zs (j + 1) ∧ (scM zs e g c j).1 - scA zs (j + 1) ≤ e) ∧ (-g ≤ (scM zs e g c j).2 - scA zs (j + 1) - c ∧ (scM zs e g c j).2 - scA zs (j + 1) - c ≤ g) := by
  have h1 := bel_bd (zs.getD (3 * j + 1) 0) (2 * e + 1) (by omega)
  have h2 := bel_bd (zs.getD (3 * j + 2) 0) (2 * g + 1) (by omega)
  unfold scM; simp only; omega
theorem getD_map_range {α : Type} (f : Nat → α) (k j : Nat) (d : α) (h : j < k) : ((List.range k).map f).getD j d = f j := by
  rw [List.getD_eq_getElem?_getD]; simp [h]
theorem scMs_len (zs : List Int) (e g c : Int) (k : Nat) : (scMs zs e g c k).length = k := by simp [scMs]
theorem scMs_mem {zs : List Int} {e g c : Int} {k : Nat} {m : Int × Int} (h : m ∈ scMs zs e g c k) : ∃ j, j < k ∧ m = scM zs e g c j := by
  simp only [scMs, List.mem_map, List.mem_range] at h
  obtain ⟨j, hj, rfl⟩ := h
  exact ⟨j, hj, rfl⟩
theorem replR_run {W L : Int} {ps : List (Int × Int)} (h : wl W L) (hl : ps.length ≤ 10000) (ha : ∀ m ∈ ps, okM m = true) : replR W L ps = (resL W L [] ps, slL W L [] 0 ps, 0) := by
  unfold replR
  have ho : okL W L = true := by unfold okL; simpa [wl] using h
  rw [ho, if_neg (by simp), if_neg (by omega), if_pos (List.all_eq_true.2 ha), runS_lists]
/-- smoothed ranges are near the true ones, and nothing is reported -/
theorem bounds_plain (zs : List Int) (e g c W : Int) (he : 0 ≤ e) (he2 : e ≤ 10000) (hg : 0 ≤ g) (hg2 : g ≤ 100) (hc : -1000000 ≤ c) (hc2 : c ≤ 1000000) (hW : 1 ≤ W) (hW2 : W ≤ 100) (k : Nat) (hk : k ≤ 40) :
    ∃ rs, replR W (2 * e + 2 * g) (scMs zs e g c k) = (rs, [], 0) ∧ rs.length = k ∧ ∀ j, j < k → 1 ≤ (rs.getD j (0, 0)).2 ∧ (rs.getD j (0, 0)).2 ≤ W ∧ (rs.getD j (0, 0)).1 - (scTs zs k).getD j 0 * (rs.getD j (0, 0)).2 ≤ (e + 2 * g) * (rs.getD j (0, 0)).2 ∧ -((rs.getD j (0, 0)).1 - (scTs zs k).getD j 0 * (rs.getD j (0, 0)).2) ≤ (e + 2 * g) * (rs.getD j (0, 0)).2 := by
  have hd : ∀ m ∈ scMs zs e g c k, -c - (e + g) ≤ m.1 - m.2 ∧ m.1 - m.2 ≤ -c + (e + g) := fun m hm => by
    obtain ⟨j, _, rfl⟩ := scMs_mem hm
    have := scM_bd zs e g c j he hg
    omega
  have ho : ∀ m ∈ scMs zs e g c k, okM m = true := fun m hm => by
    obtain ⟨j, hj, rfl⟩ := scMs_mem hm
    have h1 := scM_bd zs e g c j he hg
    have h2 := scA_bd zs (j + 1)
    rw [okM_iff]; omega
  obtain ⟨s1, _, _, _, s5⟩ := steady (W := W) (L := 2 * e + 2 * g) (c := -c) (B := e + g) hW (by omega) (scMs zs e g c k) [] 0 (by intro x hx; cases hx) (by simp; omega) hd
  refine ⟨_, replR_run ⟨hW, hW2, by omega, by omega⟩ (by rw [scMs_len]; omega) ho |>.trans (by rw [s1]), by rw [resL_len, scMs_len], fun j hj => ?_⟩
  obtain ⟨r1, r2, r3, r4⟩ := s5 j (by rw [scMs_len]; exact hj)
  have em : (scMs zs e g c k).getD j (0, 0) = scM zs e g c j := getD_map_range _ k j _ hj
  have et : (scTs zs k).getD j 0 = scA zs (j + 1) := getD_map_range _ k j _ hj
  rw [em] at r3 r4
  rw [et]
  have hb := (scM_bd zs e g c j he hg).2
  generalize (resL W (2 * e + 2 * g) [] (scMs zs e g c k)).getD j (0, 0) = r at r1 r2 r3 r4 ⊢
  obtain ⟨x, y⟩ := r
  simp only at r1 r2 r3 r4 ⊢
  have a1 := mul_le_r ((scM zs e g c j).2 + (-c + (e + g))) (scA zs (j + 1) + (e + 2 * g)) y (by omega) (by omega)
  have a2 := mul_le_r (scA zs (j + 1) - (e + 2 * g)) ((scM zs e g c j).2 + (-c - (e + g))) y (by omega) (by omega)
  rw [Int.add_mul (scA zs (j + 1)) (e + 2 * g) y] at a1
  rw [Int.sub_mul (scA zs (j + 1)) (e + 2 * g) y] at a2
  refine ⟨r1, r2, by omega, by omega⟩
/-- a change of the phases' constant is reported where it is, and nowhere else -/
theorem slL_head (W L : Int) (ds : List Int) (k : Nat) (m : Int × Int) (ps : List (Int × Int)) : slL W L ds k (m :: ps) = (if slipD L ds (m.1 - m.2) then [(k : Int)] else []) ++ slL W L (nextD W L ds (m.1 - m.2)) (k + 1) ps := rfl
theorem resL_head (W L : Int) (ds : List Int) (m : Int × Int) (ps : List (Int × Int)) : resL W L ds (m :: ps) = (m.2 * (nextD W L ds (m.1 - m.2)).length + sumI (nextD W L ds (m.1 - m.2)), ((nextD W L ds (m.1 - m.2)).length : Int)) :: resL W L (nextD W L ds (m.1 - m.2)) ps := rfl
def bumpM (J : Int) (m : Int × Int) : Int × Int := (m.1, m.2 + J)
theorem slips_plain (W L B c J : Int) (hW : 1 ≤ W) (hB : 0 ≤ B) (hL : 2 * B ≤ L) (hJ : L + 2 * B < J ∨ J < -(L + 2 * B)) (pre post : List (Int × Int)) (m : Int × Int) (hpre : 0 < pre.length)
    (hd : ∀ x ∈ pre ++ m :: post, c - B ≤ x.1 - x.2 ∧ x.1 - x.2 ≤ c + B) :
    slL W L [] 0 (pre ++ (m :: post).map (bumpM J)) = [(pre.length : Int)] ∧ (resL W L [] (pre ++ (m :: post).map (bumpM J))).getD pre.length (0, 0) = (m.1, 1) := by
  obtain ⟨s1, s2, s3, s4, _⟩ := steady (W := W) (L := L) (c := c) (B := B) hW hL pre [] 0 (by intro x hx; cases hx) (by simp; omega) (fun x hx => hd x (by simp [hx]))
  have hn := s4 hpre
  have hm := hd m (by simp)
  generalize hds : endL W L [] pre = ds at s2 s3 hn
  have ⟨t1, t2⟩ := sumI_near ds c B s2
  have hnn : (1 : Int) ≤ ds.length := by omega
  have hslip : slipD L ds (m.1 - (m.2 + J)) = true := by
    unfold slipD
    rw [decide_eq_true_iff]
    have e1 : (m.1 - (m.2 + J)) = (m.1 - m.2) - J := by omega
    rw [e1]
    have a0 := mul_le_r (m.1 - m.2) (c + B) ds.length hm.2 (by omega)
    have a1 := mul_le_r (c - B) (m.1 - m.2) ds.length hm.1 (by omega)
    have e2 : (c + B) * (ds.length : Int) = (c - B) * ds.length + 2 * B * ds.length := by rw [← Int.add_mul]; congr 1; omega
    rw [Int.sub_mul]
    rcases hJ with h | h
    · right
      have a2 := mul_le_r (L + 2 * B + 1) J ds.length (by omega) (by omega)
      have e3 : (L + 2 * B + 1) * (ds.length : Int) = L * ds.length + 2 * B * ds.length + ds.length := by rw [Int.add_mul, Int.add_mul]; simp
      omega
    · left
      have a2 := mul_le_r (L + 2 * B + 1) (-J) ds.length (by omega) (by omega)
      have e3 : (L + 2 * B + 1) * (ds.length : Int) = L * ds.length + 2 * B * ds.length + ds.length := by rw [Int.add_mul, Int.add_mul]; simp
      rw [Int.neg_mul] at a2
      omega
  have hnx : nextD W L ds (m.1 - (m.2 + J)) = [m.1 - (m.2 + J)] := by unfold nextD; rw [if_pos hslip]
  obtain ⟨u1, _⟩ := steady (W := W) (L := L) (c := c - J) (B := B) hW hL (post.map (bumpM J)) [m.1 - (m.2 + J)] (0 + pre.length + 1) (fun x hx => by simp at hx; subst hx; omega) (by simp; omega) (fun x hx => by
    obtain ⟨y, hy, rfl⟩ := List.mem_map.1 hx
    have := hd y (by simp [hy])
    unfold bumpM; simp only; omega)
  have hs2 : slipD L ds ((bumpM J m).1 - (bumpM J m).2) = true := hslip
  have hn2 : nextD W L ds ((bumpM J m).1 - (bumpM J m).2) = [m.1 - (m.2 + J)] := hnx
  constructor
  · rw [slL_append, s1, hds, List.map_cons, slL_head, hn2, if_pos hs2, u1]; simp
  · rw [resL_append, List.getD_eq_getElem?_getD, List.getElem?_append_right (by rw [resL_len]; omega), resL_len, hds, List.map_cons, resL_head, hn2]
    simp [sumI, bumpM]; omega
/-- shifts -/
theorem sumI_shift (ds : List Int) (δ : Int) : sumI (ds.map (· + δ)) = sumI ds + δ * ds.length := by
  induction ds with
  | nil => simp [sumI]
  | cons x l ih => simp only [List.map_cons, sumI, ih, List.length_cons, Int.natCast_add, Int.mul_add]; simp; omega
theorem slipD_shift (L : Int) (ds : List Int) (d δ : Int) : slipD L (ds.map (· + δ)) (d + δ) = slipD L ds d := by
  unfold slipD
  rw [sumI_shift, List.length_map, Int.add_mul]
  have e : d * (ds.length : Int) + δ * ds.length - (sumI ds + δ * ds.length) = d * ds.length - sumI ds := by omega
  rw [e]
theorem nextD_shift (W L : Int) (ds : List Int) (d δ : Int) : nextD W L (ds.map (· + δ)) (d + δ) = (nextD W L ds d).map (· + δ) := by
  unfold nextD pushD
  rw [slipD_shift, List.length_map]
  split
  · rfl
  · split
    · simp [List.map_tail]
    · simp
def shiftM (a b : Int) (m : Int × Int) : Int × Int := (m.1 + a, m.2 + b)
theorem shift_plain (W L a b : Int) (ps : List (Int × Int)) : ∀ (ds : List Int) (k : Nat), slL W L (ds.map (· + (a - b))) k (ps.map (shiftM a b)) = slL W L ds k ps ∧ resL W L (ds.map (· + (a - b))) (ps.map (shiftM a b)) = (resL W L ds ps).map (fun r => (r.1 + a * r.2, r.2)) := by
  induction ps with
  | nil => intro ds k; exact ⟨rfl, rfl⟩
  | cons m ps ih =>
    intro ds k
    have e : (shiftM a b m).1 - (shiftM a b m).2 = (m.1 - m.2) + (a - b) := by unfold shiftM; simp only; omega
    rw [List.map_cons, slL_head, slL_head, resL_head, resL_head, e, slipD_shift, nextD_shift]
    obtain ⟨i1, i2⟩ := ih (nextD W L ds (m.1 - m.2)) (k + 1)
    rw [i1, i2]
    refine ⟨rfl, ?_⟩
    rw [List.map_cons, sumI_shift, List.length_map]
    congr 1
    have : (shiftM a b m).2 = m.2 + b := rfl
    rw [this]
    generalize (nextD W L ds (m.1 - m.2)).length = n
    generalize sumI (nextD W L ds (m.1 - m.2)) = s
    simp only [Prod.mk.injEq, and_true]
    rw [Int.add_mul, Int.sub_mul]; omega
end Go.Proofs.Sky
