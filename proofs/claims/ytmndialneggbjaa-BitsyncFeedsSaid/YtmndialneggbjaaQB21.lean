/-
  lemmas for the theorems of this claim. No conditions beyond those written in the statements.
-/
import Derived.Test.YtmndialneggbjaaPB21
set_option linter.unusedVariables false
set_option linter.unusedSimpArgs false
set_option linter.unnecessarySimpa false
namespace Go.Proofs.Sky
/-! chapter 21, plain: turned and multiplied sums -/
theorem feedL_map (g : Int × Int → Int × Int) (hg : ∀ a b, scl (g a) (g b) < 0 ↔ scl a b < 0) (l : List (Int × Int)) : ∀ (ch : List Int) (seen : Int) (la : Int × Int), (∀ a ∈ l, insP a = true ∧ insP (g a) = true) → seen + l.length ≤ 1000000 →
    feedL ch seen (g la) (l.map g) = (((feedL ch seen la l).1.1, (feedL ch seen la l).1.2.1, g (feedL ch seen la l).1.2.2), 0) := by
  induction l with
  | nil => intro ch seen la _ _; rfl
  | cons a r ih =>
    intro ch seen la h1 h2
    simp only [List.length_cons] at h2
    have ha := addE_in (seen := seen) (h1 a (by simp)).1 (by omega)
    have hb := addE_in (seen := seen) (h1 a (by simp)).2 (by omega)
    simp only [List.map_cons, feedL, if_pos ha, if_pos hb]
    have hc : chN ch seen (g la) (g a) = chN ch seen la a := by
      unfold chN
      by_cases h : 0 < seen ∧ scl la a < 0
      · rw [if_pos h, if_pos ⟨h.1, (hg _ _).2 h.2⟩]
      · rw [if_neg h, if_neg (fun h' => h ⟨h'.1, (hg _ _).1 h'.2⟩)]
    rw [hc]
    exact ih _ _ _ (fun x hx => h1 x (by simp [hx])) (by omega)
theorem sumP_map (g : Int × Int → Int × Int) (h0 : g (0, 0) = (0, 0)) (hl : ∀ a b, g (a.1 + b.1, a.2 + b.2) = ((g a).1 + (g b).1, (g a).2 + (g b).2)) (l : List (Int × Int)) : sumP (l.map g) = g (sumP l) := by
  induction l with
  | nil => simp only [List.map_nil, sumP]; exact h0.symm
  | cons a r ih => simp only [List.map_cons, sumP, ih]; exact (hl a (sumP r)).symm
theorem valsL_map (g : Int × Int → Int × Int) (h0 : g (0, 0) = (0, 0)) (hl : ∀ a b, g (a.1 + b.1, a.2 + b.2) = ((g a).1 + (g b).1, (g a).2 + (g b).2)) (l : List (Int × Int)) (p t : Nat) : valsL (l.map g) p t = (valsL l p t).map g := by
  unfold valsL
  rw [List.length_map, List.map_map]
  apply List.map_congr_left
  intro j _
  simp only [Function.comp, bitV]
  rw [← List.map_drop, ← List.map_take, sumP_map g h0 hl]
theorem getD_map0 (g : Int × Int → Int × Int) (h0 : g (0, 0) = (0, 0)) (v : List (Int × Int)) (j : Nat) : (v.map g).getD j (0, 0) = g (v.getD j (0, 0)) := by
  rw [List.getD_eq_getElem?_getD, List.getD_eq_getElem?_getD, List.getElem?_map]
  cases v[j]? <;> simp [h0]
theorem bitAt_map (g : Int × Int → Int × Int) (h0 : g (0, 0) = (0, 0)) (hg : ∀ a b, scl (g a) (g b) < 0 ↔ scl a b < 0) (v : List (Int × Int)) (j : Nat) : bitAt (v.map g) j = bitAt v j := by
  induction j with
  | zero => rfl
  | succ j ih =>
    simp only [bitAt, getD_map0 g h0, ih]
    by_cases h : scl (v.getD j (0, 0)) (v.getD (j + 1) (0, 0)) < 0
    · rw [if_pos h, if_pos ((hg _ _).2 h)]
    · rw [if_neg h, if_neg (fun h' => h ((hg _ _).1 h'))]
theorem bitsL_map (g : Int × Int → Int × Int) (h0 : g (0, 0) = (0, 0)) (hg : ∀ a b, scl (g a) (g b) < 0 ↔ scl a b < 0) (v : List (Int × Int)) : bitsL (v.map g) = bitsL v := by
  unfold bitsL
  rw [List.length_map]
  exact List.map_congr_left (fun j _ => bitAt_map g h0 hg v j)
theorem valR_in (l : List (Int × Int)) (p t : Nat) (h1 : 1 ≤ p) (h2 : p ≤ 20) (h3 : t < p) (hl : l.length ≤ 10000) (hin : ∀ a ∈ l, insP a = true) : valR l p t = (valsL l p t, if l.length < t + p then 16 else 0) := by
  have hz : valsL l p t = [] ↔ l.length < t + p := by
    unfold valsL
    rw [List.map_eq_nil_iff, List.range_eq_nil, Nat.div_eq_zero_iff]
    omega
  unfold valR
  rw [if_neg (by omega), if_neg (by omega), if_neg (by rw [List.all_eq_true.2 hin]; simp)]
  simp only [Int.toNat_natCast]
  by_cases h : valsL l p t = []
  · rw [if_pos h, if_pos (hz.1 h), h]
  · rw [if_neg h, if_neg (fun h' => h (hz.2 h'))]
theorem readR_map (g : Int × Int → Int × Int) (h0 : g (0, 0) = (0, 0)) (hl : ∀ a b, g (a.1 + b.1, a.2 + b.2) = ((g a).1 + (g b).1, (g a).2 + (g b).2)) (hg : ∀ a b, scl (g a) (g b) < 0 ↔ scl a b < 0)
    (l : List (Int × Int)) (p t : Nat) (h1 : 1 ≤ p) (h2 : p ≤ 20) (h3 : t < p) (hlen : l.length ≤ 10000) (hin : ∀ a ∈ l, insP a = true ∧ insP (g a) = true) : readR (l.map g) p t = readR l p t := by
  unfold readR
  rw [valR_in l p t h1 h2 h3 hlen (fun a ha => (hin a ha).1), valR_in (l.map g) p t h1 h2 h3 (by rw [List.length_map]; exact hlen) (fun a ha => by
    obtain ⟨x, hx, rfl⟩ := List.mem_map.1 ha
    exact (hin x hx).2), valsL_map g h0 hl, bitsL_map g h0 hg, List.length_map]
def gT (a : Int × Int) : Int × Int := (-a.2, a.1)
def gM (F : Int) (a : Int × Int) : Int × Int := (-F * a.1, -F * a.2)
theorem gT_scl (a b : Int × Int) : scl (gT a) (gT b) < 0 ↔ scl a b < 0 := by
  have : scl (gT a) (gT b) = scl a b := by unfold scl gT; simp only [Int.neg_mul_neg]; omega
  rw [this]
theorem gM_scl (F : Int) (hF : 1 ≤ F) (a b : Int × Int) : scl (gM F a) (gM F b) < 0 ↔ scl a b < 0 := by
  have : scl (gM F a) (gM F b) = F * (F * scl a b) := by
    unfold scl gM
    simp only [Int.neg_mul, Int.mul_neg, Int.neg_neg, Int.mul_add]
    rw [show F * a.1 * (F * b.1) = F * (F * (a.1 * b.1)) by rw [Int.mul_assoc, Int.mul_left_comm a.1 F b.1], show F * a.2 * (F * b.2) = F * (F * (a.2 * b.2)) by rw [Int.mul_assoc, Int.mul_left_comm a.2 F b.2]]
  rw [this]
  generalize scl a b = s
  constructor
  · intro h
    apply Int.lt_of_not_ge
    intro h9
    have := Int.mul_nonneg (show 0 ≤ F by omega) (Int.mul_nonneg (show 0 ≤ F by omega) h9)
    omega
  · intro h
    have h1 := Int.mul_neg_of_pos_of_neg (show 0 < F by omega) h
    exact Int.mul_neg_of_pos_of_neg (show 0 < F by omega) h1
theorem turned_plain (n : Nat) (t : Nat) (F : Int) (h1 : 1 ≤ n) (h2 : n ≤ 20) (ht : t < n) (hF : 1 ≤ F) (hF2 : F ≤ 9) (A : List (Int × Int)) (hA : ∀ a ∈ A, -100 ≤ a.1 ∧ a.1 ≤ 100 ∧ -100 ≤ a.2 ∧ a.2 ≤ 100) (la : A.length ≤ 60) :
    ∃ c x1 y1 x2 y2 x3 y3 bl er, feedR (List.replicate n 0) 0 (0, 0) A = ((c, (A.length : Int), (x1, y1)), 0) ∧ feedR (List.replicate n 0) 0 (0, 0) (A.map gT) = ((c, (A.length : Int), (x2, y2)), 0) ∧
      feedR (List.replicate n 0) 0 (0, 0) (A.map (gM F)) = ((c, (A.length : Int), (x3, y3)), 0) ∧ readR A n t = (bl, er) ∧ readR (A.map gT) n t = (bl, er) ∧ readR (A.map (gM F)) n t = (bl, er) ∧ ((er = 16 ∧ (A.length : Int) < t + n) ∨ (er = 0 ∧ ¬ (A.length : Int) < t + n)) := by
  have hin : ∀ a ∈ A, insP a = true := fun a ha => by have := hA a ha; rw [insP_iff]; omega
  have hinT : ∀ a ∈ A, insP a = true ∧ insP (gT a) = true := fun a ha => ⟨hin a ha, by have := hA a ha; rw [insP_iff]; unfold gT; simp only; omega⟩
  have hinM : ∀ a ∈ A, insP a = true ∧ insP (gM F a) = true := fun a ha => ⟨hin a ha, by
    have hb := hA a ha
    have hq : ∀ u : Int, -100 ≤ u → u ≤ 100 → -900 ≤ -F * u ∧ -F * u ≤ 900 := fun u u1 u2 => by
      have p1 := Int.mul_nonneg (show 0 ≤ F by omega) (show 0 ≤ u + 100 by omega)
      have p2 := Int.mul_nonneg (show 0 ≤ F by omega) (show 0 ≤ 100 - u by omega)
      rw [Int.mul_add] at p1
      rw [Int.mul_sub] at p2
      rw [Int.neg_mul]
      omega
    have q1 := hq a.1 (by omega) (by omega)
    have q2 := hq a.2 (by omega) (by omega)
    rw [insP_iff]; unfold gM; simp only; omega⟩
  have e0 := errS_new n h1 h2
  obtain ⟨p1, p2, p3, p4⟩ := feedL_ok A (List.replicate n 0) 0 (0, 0) hin (by omega) e0
  have fT := feedL_map gT gT_scl A (List.replicate n 0) 0 (0, 0) hinT (by omega)
  have fM := feedL_map (gM F) (gM_scl F hF) A (List.replicate n 0) 0 (0, 0) hinM (by omega)
  rw [show gT (0, 0) = (0, 0) from rfl, p2] at fT
  rw [show gM F (0, 0) = (0, 0) by unfold gM; simp, p2] at fM
  have hz : (0 : Int) + (A.length : Int) = A.length := by omega
  rw [hz] at fT fM p2
  refine ⟨(feedL (List.replicate n 0) 0 (0, 0) A).1.1, (feedL (List.replicate n 0) 0 (0, 0) A).1.2.2.1, (feedL (List.replicate n 0) 0 (0, 0) A).1.2.2.2, _, _, _, _, (readR A n t).1, (readR A n t).2, ?_, by rw [feedR_ok e0 (by rw [List.length_map]; omega), fT], by rw [feedR_ok e0 (by rw [List.length_map]; omega), fM], rfl, ?_, ?_, ?_⟩
  · rw [feedR_ok e0 (by omega)]
    refine Prod.ext (Prod.ext rfl (Prod.ext ?_ rfl)) p1
    exact p2
  · exact readR_map gT rfl (fun a b => by unfold gT; simp only; ext <;> simp only <;> omega) gT_scl A n t h1 h2 ht (by omega) hinT
  · exact readR_map (gM F) (by unfold gM; simp) (fun a b => by unfold gM; simp only [Int.mul_add]) (gM_scl F hF) A n t h1 h2 ht (by omega) hinM
  · unfold readR
    rw [valR_in A n t h1 h2 ht (by omega) hin]
    simp only
    by_cases h : A.length < t + n
    · rw [if_pos h]; exact .inl ⟨rfl, by omega⟩
    · rw [if_neg h]; exact .inr ⟨rfl, by omega⟩
end Go.Proofs.Sky
