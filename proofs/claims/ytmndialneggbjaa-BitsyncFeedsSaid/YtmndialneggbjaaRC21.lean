/-
  lemmas for the theorems of this claim. No conditions beyond those written in the statements.
-/
import Derived.Test.YtmndialneggbjaaQC21
import Derived.Test.YtmndialneggbjaaRB21
set_option linter.unusedVariables false
set_option linter.unusedSimpArgs false
set_option linter.unnecessarySimpa false
namespace Go.Proofs.Sky
open Go Go.RowKit Go.Shelf
def mx2 (x y : Int) : Int := if y > x then y else x
def mx4 (x y z u : Int) : Int := mx2 (mx2 (mx2 x y) z) u
theorem run_mx2 {P : Program} {w : World} (ts : Array TypeId) (t : TypeId) (k k' : IntKind) (x y : Int) : (Builtin.max_ ts t #[.int k x, .int k' y]).run P w = .ok (.int k (mx2 x y)) w := run_max_int2 w ts t k k' x y
theorem run_mx4 {P : Program} {w : World} (ts : Array TypeId) (t : TypeId) (k k' k'' k3 : IntKind) (x y z u : Int) : (Builtin.max_ ts t #[.int k x, .int k' y, .int k'' z, .int k3 u]).run P w = .ok (.int k (mx4 x y z u)) w := by
  simp [Builtin.max_, Builtin.max2, go_sem, mx4, mx2]
theorem mx2_abs (x : Int) : 0 ≤ mx2 x (-x) ∧ -mx2 x (-x) ≤ x ∧ x ≤ mx2 x (-x) ∧ (mx2 x (-x) = x ∨ mx2 x (-x) = -x) := by unfold mx2; split <;> omega
theorem mx4_abs (I Q : Int) : 0 ≤ mx4 I (-I) Q (-Q) ∧ (-mx4 I (-I) Q (-Q) ≤ I ∧ I ≤ mx4 I (-I) Q (-Q)) ∧ (-mx4 I (-I) Q (-Q) ≤ Q ∧ Q ≤ mx4 I (-I) Q (-Q)) ∧ (I = mx4 I (-I) Q (-Q) ∨ I = -mx4 I (-I) Q (-Q) ∨ Q = mx4 I (-I) Q (-Q) ∨ Q = -mx4 I (-I) Q (-Q)) := by
  unfold mx4 mx2
  split <;> split <;> split <;> omega
def errX (R : Int) (es : List Int) (k : Nat) : Int := if k < es.length then bel (es.getD k 0) (2 * R + 1) - R else 0
def lefts (R : Int) (es : List Int) (k : Nat) : Int := R - mx2 (bel (es.getD k 0) (2 * R + 1) - R) (-(bel (es.getD k 0) (2 * R + 1) - R))
def errY (R : Int) (es : List Int) (k : Nat) : Int := if k < es.length then bel (wrap64 ((es.getD k 0).tdiv 7)) (2 * lefts R es k + 1) - lefts R es k else 0
def sumK (I Q R : Int) (zs es : List Int) (p t k : Nat) : Int × Int := ((1 - 2 * allB zs p t k) * I + errX R es k, (1 - 2 * allB zs p t k) * Q + errY R es k)
theorem sumK_near (I Q R : Int) (zs es : List Int) (p t k : Nat) (hR : 0 ≤ R) : Near (1 - 2 * allB zs p t k) I Q R (sumK I Q R zs es p t k) := by
  by_cases h : k < es.length
  · have hx := bel_bd (es.getD k 0) (2 * R + 1) (by omega)
    have hm := mx2_abs (bel (es.getD k 0) (2 * R + 1) - R)
    have hl : 0 ≤ lefts R es k ∧ mx2 (bel (es.getD k 0) (2 * R + 1) - R) (-(bel (es.getD k 0) (2 * R + 1) - R)) + lefts R es k = R := by unfold lefts; omega
    have hy := bel_bd (wrap64 ((es.getD k 0).tdiv 7)) (2 * lefts R es k + 1) (by omega)
    refine ⟨mx2 (bel (es.getD k 0) (2 * R + 1) - R) (-(bel (es.getD k 0) (2 * R + 1) - R)), lefts R es k, hm.1, hl.1, by omega, ?_, ?_, ?_, ?_⟩ <;> unfold sumK errX errY <;> simp only <;> rw [if_pos h] <;> omega
  · refine ⟨0, 0, by omega, by omega, by omega, ?_, ?_, ?_, ?_⟩ <;> unfold sumK errX errY <;> simp only <;> rw [if_neg h] <;> omega
theorem near_in {s I Q R : Int} {v : Int × Int} (h : Near s I Q R v) (hs : s = 1 ∨ s = -1) (hI : -1000 ≤ I ∧ I ≤ 1000) (hQ : -1000 ≤ Q ∧ Q ≤ 1000) (hR : R ≤ 1000) : insP v = true := by
  obtain ⟨ax, ay, h1, h2, h3, h4, h5, h6, h7⟩ := h
  rw [insP_iff]
  rcases hs with rfl | rfl <;> omega
theorem right_plain (zs es : List Int) (p t nb : Nat) (hp : 1 ≤ p) (hp2 : p ≤ 8) (ht : t < p) (hnb : 1 ≤ nb) (hnb2 : nb ≤ 12) (I Q : Int) (hI : -1000 ≤ I ∧ I ≤ 1000) (hQ : -1000 ≤ Q ∧ Q ≤ 1000) (hne : ¬ (I = 0 ∧ Q = 0)) (R : Int) (hR : R = mx4 I (-I) Q (-Q) / 4) :
    ∃ x1 y1, feedR (List.replicate p 0) 0 (0, 0) ((List.range (t + p * nb)).map (sumK I Q R zs es p t)) = (((List.replicate p (0 : Int)).set t ((cntA (allB zs p t) (t + p * nb) : Nat) : Int), ((t + p * nb : Nat) : Int), (x1, y1)), 0) ∧
      edgeR ((List.replicate p (0 : Int)).set t ((cntA (allB zs p t) (t + p * nb) : Nat) : Int)) ((t + p * nb : Nat) : Int) (x1, y1) 1 = (if 0 < cntA (allB zs p t) (t + p * nb) then ((t : Int), 0) else (0, 18)) ∧
      readR ((List.range (t + p * nb)).map (sumK I Q R zs es p t)) p t = ((List.range nb).map (fun j => (bt zs j + bt zs 0) % 2), 0) ∧ t + p * nb ≤ 110 ∧ p ≤ t + p * nb := by
  have hm := mx4_abs I Q
  generalize mx4 I (-I) Q (-Q) = M at *
  have hM : 1 ≤ M := by omega
  have hM2 : M ≤ 1000 := by omega
  have hR4 : 4 * R ≤ M := by omega
  have hR0 : 0 ≤ R := by omega
  have hN : t + p * nb ≤ 110 := by
    have := Nat.mul_le_mul hp2 hnb2; omega
  have hpn1 : p ≤ p * nb := Nat.le_mul_of_pos_right p (by omega)
  have hs : ∀ k, (1 - 2 * allB zs p t k = 1 ∨ 1 - 2 * allB zs p t k = -1) := fun k => by have := allB_01 zs p t k; omega
  have hnear := fun k => sumK_near I Q R zs es p t k hR0
  have hin : ∀ k, insP (sumK I Q R zs es p t k) = true := fun k => near_in (hnear k) (hs k) hI hQ (by omega)
  have hsc : ∀ k, 1 ≤ k → k < t + p * nb → (scl (sumK I Q R zs es p t (k - 1)) (sumK I Q R zs es p t k) < 0 ↔ allB zs p t (k - 1) ≠ allB zs p t k) := fun k _ _ => by
    rw [near_scl (hnear (k - 1)) (hnear k) (hs _) (hs _) hM hR4 hm.2.1 hm.2.2.1 hm.2.2.2]
    constructor
    · intro h h9; apply h; rw [h9]
    · intro h h9; apply h; omega
  have hf := feed_right p t hp (by omega) ht (allB zs p t) (sumK I Q R zs es p t) (t + p * nb) (by omega) (fun k _ => hin k) hsc (fun k h1 _ h => allB_jump zs p t hp ht k h1 h) (t + p * nb) (Nat.le_refl _)
  rw [if_neg (by omega)] at hf
  obtain ⟨V, hv⟩ : ∃ V, V = sumK I Q R zs es p t (t + p * nb - 1) := ⟨_, rfl⟩
  obtain ⟨x1, y1⟩ := V
  rw [← hv] at hf
  refine ⟨x1, y1, ?_, ?_, ?_, hN, by omega⟩
  · rw [feedR_ok (errS_new p hp (by omega)) (by simp; omega)]; exact hf
  · exact (edge_right p t hp (by omega) ht _ _ (cntA_le _ _) (by omega) (x1, y1) (by rw [hv]; exact hin _) (fun h => by omega)).2
  · exact read_right zs p t nb hp (by omega) ht hnb (by omega) I Q R M hM hR4 hm.2.1 hm.2.2.1 hm.2.2.2 _ (fun k _ => hin k) (fun k _ => hnear k)
end Go.Proofs.Sky
