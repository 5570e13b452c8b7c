/-
  lemmas for the theorems of this claim. No conditions beyond those written in the statements.
-/
import Derived.Test.YtdaplhjkccfmgaaPlainA
import Derived.Test.YtdaplhjkccfmgaaP30
set_option linter.unusedVariables false
set_option linter.unusedSimpArgs false
set_option linter.unnecessarySimpa false
namespace Go.Proofs.Sky
/-! chapter 30, plain: rings and steps -/
def sumI : List Int → Int
  | [] => 0
  | x :: l => x + sumI l
theorem sumI_append (a b : List Int) : sumI (a ++ b) = sumI a + sumI b := by
  induction a with
  | nil => simp [sumI]
  | cons x a ih => simp [sumI, ih]; omega
theorem sumI_take (l : List Int) (k : Nat) (h : k < l.length) : sumI (l.take (k + 1)) = sumI (l.take k) + l.getD k 0 := by
  rw [List.take_add_one, sumI_append, List.getD_eq_getElem?_getD, List.getElem?_eq_getElem h]; simp [sumI]
theorem sumI_bd (l : List Int) (B : Int) (hB : 0 ≤ B) (h : ∀ x ∈ l, -B ≤ x ∧ x ≤ B) : -(B * l.length) ≤ sumI l ∧ sumI l ≤ B * l.length := by
  induction l with
  | nil => simp [sumI]
  | cons x l ih =>
    have h1 := h x (by simp)
    have h2 := ih (fun y hy => h y (by simp [hy]))
    have e : B * ((x :: l).length : Int) = B * l.length + B := by rw [List.length_cons]; rw [Int.natCast_add, Int.mul_add]; simp
    simp only [sumI]
    omega
/-- the list with one more at its end, without its first one if there is no room -/
def pushD (W : Int) (ds : List Int) (d : Int) : List Int := (if (ds.length : Int) = W then ds.tail else ds) ++ [d]
def slipD (L : Int) (ds : List Int) (d : Int) : Bool := decide (L * ds.length < d * ds.length - sumI ds ∨ L * ds.length < -(d * ds.length - sumI ds))
def nextD (W L : Int) (ds : List Int) (d : Int) : List Int := if slipD L ds d then [d] else pushD W ds d
theorem pushD_len (W : Int) (ds : List Int) (d : Int) (h0 : 1 ≤ W) (h : (ds.length : Int) ≤ W) : 1 ≤ (pushD W ds d).length ∧ ((pushD W ds d).length : Int) ≤ W := by
  unfold pushD
  split
  · simp; omega
  · simp; omega
theorem nextD_len (W L : Int) (ds : List Int) (d : Int) (h0 : 1 ≤ W) (h : (ds.length : Int) ≤ W) : 1 ≤ (nextD W L ds d).length ∧ ((nextD W L ds d).length : Int) ≤ W := by
  unfold nextD
  split
  · simp; omega
  · exact pushD_len W ds d h0 h
theorem nextD_mem (W L : Int) (ds : List Int) (d x : Int) (h : x ∈ nextD W L ds d) : x ∈ ds ∨ x = d := by
  unfold nextD pushD at h
  split at h
  · right; simpa using h
  · simp only [List.mem_append, List.mem_singleton] at h
    rcases h with h | h
    · left
      split at h
      · exact List.mem_of_mem_tail h
      · exact h
    · exact .inr h
theorem modW (a W : Nat) (h : a < 2 * W) : a % W = if a < W then a else a - W := by
  split
  · exact Nat.mod_eq_of_lt ‹_›
  · rw [Nat.mod_eq_sub_mod (by omega), Nat.mod_eq_of_lt (by omega)]
/-- the numbers of a ring, from F on, round a list of W -/
def ringO (l : Nat → Int) (F W : Nat) (ds : List Int) : Prop := F < W ∧ ds.length ≤ W ∧ ∀ i, i < ds.length → l ((F + i) % W) = ds.getD i 0
def upd (l : Nat → Int) (j : Nat) (d : Int) : Nat → Int := fun i => if i = j then d else l i
theorem ringO_nil (l : Nat → Int) (W : Nat) (h : 1 ≤ W) : ringO l 0 W [] := ⟨by omega, by simp, fun i hi => by simp at hi⟩
theorem ringO_more {l : Nat → Int} {F W : Nat} {ds : List Int} (h : ringO l F W ds) (hl : ds.length < W) (d : Int) : ringO (upd l ((F + ds.length) % W) d) F W (ds ++ [d]) := by
  obtain ⟨h1, h2, h3⟩ := h
  refine ⟨h1, by simp; omega, fun i hi => ?_⟩
  simp at hi
  unfold upd
  by_cases e : i = ds.length
  · subst e; simp
  · have hi' : i < ds.length := by omega
    have : (F + i) % W ≠ (F + ds.length) % W := by
      rw [modW _ _ (by omega), modW _ _ (by omega)]
      split <;> split <;> omega
    rw [if_neg this, h3 i hi', List.getD_eq_getElem?_getD, List.getD_eq_getElem?_getD, List.getElem?_append_left hi']
theorem ringO_tail {l : Nat → Int} {F W : Nat} {ds : List Int} (h : ringO l F W ds) (hl : ds.length = W) : ringO l ((F + 1) % W) W ds.tail := by
  obtain ⟨h1, h2, h3⟩ := h
  refine ⟨Nat.mod_lt _ (by omega), by simp; omega, fun i hi => ?_⟩
  simp at hi
  have e : ((F + 1) % W + i) % W = (F + (i + 1)) % W := by
    rw [Nat.mod_add_mod]; congr 1; omega
  rw [e, h3 (i + 1) (by omega)]
  rw [List.getD_eq_getElem?_getD, List.getD_eq_getElem?_getD, List.getElem?_tail]
theorem sumI_tail (ds : List Int) (h : 0 < ds.length) : sumI ds.tail = sumI ds - ds.getD 0 0 := by
  cases ds with
  | nil => simp at h
  | cons x l => simp [sumI]; omega
end Go.Proofs.Sky
namespace Go.Proofs.Sky
def okL (W L : Int) : Bool := decide (1 ≤ W ∧ W ≤ 100 ∧ 0 ≤ L ∧ L ≤ 1000000000)
def inN (x n : Int) : Bool := decide (-n ≤ x ∧ x ≤ n)
def okM (m : Int × Int) : Bool := inN m.1 10000000000000 && inN m.2 10000000000000
abbrev StS := List Int × List (Int × Int) × List Int
def stepS (W L : Int) (st : StS) (m : Int × Int) : StS :=
  (nextD W L st.1 (m.1 - m.2), st.2.1 ++ [(m.2 * (nextD W L st.1 (m.1 - m.2)).length + sumI (nextD W L st.1 (m.1 - m.2)), ((nextD W L st.1 (m.1 - m.2)).length : Int))], if slipD L st.1 (m.1 - m.2) then st.2.2 ++ [(st.2.1.length : Int)] else st.2.2)
def runS (W L : Int) (ps : List (Int × Int)) : StS := ps.foldl (stepS W L) ([], [], [])
theorem runS_nil (W L : Int) : runS W L [] = ([], [], []) := rfl
theorem runS_snoc (W L : Int) (ps : List (Int × Int)) (m : Int × Int) : runS W L (ps ++ [m]) = stepS W L (runS W L ps) m := by simp [runS, List.foldl_append]
theorem take_snoc {α : Type} (l : List α) (k : Nat) (d : α) (h : k < l.length) : l.take (k + 1) = l.take k ++ [l.getD k d] := by
  rw [List.take_add_one, List.getD_eq_getElem?_getD, List.getElem?_eq_getElem h]; rfl
theorem runS_take (W L : Int) (ps : List (Int × Int)) (k : Nat) (h : k < ps.length) : runS W L (ps.take (k + 1)) = stepS W L (runS W L (ps.take k)) (ps.getD k (0, 0)) := by
  rw [take_snoc ps k (0, 0) h, runS_snoc]
/-- the differences of a run: few, and not great -/
def okD (W : Int) (ds : List Int) : Prop := (ds.length : Int) ≤ W ∧ ∀ d ∈ ds, -20000000000000 ≤ d ∧ d ≤ 20000000000000
theorem okD_nil {W : Int} (h : 1 ≤ W) : okD W [] := ⟨by simp; omega, by simp⟩
theorem okD_next {W L : Int} {ds : List Int} {d : Int} (hW : 1 ≤ W) (h : okD W ds) (h1 : -20000000000000 ≤ d) (h2 : d ≤ 20000000000000) : okD W (nextD W L ds d) := by
  refine ⟨(nextD_len W L ds d hW h.1).2, fun x hx => ?_⟩
  rcases nextD_mem W L ds d x hx with hx | rfl
  · exact h.2 x hx
  · exact ⟨h1, h2⟩
theorem okM_iff (m : Int × Int) : okM m = true ↔ (-10000000000000 ≤ m.1 ∧ m.1 ≤ 10000000000000) ∧ (-10000000000000 ≤ m.2 ∧ m.2 ≤ 10000000000000) := by
  unfold okM inN; simp
theorem runS_ok {W L : Int} (hW : 1 ≤ W) (ps : List (Int × Int)) (h : ∀ m ∈ ps, okM m = true) : okD W (runS W L ps).1 := by
  have key : ∀ (ps : List (Int × Int)) (st : StS), okD W st.1 → (∀ m ∈ ps, okM m = true) → okD W (ps.foldl (stepS W L) st).1 := by
    intro ps
    induction ps with
    | nil => exact fun st h _ => h
    | cons m ps ih =>
      intro st hs hm
      have h0 := (okM_iff m).1 (hm m (by simp))
      exact ih _ (okD_next hW hs (by omega) (by omega)) (fun x hx => hm x (by simp [hx]))
  exact key ps _ (okD_nil hW) h
theorem runS_len (W L : Int) (ps : List (Int × Int)) : (runS W L ps).2.1.length = ps.length := by
  have key : ∀ (ps : List (Int × Int)) (st : StS), (ps.foldl (stepS W L) st).2.1.length = st.2.1.length + ps.length := by
    intro ps
    induction ps with
    | nil => intro st; rfl
    | cons m ps ih => intro st; rw [List.foldl_cons, ih]; simp [stepS]; omega
  have := key ps ([], [], [])
  simpa [runS] using this
def replR (W L : Int) (ps : List (Int × Int)) : List (Int × Int) × List Int × Int :=
  if okL W L = false then ([], [], 2) else if 10000 < ps.length then ([], [], 4) else if ps.all okM then ((runS W L ps).2.1, (runS W L ps).2.2, 0) else ([], [], 2)
/-! the laws -/
def resL (W L : Int) : List Int → List (Int × Int) → List (Int × Int)
  | _, [] => []
  | ds, m :: ps => (m.2 * (nextD W L ds (m.1 - m.2)).length + sumI (nextD W L ds (m.1 - m.2)), ((nextD W L ds (m.1 - m.2)).length : Int)) :: resL W L (nextD W L ds (m.1 - m.2)) ps
def slL (W L : Int) : List Int → Nat → List (Int × Int) → List Int
  | _, _, [] => []
  | ds, k, m :: ps => (if slipD L ds (m.1 - m.2) then [(k : Int)] else []) ++ slL W L (nextD W L ds (m.1 - m.2)) (k + 1) ps
def endL (W L : Int) : List Int → List (Int × Int) → List Int
  | ds, [] => ds
  | ds, m :: ps => endL W L (nextD W L ds (m.1 - m.2)) ps
theorem foldl_lists (W L : Int) (ps : List (Int × Int)) : ∀ st : StS, ps.foldl (stepS W L) st = (endL W L st.1 ps, st.2.1 ++ resL W L st.1 ps, st.2.2 ++ slL W L st.1 st.2.1.length ps) := by
  induction ps with
  | nil => intro st; simp [endL, resL, slL]
  | cons m ps ih =>
    intro st
    rw [List.foldl_cons, ih]
    simp only [stepS, endL, resL, slL, List.length_append, List.length_cons, List.length_nil, List.append_assoc, List.cons_append, List.nil_append]
    split <;> simp
theorem runS_lists (W L : Int) (ps : List (Int × Int)) : runS W L ps = (endL W L [] ps, resL W L [] ps, slL W L [] 0 ps) := by
  unfold runS; rw [foldl_lists]; simp
theorem resL_append (W L : Int) (ps qs : List (Int × Int)) : ∀ ds, resL W L ds (ps ++ qs) = resL W L ds ps ++ resL W L (endL W L ds ps) qs := by
  induction ps with
  | nil => intro ds; rfl
  | cons m ps ih => intro ds; simp [resL, endL, ih]
theorem slL_append (W L : Int) (ps qs : List (Int × Int)) : ∀ ds k, slL W L ds k (ps ++ qs) = slL W L ds k ps ++ slL W L (endL W L ds ps) (k + ps.length) qs := by
  induction ps with
  | nil => intro ds k; simp [slL, endL]
  | cons m ps ih => intro ds k; simp only [List.cons_append, slL, endL, ih, List.append_assoc, List.length_cons]; rw [show k + 1 + ps.length = k + (ps.length + 1) by omega]
theorem resL_len (W L : Int) (ps : List (Int × Int)) : ∀ ds, (resL W L ds ps).length = ps.length := by
  induction ps with
  | nil => intro ds; rfl
  | cons m ps ih => intro ds; simp [resL, ih]
theorem mul_le_r (a b n : Int) (h : a ≤ b) (hn : 0 ≤ n) : a * n ≤ b * n := Int.mul_le_mul_of_nonneg_right h hn
/-- near c all of them: the sum is near c times their number -/
theorem sumI_near (l : List Int) (c B : Int) (h : ∀ x ∈ l, c - B ≤ x ∧ x ≤ c + B) : (c - B) * l.length ≤ sumI l ∧ sumI l ≤ (c + B) * l.length := by
  induction l with
  | nil => simp [sumI]
  | cons x l ih =>
    have h1 := h x (by simp)
    have h2 := ih (fun y hy => h y (by simp [hy]))
    have e (z : Int) : z * ((x :: l).length : Int) = z * l.length + z := by rw [List.length_cons, Int.natCast_add, Int.mul_add]; simp
    simp only [sumI, e]
    omega
def nearC (c B : Int) (ds : List Int) : Prop := ∀ x ∈ ds, c - B ≤ x ∧ x ≤ c + B
theorem nearC_no_slip {c B L : Int} {ds : List Int} {d : Int} (h : nearC c B ds) (hd : c - B ≤ d ∧ d ≤ c + B) (hL : 2 * B ≤ L) : slipD L ds d = false := by
  have ⟨h1, h2⟩ := sumI_near ds c B h
  have hn : (0 : Int) ≤ ds.length := by omega
  have a1 := mul_le_r _ _ _ hd.1 hn
  have a2 := mul_le_r _ _ _ hd.2 hn
  have a3 := mul_le_r _ _ _ hL hn
  have e : (c + B) * (ds.length : Int) = (c - B) * ds.length + 2 * B * ds.length := by rw [← Int.add_mul]; congr 1; omega
  unfold slipD
  simp only [decide_eq_false_iff_not]
  omega
theorem steady {W L c B : Int} (hW : 1 ≤ W) (hL : 2 * B ≤ L) (ps : List (Int × Int)) : ∀ (ds : List Int) (k : Nat), nearC c B ds → (ds.length : Int) ≤ W → (∀ m ∈ ps, c - B ≤ m.1 - m.2 ∧ m.1 - m.2 ≤ c + B) →
    slL W L ds k ps = [] ∧ nearC c B (endL W L ds ps) ∧ ((endL W L ds ps).length : Int) ≤ W ∧ (0 < ps.length → 1 ≤ (endL W L ds ps).length) ∧ ∀ j, j < ps.length → 1 ≤ ((resL W L ds ps).getD j (0, 0)).2 ∧ ((resL W L ds ps).getD j (0, 0)).2 ≤ W ∧ ((ps.getD j (0, 0)).2 + (c - B)) * ((resL W L ds ps).getD j (0, 0)).2 ≤ ((resL W L ds ps).getD j (0, 0)).1 ∧ ((resL W L ds ps).getD j (0, 0)).1 ≤ ((ps.getD j (0, 0)).2 + (c + B)) * ((resL W L ds ps).getD j (0, 0)).2 := by
  induction ps with
  | nil => intro ds k h1 h2 _; exact ⟨rfl, h1, h2, by simp, by simp⟩
  | cons m ps ih =>
    intro ds k h1 h2 h3
    have hm := h3 m (by simp)
    have hs := nearC_no_slip h1 hm hL
    have hnear : nearC c B (nextD W L ds (m.1 - m.2)) := fun x hx => by
      rcases nextD_mem _ _ _ _ _ hx with h | rfl
      · exact h1 x h
      · exact hm
    have ⟨l1, l2⟩ := nextD_len W L ds (m.1 - m.2) hW h2
    obtain ⟨i1, i2, i3, i4, i5⟩ := ih (nextD W L ds (m.1 - m.2)) (k + 1) hnear l2 (fun x hx => h3 x (by simp [hx]))
    refine ⟨by simp [slL, hs, i1], i2, i3, fun _ => ?_, ?_⟩
    · cases ps with
      | nil => simpa [endL] using l1
      | cons => exact i4 (by simp)
    · intro j hj
      cases j with
      | zero =>
        have ⟨s1, s2⟩ := sumI_near _ c B hnear
        simp only [resL, List.getD_cons_zero]
        refine ⟨by omega, l2, ?_, ?_⟩
        · rw [Int.add_mul]; omega
        · rw [Int.add_mul]; omega
      | succ j => simpa [resL] using i5 j (by simpa using hj)
end Go.Proofs.Sky
