/-
  lemmas for the theorems of this claim. No conditions beyond those written in the statements.
-/
import Derived.Test.YtdaplhjkccfmgaaF30
set_option linter.unusedVariables false
set_option linter.unusedSimpArgs false
set_option linter.unnecessarySimpa false
namespace Go.Proofs.Sky
open Go Go.RowKit Go.Shelf
set_option maxHeartbeats 1000000
theorem tmodN (a b : Nat) : ((a : Int)).tmod b = ((a % b : Nat) : Int) := rfl
def OkD (ds : List Int) : Prop := ∀ x ∈ ds, -20000000000000 ≤ x ∧ x ≤ 20000000000000
theorem sum_ok {ds : List Int} (h : OkD ds) (hl : ds.length ≤ 100) : -2000000000000000 ≤ sumI ds ∧ sumI ds ≤ 2000000000000000 := by
  have := sumI_bd ds 20000000000000 (by omega) h
  omega
/-- the cells of a ring -/
def ringA (l : Nat → Int) (f m r s : Int) : Array Value := ((List.range 100).map (fun i => Value.int .i64 (l i)) ++ [Value.int .i64 f, Value.int .i64 m, Value.int .i64 r, Value.int .i64 s]).toArray
theorem ringA_ok (l : Nat → Int) (f m r s : Int) : RingC (ringA l f m r s) l f m r s := by
  unfold ringA
  refine ⟨by simp, fun i hi => ?_, ?_, ?_, ?_, ?_⟩
  · rw [List.getElem?_toArray, List.getElem?_append_left (by simpa using hi), List.getElem?_map, List.getElem?_range hi]; rfl
  all_goals (rw [List.getElem?_toArray, List.getElem?_append_right (by simp)]; simp)
theorem RingC.uniq {cs cs' : Array Value} {l : Nat → Int} {f m r s : Int} (h : RingC cs l f m r s) (h' : RingC cs' l f m r s) : cs = cs' := by
  apply Array.ext (h.size.trans h'.size.symm)
  intro i h1 h2
  have hs := h.size
  by_cases hi : i < 100
  · rw [RingC.g (h.at_ i hi), RingC.g (h'.at_ i hi)]
  · rcases (show i = 100 ∨ i = 101 ∨ i = 102 ∨ i = 103 by omega) with rfl | rfl | rfl | rfl
    · rw [RingC.g h.c0, RingC.g h'.c0]
    · rw [RingC.g h.c1, RingC.g h'.c1]
    · rw [RingC.g h.c2, RingC.g h'.c2]
    · rw [RingC.g h.c3, RingC.g h'.c3]
/-- a ring, as a datum -/
structure Rg where
  l : Nat → Int
  F : Nat
  W : Nat
  ds : List Int
def Rg.arr (r : Rg) : Array Value := ringA r.l r.F r.ds.length r.W (sumI r.ds)
def Rg.ok (r : Rg) : Prop := r.W ≤ 100 ∧ ringO r.l r.F r.W r.ds
def Rg.new (W : Nat) : Rg := ⟨fun _ => 0, 0, W, []⟩
def Rg.push (r : Rg) (d : Int) : Rg := if r.ds.length = r.W then ⟨upd r.l (((r.F + 1) % r.W + (r.W - 1)) % r.W) d, (r.F + 1) % r.W, r.W, r.ds.tail ++ [d]⟩ else ⟨upd r.l ((r.F + r.ds.length) % r.W) d, r.F, r.W, r.ds ++ [d]⟩
def Rg.of (W : Nat) (ds : List Int) : Rg := ds.foldl Rg.push (Rg.new W)
theorem Rg.push_W (r : Rg) (d : Int) : (r.push d).W = r.W := by unfold Rg.push; split <;> rfl
theorem Rg.push_ds (r : Rg) (d : Int) : (r.push d).ds = pushD r.W r.ds d := by
  unfold Rg.push pushD
  by_cases h : r.ds.length = r.W
  · rw [if_pos h, if_pos (by omega)]
  · rw [if_neg h, if_neg (by omega)]
theorem Rg.push_ok {r : Rg} (h : r.ok) (d : Int) : (r.push d).ok := by
  refine ⟨by rw [r.push_W]; exact h.1, ?_⟩
  unfold Rg.push
  by_cases hf : r.ds.length = r.W
  · rw [if_pos hf]
    have t1 := ringO_more (ringO_tail h.2 hf) (by have := h.2.1; simp; omega) d
    rw [show r.ds.tail.length = r.W - 1 by simp; omega] at t1
    exact t1
  · rw [if_neg hf]
    exact ringO_more h.2 (by have := h.2.2.1; omega) d
theorem Rg.new_ok (W : Nat) (h : 1 ≤ W) (h2 : W ≤ 100) : (Rg.new W).ok := ⟨h2, ringO_nil _ _ h⟩
theorem Rg.of_snoc (W : Nat) (ds : List Int) (d : Int) : Rg.of W (ds ++ [d]) = (Rg.of W ds).push d := by simp [Rg.of, List.foldl_append]
theorem Rg.of_W (W : Nat) (ds : List Int) : (Rg.of W ds).W = W := by
  have key : ∀ (ds : List Int) (r : Rg), (ds.foldl Rg.push r).W = r.W := by
    intro ds
    induction ds with
    | nil => intro r; rfl
    | cons d ds ih => intro r; rw [List.foldl_cons, ih, Rg.push_W]
  exact key ds _
theorem Rg.of_ok (W : Nat) (ds : List Int) (h : 1 ≤ W) (h2 : W ≤ 100) : (Rg.of W ds).ok := by
  have key : ∀ (ds : List Int) (r : Rg), r.ok → (ds.foldl Rg.push r).ok := by
    intro ds
    induction ds with
    | nil => intro r h; exact h
    | cons d ds ih => intro r h; exact ih _ (Rg.push_ok h d)
  exact key ds _ (Rg.new_ok W h h2)
theorem Rg.of_ds (W : Nat) (ds : List Int) (h : ds.length ≤ W) : (Rg.of W ds).ds = ds := by
  have key : ∀ k, k ≤ ds.length → (Rg.of W (ds.take k)).ds = ds.take k := by
    intro k
    induction k with
    | zero => intro _; rfl
    | succ k ih =>
      intro hk
      rw [take_snoc ds k 0 (by omega), Rg.of_snoc, Rg.push_ds, Rg.of_W, ih (by omega)]
      unfold pushD
      rw [if_neg (by have := List.length_take_le k ds; omega)]
  have := key ds.length (Nat.le_refl _)
  simpa using this
theorem Rg.arr_ok (r : Rg) : RingC r.arr r.l r.F r.ds.length r.W (sumI r.ds) := ringA_ok _ _ _ _ _
/-- a value that is this ring -/
def RingV (v : Value) (r : Rg) : Prop := v = .agg r.arr ∧ r.ok
theorem with_any (v : Value) (r : Rg) (d : Int) (w : World) (hr : RingV v r) (hds : OkD r.ds) (hd0 : -20000000000000 ≤ d) (hd1 : d ≤ 20000000000000) :
    Calls Try.prog 35 #[v, .int .i64 d] w fun e w' => (∃ v', e = .returned v' ∧ RingV v' (r.push d)) ∧ Bw w w' := by
  obtain ⟨rfl, hok⟩ := hr
  have hc := r.arr_ok
  have hok2 := Rg.push_ok hok d
  obtain ⟨hWn, o1, o2, o3⟩ := hok
  have ⟨s0, s1⟩ := sum_ok hds (by omega)
  have hc2 := (r.push d).arr_ok
  by_cases hf : r.ds.length = r.W
  · have hF1 := Nat.mod_lt (r.F + 1) (show 0 < r.W by omega)
    have hJ := Nat.mod_lt ((r.F + 1) % r.W + (r.W - 1)) (show 0 < r.W by omega)
    have hl0 := o3 0 (by omega)
    rw [Nat.add_zero, Nat.mod_eq_of_lt o1] at hl0
    have hl1 := hds (r.l r.F) (by rw [hl0]; exact getD_mem r.ds 0 0 (by omega))
    refine (with_full r.arr r.l r.F r.ds.length ((r.F + 1) % r.W) (((r.F + 1) % r.W + (r.W - 1)) % r.W) r.W (sumI r.ds) d w hc (by omega) (by omega) (by omega) (by omega) ?_ ?_ (by omega) hl1.1 hl1.2 (by omega) hd0 hd1 s0 s1).mono ?_
    · exact tmodN (r.F + 1) r.W
    · have : ((((r.F + 1) % r.W : Nat) : Int) + ((r.ds.length : Int) - 1)) = (((r.F + 1) % r.W + (r.W - 1) : Nat) : Int) := by omega
      rw [this]; exact tmodN _ _
    · rintro e w' ⟨⟨cs', rfl, hc'⟩, hb⟩
      have hp : r.push d = ⟨upd r.l (((r.F + 1) % r.W + (r.W - 1)) % r.W) d, (r.F + 1) % r.W, r.W, r.ds.tail ++ [d]⟩ := by unfold Rg.push; rw [if_pos hf]
      refine ⟨⟨_, rfl, ?_, hok2⟩, hb⟩
      rw [hp] at hc2 ⊢
      have e1 : (((r.ds.tail ++ [d]).length : Nat) : Int) = r.ds.length := by simp; omega
      have e2 : sumI (r.ds.tail ++ [d]) = sumI r.ds - r.l r.F + d := by rw [sumI_append, sumI_tail r.ds (by omega), hl0]; simp [sumI]
      simp only at hc2
      rw [e1, e2] at hc2
      rw [hc'.uniq hc2]
  · have hJ := Nat.mod_lt (r.F + r.ds.length) (show 0 < r.W by omega)
    refine (with_more r.arr r.l r.F r.ds.length ((r.F + r.ds.length) % r.W) r.W (sumI r.ds) d w hc (by omega) (by omega) (by omega) (by omega) ?_ (by omega) hd0 hd1 s0 s1).mono ?_
    · exact tmodN (r.F + r.ds.length) r.W
    · rintro e w' ⟨⟨cs', rfl, hc'⟩, hb⟩
      have hp : r.push d = ⟨upd r.l ((r.F + r.ds.length) % r.W) d, r.F, r.W, r.ds ++ [d]⟩ := by unfold Rg.push; rw [if_neg hf]
      refine ⟨⟨_, rfl, ?_, hok2⟩, hb⟩
      rw [hp] at hc2 ⊢
      have e1 : (((r.ds ++ [d]).length : Nat) : Int) = r.ds.length + 1 := by simp
      have e2 : sumI (r.ds ++ [d]) = sumI r.ds + d := by rw [sumI_append]; simp [sumI]
      simp only at hc2
      rw [e1, e2] at hc2
      rw [hc'.uniq hc2]
theorem ringR_new (W : Nat) : ringR (W : Int) = (Rg.new W).arr := (ringR_ok _).uniq (Rg.arr_ok _)
theorem without_ring (v : Value) (r : Rg) (w : World) (hr : RingV v r) :
    Calls Try.prog 38 #[v] w fun e w' => (∃ v', e = .returned v' ∧ RingV v' (Rg.new r.W)) ∧ Bw w w' := by
  obtain ⟨rfl, hok⟩ := hr
  refine (without_any r.arr r.l r.F _ r.W _ w r.arr_ok).mono ?_
  rintro e w' ⟨rfl, hb⟩
  exact ⟨⟨_, rfl, by rw [ringR_new], Rg.new_ok _ (by have := hok.2.1; omega) hok.1⟩, hb⟩
theorem far_ring (v : Value) (r : Rg) (d L : Int) (w : World) (hr : RingV v r) (hds : OkD r.ds) (hd0 : -20000000000000 ≤ d) (hd1 : d ≤ 20000000000000) (hl0 : 0 ≤ L) (hl1 : L ≤ 1000000000) :
    Calls Try.prog 37 #[v, .int .i64 d, .int .i64 L] w fun e w' => e = .returned (.bool (slipD L r.ds d)) ∧ Bw w w' := by
  obtain ⟨rfl, hok⟩ := hr
  have hl := hok.2.2.1
  have hW := hok.1
  have ⟨s0, s1⟩ := sum_ok hds (by omega)
  exact far_any r.arr r.l r.F _ r.W _ d L w r.arr_ok (by omega) (by omega) hd0 hd1 s0 s1 hl0 hl1
theorem ratio_ring (v : Value) (r : Rg) (f : Int) (w : World) (hr : RingV v r) (hds : OkD r.ds) (hd0 : -10000000000000 ≤ f) (hd1 : f ≤ 10000000000000) :
    Calls Try.prog 28 #[v, .int .i64 f] w fun e w' => e = .returned (.agg #[.int .i64 (f * r.ds.length + sumI r.ds), .int .i64 r.ds.length]) ∧ Bw w w' := by
  obtain ⟨rfl, hok⟩ := hr
  have hl := hok.2.2.1
  have hW := hok.1
  have ⟨s0, s1⟩ := sum_ok hds (by omega)
  exact ratio_any r.arr r.l r.F _ r.W _ f w r.arr_ok (by omega) (by omega) hd0 hd1 s0 s1
end Go.Proofs.Sky
