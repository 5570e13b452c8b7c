/-
  lemmas for the theorems of this claim. No conditions beyond those written in the statements.
-/
import Derived.Test.YtgeojbmhkmmedaaDoorA26
import Derived.Lib.AppendZerosOnto
import Derived.Laws.OwnMore
import Derived.Deep.Cut
set_option linter.unusedVariables false
set_option linter.unusedSimpArgs false
set_option linter.unnecessarySimpa false
namespace Go.Proofs.Sky
open Go Go.RowKit Go.Shelf
set_option maxHeartbeats 2000000
set_option maxRecDepth 4000
/-! chapter 26: rows of parts -/
structure Pt where
  n : Int
  g : Bool
  f : Value
def pcs (p : Pt) : List Value := [.int .i64 p.n, .bool p.g, p.f]
def flatP (ps : List Pt) : List Value := ps.flatMap pcs
theorem flatP_append (ps qs : List Pt) : flatP (ps ++ qs) = flatP ps ++ flatP qs := by simp [flatP]
theorem flatP_one (p : Pt) : flatP [p] = pcs p := by simp [flatP]
theorem flatP_len (ps : List Pt) : (flatP ps).length = ps.length * 3 := by
  induction ps with
  | nil => rfl
  | cons f r ih => rw [show flatP (f :: r) = pcs f ++ flatP r from rfl, List.length_append, ih, List.length_cons]; simp [pcs]; omega
theorem flatP_at (ps : List Pt) : ∀ (i : Nat) (p : Pt), ps[i]? = some p → ∀ j, j < 3 → (flatP ps)[i * 3 + j]? = (pcs p)[j]? := by
  induction ps with
  | nil => intro i f h; simp at h
  | cons g r ih =>
    intro i f h j hj
    rw [show flatP (g :: r) = pcs g ++ flatP r from rfl]
    cases i with
    | zero =>
      simp only [List.getElem?_cons_zero, Option.some.injEq] at h
      subst h
      rw [List.getElem?_append_left (by simp [pcs]; omega)]
      congr 1; omega
    | succ i =>
      rw [List.getElem?_cons_succ] at h
      rw [List.getElem?_append_right (by simp [pcs]; omega)]
      rw [← ih i f h j hj]
      congr 1; simp [pcs]; omega
/-- v is a slice of parts: the cells hold ps -/
def RdP3 (w : World) (v : Value) (ps : List Pt) : Prop :=
  ps.length ≤ 1000 ∧ (∀ p ∈ ps, p.f.oneCell' = true) ∧ ∃ a cap, v = .slice a ps.length cap ∧ ps.length ≤ cap ∧ (ps = [] ∨ ∃ b off, a = some ⟨b, off, none⟩ ∧ b < w.heap.size ∧ ∀ j u, (flatP ps)[j]? = some u → w.cell? ⟨b, off + j, none⟩ = some u)
theorem RdP3.mono {w w' : World} {v : Value} {ps : List Pt} (h : RdP3 w v ps) (hb : Bw w w') : RdP3 w' v ps := by
  obtain ⟨h1, h2, a, cap, h3, h9, h4⟩ := h
  refine ⟨h1, h2, a, cap, h3, h9, ?_⟩
  rcases h4 with h4 | ⟨b, off, h5, h6, h7⟩
  · exact .inl h4
  · exact .inr ⟨b, off, h5, Nat.lt_of_lt_of_le h6 hb.size, fun j u hu => hb.cell' (h7 j u hu)⟩
theorem RdP3.form {w : World} {v : Value} {ps : List Pt} (h : RdP3 w v ps) : ∃ a c, v = .slice a ps.length c := by obtain ⟨_, _, a, c, h, _⟩ := h; exact ⟨a, c, h⟩
theorem RdP3.at {w : World} {v : Value} {ps : List Pt} (h : RdP3 w v ps) (h0 : 0 < ps.length) : ∃ b off c, v = .slice (some ⟨b, off, none⟩) ps.length c ∧ ∀ i p, ps[i]? = some p →
    w.cell? ⟨b, off + i * 3, none⟩ = some (.int .i64 p.n) ∧ w.cell? ⟨b, off + i * 3 + 1, none⟩ = some (.bool p.g) ∧ w.cell? ⟨b, off + i * 3 + 2, none⟩ = some p.f := by
  obtain ⟨_, _, a, c, hv, _, h4⟩ := h
  rcases h4 with h4 | ⟨b, off, h5, h6, h7⟩
  · rw [h4] at h0; simp at h0
  · subst h5
    refine ⟨b, off, c, hv, fun i p hp => ?_⟩
    have hf := flatP_at ps i p hp
    refine ⟨?_, ?_, ?_⟩
    · have := h7 (i * 3 + 0) (.int .i64 p.n) (by rw [hf 0 (by omega)]; rfl)
      simpa using this
    · have := h7 (i * 3 + 1) (.bool p.g) (by rw [hf 1 (by omega)]; rfl)
      rw [Nat.add_assoc]; exact this
    · have := h7 (i * 3 + 2) p.f (by rw [hf 2 (by omega)]; rfl)
      rw [Nat.add_assoc]; exact this
theorem flatP_oneC (ps : List Pt) (h : ∀ p ∈ ps, p.f.oneCell' = true) : ∀ u ∈ flatP ps, u.oneCell' = true := fun u hu => by
  obtain ⟨p, hp, hq⟩ := List.mem_flatMap.1 hu
  simp only [pcs, List.mem_cons, List.not_mem_nil, or_false] at hq
  rcases hq with rfl | rfl | rfl
  · rfl
  · rfl
  · exact h p hp
theorem infoPt : (Tryd.prog.info? 89).map (fun i => (i.zero.map (fun z => z.cells.size), i.size, i.bytes)) = some (some 3, 3, 24) := by kernel_rfl
theorem ptInfo : ∃ i z, Tryd.prog.info? 89 = some i ∧ i.zero = some z ∧ z.cells.size = 3 ∧ i.size = 3 ∧ i.bytes = 24 := by
  obtain ⟨i, hi, hz⟩ := Option.map_eq_some_iff.1 infoPt
  simp only [Prod.mk.injEq] at hz
  obtain ⟨h1, h2, h3⟩ := hz
  obtain ⟨z, hz1, hz2⟩ := Option.map_eq_some_iff.1 h1
  exact ⟨i, z, hi, hz1, hz2, h2, h3⟩
theorem own_rdP {w : World} {base : Nat} {e : TypeId} {v : Value} {ps : List Pt} (h : w.ownsRow base e 3 v ps.length (flatP ps)) (hn : ps.length ≤ 1000) (hf : ∀ p ∈ ps, p.f.oneCell' = true) : RdP3 w v ps ∧ Fresh base v := by
  have h' := h
  rcases h'.2 with ⟨rfl, h2⟩ | ⟨g, cap, cur, rfl, hg, hh, hnc, _⟩
  · obtain rfl : ps = [] := List.length_eq_zero_iff.1 h2
    exact ⟨⟨by simp, hf, none, 0, rfl, by simp, .inl rfl⟩, Fresh.nil _ _ _⟩
  · refine ⟨⟨hn, hf, some ⟨g, 0, none⟩, cap, rfl, hnc, .inr ⟨g, 0, rfl, (Array.getElem?_eq_some_iff.1 hh).1, fun j u hu => ?_⟩⟩, Fresh.at hg⟩
    have hjl : j < (flatP ps).length := (List.getElem?_eq_some_iff.1 hu).1
    rw [flatP_len] at hjl
    rw [Nat.zero_add]
    exact (h.cellAt j hjl).trans hu
section
variable {ops : Array Oper} {rest : List Oper} {o : Oper} {a : Act} {w : World} {K : Act → World → Prop} {Q : Exit → Act → World → Prop}
theorem wpList_append_pts (hgd : o.guard = none) (s x : Operand) (t : TypeId)
    (ho : o.op = .call { callee := .builtin .append, args := #[s, x], argTypes := #[t, t] })
    (base : Nat) (ht : Tryd.prog.underlying t = some (.slice 89))
    (v : Value) (ps qs : List Pt) (hs : a.eval s = v) (hown : w.ownsRow base 89 3 v ps.length (flatP ps))
    (ad : Addr) (m c : Nat) (hx : a.eval x = .slice (some ad) m c) (hm : m = qs.length) (hb : ∀ j u, (flatP qs)[j]? = some u → w.cell? (ad.add j) = some u) (hf : ∀ p ∈ qs, p.f.oneCell' = true)
    (hn : ps.length + m ≤ 1000000) (hbase : base ≤ w.heap.size)
    (h : ∀ v' w', w'.ownsRow base 89 3 v' (ps ++ qs).length (flatP (ps ++ qs)) → w.grownBy w' v.ownBlock → wpList Tryd.prog ops Q rest (a.put o.dst v') w') : wpList Tryd.prog ops Q (o :: rest) a w := by
  subst hm
  obtain ⟨i, z, hi, hz0, hz1, hz2, hz3⟩ := ptInfo
  refine wpList_append_own w hgd s x t ho base 89 i _ 3 24 ht hi hz0 hz2 hz3 hz1 (by decide) v ps.length (flatP ps) hs hown ad qs.length c (flatP qs) hx (flatP_len qs) hb (flatP_oneC qs hf) (by unfold maxLen; omega) (by omega) hbase (fun v' w' h2 h3 _ => h v' w' ?_ h3)
  rw [flatP_append, List.length_append]; exact h2
end
theorem pt_news {w : World} {b : Nat} {T : TypeId} {p : Pt} (hb : Blk w b T (pcs p).toArray) : ∀ (j : Nat) (u : Value), (flatP [p])[j]? = some u → w.cell? ((⟨b, 0, none⟩ : Addr).add j) = some u := fun j u hu => by
  rw [flatP_one] at hu
  have h := hb.cell (j := j) (v := u) (by simpa using hu)
  have e : (⟨b, 0, none⟩ : Addr).add j = ⟨b, j, none⟩ := by
    have h1 : ∀ off : Nat, (⟨b, off, none⟩ : Addr).add j = ⟨b, off + j, none⟩ := fun off => by simp [Addr.add]
    rw [h1, Nat.zero_add]
  rw [e]; exact h
/-- slices.Grow of the nil slice: a new row of the call's own, with room -/
theorem Grow_any (n : Nat) (w : World) (h0 : 0 < n) (hn : n ≤ 1000) : Calls Tryd.prog 76 #[.slice none 0 0, .int .i64 n] w fun e w' => (∃ g cap, e = .returned (.slice (some ⟨g, 0, none⟩) 0 cap) ∧ w'.ownsRow w.heap.size 89 3 (.slice (some ⟨g, 0, none⟩) 0 cap) 0 []) ∧ Bw w w' := by
  obtain ⟨i, z, hi, hz0, hz1, hz2, hz3⟩ := ptInfo
  have hold : (Builtin.firstCells i.size 0 (.slice none 0 0)).run Tryd.prog w.drew = .ok (#[] : Array Value) w.drew := run_firstCells_none w.drew i.size 0 0 0
  have hrz : ∀ ty, (Builtin.append_ #[77, 3] ty #[.slice none 0 0, .int .i64 n]).run Tryd.prog w = _ := fun ty =>
    Lib.run_append_grow_zeros w 77 3 ty 89 i z .i64 .i64 Tryd.underlying77 Tryd.underlying3 hi hz0 none 0 0 [] hold n h0 (by omega) (by omega) (by omega)
      (by rw [hz3]; omega) (by rw [hz3]; exact growslice_fits (by omega) (by omega))
  rw [Nat.zero_add] at hrz
  have hge := grownCap_ge w n 0 89
  have hle := grownCap_le_maxLen w n 0 89 (by unfold maxLen; omega)
  generalize grownCap w n 0 89 = G at hrz hge hle
  have hg63 : G ≤ 9223372036854775807 := by unfold maxLen at hle; omega
  have hsz : ((([] : List Value).toArray ++ Builtin.zeroCells z.cells n ++ Builtin.zeroCells z.cells (G - n)) : Array Value).size = G * 3 := by
    simp [Builtin.zeroCells, hz1]
    omega
  have HO := Lib.hid (World.ownsRow_made (base := w.heap.size) (e := 89) (size := 3) w.drew _ G (by simp) hle hsz)
  have HW := Lib.hid (Bw.alloc (Bw.drew (Bw.refl w)) (.cells (([] : List Value).toArray ++ Builtin.zeroCells z.cells n ++ Builtin.zeroCells z.cells (G - n)) 89))
  have hn0 : ¬ (n : Int) < 0 := by omega
  have hn1 : (0 : Int) < n := by omega
  clear hold hsz hge hle hi hz0 hz1 hz2 hz3
  generalize ([] : List Value).toArray ++ Builtin.zeroCells z.cells n ++ Builtin.zeroCells z.cells (G - n) = cells at *
  go_enter Tryd.func76, Tryd.ntmps76
  go_wp2_with (at_builtin; refine Lib.wpList_append_run _ rfl _ _ _ _ rfl _ _ rfl rfl _ _ (hrz _) ?_)
  go_ret
  exact ⟨⟨_, _, rfl, HO.out⟩, HW.out⟩
end Go.Proofs.Sky

namespace Go.Proofs.Sky
open Go Go.RowKit Go.Shelf
set_option maxHeartbeats 2000000
set_option maxRecDepth 4000
/-! chapter 26: the layouts -/
def catP (PS : Nat → List Pt) : Nat → List Pt
  | 0 => []
  | k + 1 => catP PS k ++ PS k
theorem catP_len (PS : Nat → List Pt) (m : Nat) (h : ∀ i, i < m → (PS i).length ≤ 100) : ∀ k, k ≤ m → (catP PS k).length ≤ 100 * k := by
  intro k
  induction k with
  | zero => intro _; simp [catP]
  | succ k ih => intro hk; rw [catP, List.length_append]; have := ih (by omega); have := h k (by omega); omega
theorem bw_grownP {a b c : World} {e : TypeId} {k : Nat} {v : Value} {m n : Nat} {xs : List Value} (hn : a.heap.size = n) (h : Bw a b) (ho : b.ownsRow n e k v m xs) (hg : b.grownBy c v.ownBlock) : Bw a c := by
  subst hn; exact h.grown ho hg
theorem Concat_any (V : Nat → Value) (PS : Nat → List Pt) (m : Nat) (b c : Nat) (w : World) (hm : 1 ≤ m ∧ m ≤ 3) (hc : m ≤ c) (hb : ∀ i, i < m → w.cell? ⟨b, i, none⟩ = some (V i)) (hr : ∀ i, i < m → RdP3 w (V i) (PS i)) (hl : ∀ i, i < m → 0 < (PS i).length ∧ (PS i).length ≤ 100) :
    Calls Tryd.prog 70 #[.slice (some ⟨b, 0, none⟩) m c] w fun e w' => (∃ v, e = .returned v ∧ RdP3 w' v (catP PS m) ∧ Fresh w.heap.size v) ∧ Bw w w' := by
  have HB := Lib.hid hb
  have HR := Lib.hid hr
  have HL := Lib.hid hl
  have HCL := Lib.hid (catP_len PS m (fun i hi => (hl i hi).2))
  have HONE := Lib.hid (show ∀ k, k ≤ m → ∀ p ∈ catP PS k, p.f.oneCell' = true from by
    intro k
    induction k with
    | zero => intro _ p hp; cases hp
    | succ k ih =>
      intro hk p hp
      rw [catP, List.mem_append] at hp
      rcases hp with hp | hp
      · exact ih (by omega) p hp
      · exact (hr k (by omega)).2.1 p hp)
  clear hb hr hl
  have GR := Lib.hid (fun n W h0 hn => Grow_any n W h0 hn)
  obtain ⟨BB, hBB⟩ : ∃ BB, BB = w.heap.size := ⟨_, rfl⟩
  have HBB := Lib.hid hBB
  rw [← hBB]
  clear hBB
  go_enter Tryd.func70, Tryd.ntmps70
  go_wp2
  go_loopg [3, 11] m (fun gg s3 s11 wr => ∃ k : Nat, k ≤ m ∧ m - k ≤ gg ∧ s11 = .int .i64 k ∧ s3 = .int .i64 ((catP PS k).length : Nat) ∧ wr = w)
  case atStart => exact ⟨0, by omega, by omega, rfl, rfl, rfl⟩
  case round =>
    obtain ⟨k, hk, hgg, rfl, rfl, hwr⟩ := hrel
    replace hwr := hwr.symm
    subst hwr
    by_cases hlt : k < m
    · have hkz : (k : Int) < m := by omega
      have hk0 : (0 : Int) ≤ k := by omega
      have c1 := HB.out k hlt
      obtain ⟨a1, cc1, hv1⟩ := (HR.out k hlt).form
      rw [hv1] at c1
      have h1 := HCL.out k hk
      have h2 := HL.out k hlt
      have HN := Lib.hid (show (catP PS (k + 1)).length = (catP PS k).length + (PS k).length by rw [catP, List.length_append])
      clear hv1
      generalize (catP PS k).length = l1 at *
      generalize (PS k).length = l2 at *
      have hnn : ¬ (l1 : Int) + l2 < 0 := by omega
      go_wp2
      go_roundg (m - (k + 1))
      case measure => omega
      case rel => exact ⟨k + 1, by omega, by omega, by go_num, by rw [HN.out]; go_num, rfl⟩
    · obtain rfl : k = m := by omega
      have hkz : ¬ (k : Int) < k := by omega
      have hlb := HCL.out k (Nat.le_refl _)
      have hlp : 0 < (catP PS k).length := by
        obtain ⟨q, rfl⟩ : ∃ q, k = q + 1 := ⟨k - 1, by omega⟩
        rw [catP, List.length_append]
        have := HL.out q (by omega)
        omega
      have HK := Lib.hid (show (catP PS k).length ≤ 1000 by omega)
      generalize (catP PS k).length = n at *
      go_wp2_with (go_at_call 76; (with_reducible refine Calls.mono (GR.out n _ hlp HK.out) ?_); rintro e1 w1 ⟨⟨g, cap, rfl, ho⟩, hb1⟩; have O1 := Lib.hid ho; have HW := Lib.hid hb1; clear ho hb1)
      replace O1 := Lib.hid (show w1.ownsRow BB 89 3 (.slice (some ⟨g, 0, none⟩) (catP PS 0).length cap) (catP PS 0).length (flatP (catP PS 0)) by rw [HBB.out]; exact O1.out)
      go_loopg [6, 27] k (fun gg s6 s27 wr => ∃ j : Nat, j ≤ k ∧ k - j ≤ gg ∧ s27 = .int .i64 j ∧ Hid (Bw w wr) ∧ Hid (wr.ownsRow BB 89 3 s6 (catP PS j).length (flatP (catP PS j))))
      case atStart => exact ⟨0, by omega, by omega, rfl, HW, O1⟩
      case round =>
        clear HW O1
        obtain ⟨j, hj, hgg, rfl, HW, O1⟩ := hrel
        by_cases hjl : j < k
        · have hjz : (j : Int) < k := by omega
          have hj0 : (0 : Int) ≤ j := by omega
          have c1 := HW.out.cell' (HB.out j hjl)
          obtain ⟨b2, o2, cc2, hv2, _⟩ := ((HR.out j hjl).mono HW.out).at (HL.out j hjl).1
          have HNW := Lib.hid (show ∀ q u, (flatP (PS j))[q]? = some u → wr.cell? ((⟨b2, o2, none⟩ : Addr).add q) = some u from fun q u hu => by
            obtain ⟨_, _, a', c', h3, _, h4⟩ := (HR.out j hjl).mono HW.out
            rw [hv2] at h3
            injection h3 with i1 i2 i3
            subst i1
            rcases h4 with h4 | ⟨b', off', h5, h6, h7⟩
            · have := (HL.out j hjl).1; rw [h4] at this; simp at this
            · injection h5 with h5
              injection h5 with q1 q2 q3
              subst q1 q2
              have e : ∀ off : Nat, (⟨b2, off, none⟩ : Addr).add q = ⟨b2, off + q, none⟩ := fun off => by simp [Addr.add]
              rw [e]; exact h7 q u hu)
          rw [hv2] at c1
          have h1 := HCL.out j (by omega)
          have h2 := HL.out j hjl
          have HOF := Lib.hid (HR.out j hjl).2.1
          have HN := Lib.hid (show catP PS (j + 1) = catP PS j ++ PS j from rfl)
          generalize catP PS j = ps at *
          generalize PS j = qs at *
          have HB2 := Lib.hid (show BB ≤ w.heap.size from by rw [HBB.out]; exact Nat.le_refl _)
          have hll : ps.length + qs.length ≤ 1000000 := by omega
          go_wp2_with (at_builtin; refine wpList_append_pts rfl (.tmp 31) (.tmp 32) _ rfl BB Tryd.underlying77 _ ps qs rfl O1.out ⟨b2, o2, none⟩ _ _ rfl rfl HNW.out HOF.out hll (by have := HW.out.size; have := HB2.out; omega) ?_; intro v8 w8 hown hgr; replace HW := Lib.hid (bw_grownP HBB.out.symm HW.out O1.out hgr); replace O1 := Lib.hid hown; clear hown hgr c1)
          go_roundg (k - (j + 1))
          case measure => omega
          case rel => exact ⟨j + 1, by omega, by omega, by go_num, HW, Lib.hid (by rw [HN.out]; exact O1.out)⟩
        · obtain rfl : j = k := by omega
          have hjz : ¬ (j : Int) < j := by omega
          have HR2 := Lib.hid (own_rdP O1.out (by have := HCL.out j (Nat.le_refl _); omega) (HONE.out j (Nat.le_refl _)))
          go_wp2
          go_ret
          exact ⟨⟨_, rfl, HR2.out.1, HR2.out.2⟩, HW.out⟩
/-- all blocks but rows of parts are kept -/
structure Ks (w W : World) : Prop where
  size : w.heap.size ≤ W.heap.size
  kept : ∀ (g : Nat) (T : TypeId) (cs : Array Value), (T ≠ 89 ∧ T ≠ 78 ∧ T ≠ 25) → Blk w g T cs → Blk W g T cs
theorem Ks.refl (w : World) : Ks w w := ⟨Nat.le_refl _, fun _ _ _ _ h => h⟩
theorem Ks.trans {a b c : World} (h : Ks a b) (k : Ks b c) : Ks a c := ⟨Nat.le_trans h.size k.size, fun g T cs hn hB => k.kept g T cs hn (h.kept g T cs hn hB)⟩
theorem Ks.of_bw {a b : World} (h : Bw a b) : Ks a b := ⟨h.size, fun _ _ _ _ hB => hB.bw h⟩
theorem Ks.grown {a b : World} {base k n : Nat} {v : Value} {xs : List Value} (ho : a.ownsRow base 89 k v n xs) (hg : a.grownBy b v.ownBlock) : Ks a b := by
  refine ⟨hg.size, fun g T cs hn hB => ?_⟩
  unfold Blk at hB ⊢
  have hlt : g < a.heap.size := (Array.getElem?_eq_some_iff.1 hB).1
  rw [hg.block g hlt ?_]
  · exact hB
  · intro e
    rcases ho.2 with ⟨rfl, _⟩ | ⟨g', cap, cur, rfl, _, hh, _⟩
    · simp [Value.ownBlock] at e
    · simp [Value.ownBlock] at e
      subst e
      rw [hh] at hB
      injection hB with hB
      injection hB with h1 h2 h3
      exact hn.1 h2.symm
theorem Ks.row {w : World} {g : Nat} {old : Array Value} (hB : Blk w g 78 old) (cs : Array Value) : Ks w (w.setRow g cs) := by
  refine ⟨by simp [World.setRow], fun g' T cs' hn hB' => ?_⟩
  by_cases h : g' = g
  · subst h
    unfold Blk at hB hB'
    rw [hB] at hB'
    injection hB' with h1
    injection h1 with h2 h3 h4
    exact absurd h3.symm hn.2.1
  · exact hB'.row_other h cs
/-- the same, whatever rows of parts grow -/
def FnB (w : World) (fv : Value) (j : Nat) : Prop := ∀ W, Ks w W → FnOk W fv j
theorem FnB.ks {w w' : World} {fv : Value} {j : Nat} (h : FnB w fv j) (hk : Ks w w') : FnB w' fv j := fun W hW => h W (hk.trans hW)
theorem FnB.mono {w w' : World} {fv : Value} {j : Nat} (h : FnB w fv j) (hb : Bw w w') : FnB w' fv j := h.ks (Ks.of_bw hb)
theorem FnB.ok {w : World} {fv : Value} {j : Nat} (h : FnB w fv j) : FnOk w fv j := h w (Ks.refl w)
theorem FnB.of {w : World} {fv : Value} {j : Nat} (h : ∀ W, FnOk W fv j) : FnB w fv j := fun W _ => h W
/-- the parts of a row, as the document lists them -/
def MtL (w : World) : List Pt → List (Int × Bool × Nat) → Prop
  | [], [] => True
  | p :: ps, t :: L => p.n = t.1 ∧ p.g = t.2.1 ∧ FnB w p.f t.2.2 ∧ MtL w ps L
  | _, _ => False
theorem MtL.mono {w w' : World} (hb : Bw w w') : ∀ {ps : List Pt} {L : List (Int × Bool × Nat)}, MtL w ps L → MtL w' ps L
  | [], [], _ => trivial
  | _ :: _, _ :: _, ⟨h1, h2, h3, h4⟩ => ⟨h1, h2, h3.mono hb, MtL.mono hb h4⟩
theorem MtL.len {w : World} : ∀ {ps : List Pt} {L : List (Int × Bool × Nat)}, MtL w ps L → ps.length = L.length
  | [], [], _ => rfl
  | _ :: _, _ :: _, ⟨_, _, _, h4⟩ => by simp [MtL.len h4]
theorem MtL.append {w : World} {qs : List Pt} {M : List (Int × Bool × Nat)} (h2 : MtL w qs M) : ∀ {ps : List Pt} {L : List (Int × Bool × Nat)}, MtL w ps L → MtL w (ps ++ qs) (L ++ M)
  | [], [], _ => h2
  | _ :: _, _ :: _, ⟨a, b, c, h4⟩ => ⟨a, b, c, MtL.append h2 h4⟩
theorem MtL.at {w : World} : ∀ {ps : List Pt} {L : List (Int × Bool × Nat)}, MtL w ps L → ∀ (k : Nat) (t : Int × Bool × Nat), L[k]? = some t → ∃ p, ps[k]? = some p ∧ p.n = t.1 ∧ p.g = t.2.1 ∧ FnB w p.f t.2.2
  | [], [], _, k, t, h => by simp at h
  | p :: _, _ :: _, ⟨a, b, c, h4⟩, k, t, h => by
    cases k with
    | zero => simp at h; subst h; exact ⟨p, rfl, a, b, c⟩
    | succ k => simp at h; obtain ⟨q, h5, h6⟩ := MtL.at h4 k t h; exact ⟨q, by simpa using h5, h6⟩
theorem RdP3.row {w : World} {v : Value} {ps : List Pt} {base g : Nat} (h : RdP3 w v ps) (hf : Fresh base v) (hg : g < base) (cs : Array Value) : RdP3 (w.setRow g cs) v ps := by
  obtain ⟨h1, h2, a, cap, rfl, h9, h4⟩ := h
  refine ⟨h1, h2, a, cap, rfl, h9, ?_⟩
  rcases h4 with h4 | ⟨b, off, rfl, h6, h7⟩
  · exact .inl h4
  · have := hf b rfl
    exact .inr ⟨b, off, rfl, by simpa using h6, fun j u hu => by
      rw [World.cell?_of_block (setRow_other w g b cs (by omega))]; exact h7 j u hu⟩
def LayAt (w : World) (base : Nat) (v : Value) (L : List (Int × Bool × Nat)) : Prop := ∃ ps, RdP3 w v ps ∧ MtL w ps L ∧ Fresh base v
theorem LayAt.mono {w w' : World} {base : Nat} {v : Value} {L : List (Int × Bool × Nat)} (h : LayAt w base v L) (hb : Bw w w') : LayAt w' base v L := by
  obtain ⟨ps, h1, h2, h3⟩ := h; exact ⟨ps, h1.mono hb, h2.mono hb, h3⟩
theorem LayAt.down {w : World} {base base' : Nat} {v : Value} {L : List (Int × Bool × Nat)} (h : LayAt w base v L) (hb : base' ≤ base) : LayAt w base' v L := by
  obtain ⟨ps, h1, h2, h3⟩ := h; exact ⟨ps, h1, h2, h3.mono hb⟩
theorem FnB.one {w : World} {f : Value} {j : Nat} (h : FnB w f j) : f.oneCell' = true := by obtain ⟨g, c, rfl, _⟩ := h.ok; rfl
theorem MtL.oneC {w : World} : ∀ {ps : List Pt} {L : List (Int × Bool × Nat)}, MtL w ps L → ∀ p ∈ ps, p.f.oneCell' = true
  | [], [], _, p, hp => by cases hp
  | q :: _, _ :: _, ⟨_, _, c, h4⟩, p, hp => by
    rcases List.mem_cons.1 hp with rfl | hp
    · exact c.one
    · exact MtL.oneC h4 p hp
theorem MtL.ks {w w' : World} (hk : Ks w w') : ∀ {ps : List Pt} {L : List (Int × Bool × Nat)}, MtL w ps L → MtL w' ps L
  | [], [], _ => trivial
  | _ :: _, _ :: _, ⟨h1, h2, h3, h4⟩ => ⟨h1, h2, h3.ks hk, MtL.ks hk h4⟩
theorem LayAt.row {w : World} {base g : Nat} {v : Value} {L : List (Int × Bool × Nat)} {old : Array Value} (h : LayAt w base v L) (hB : Blk w g 78 old) (hg : g < base) (cs : Array Value) : LayAt (w.setRow g cs) base v L := by
  obtain ⟨ps, h1, h2, h3⟩ := h; exact ⟨ps, h1.row h3 hg cs, h2.ks (Ks.row hB cs), h3⟩
theorem LayAt.form {w : World} {base : Nat} {v : Value} {L : List (Int × Bool × Nat)} (h : LayAt w base v L) : ∃ a c, v = .slice a L.length c := by
  obtain ⟨ps, h1, h2, _⟩ := h
  obtain ⟨a, c, hv⟩ := h1.form
  exact ⟨a, c, by rw [hv, h2.len]⟩
end Go.Proofs.Sky

namespace Go.Proofs.Sky
open Go Go.RowKit Go.Shelf
set_option maxHeartbeats 2000000
set_option maxRecDepth 4000
theorem b4_0 (w : World) : (Instr.index 23 (.agg #[.int .i64 32, .int .i64 24, .int .i64 22, .int .i64 24]) (.int .i64 0)).run Tryd.prog w = .ok (.int .i64 32) w := by kernel_rfl
theorem b4_1 (w : World) : (Instr.index 23 (.agg #[.int .i64 32, .int .i64 24, .int .i64 22, .int .i64 24]) (.int .i64 1)).run Tryd.prog w = .ok (.int .i64 24) w := by kernel_rfl
theorem b4_2 (w : World) : (Instr.index 23 (.agg #[.int .i64 32, .int .i64 24, .int .i64 22, .int .i64 24]) (.int .i64 2)).run Tryd.prog w = .ok (.int .i64 22) w := by kernel_rfl
theorem b4_3 (w : World) : (Instr.index 23 (.agg #[.int .i64 32, .int .i64 24, .int .i64 22, .int .i64 24]) (.int .i64 3)).run Tryd.prog w = .ok (.int .i64 24) w := by kernel_rfl
theorem b3_0 (w : World) : (Instr.index 22 (.agg #[.int .i64 32, .int .i64 24, .int .i64 16]) (.int .i64 0)).run Tryd.prog w = .ok (.int .i64 32) w := by kernel_rfl
theorem b3_1 (w : World) : (Instr.index 22 (.agg #[.int .i64 32, .int .i64 24, .int .i64 16]) (.int .i64 1)).run Tryd.prog w = .ok (.int .i64 24) w := by kernel_rfl
theorem b3_2 (w : World) : (Instr.index 22 (.agg #[.int .i64 32, .int .i64 24, .int .i64 16]) (.int .i64 2)).run Tryd.prog w = .ok (.int .i64 16) w := by kernel_rfl
theorem l3_0 (v0 v1 v2 : Value) (w : World) : (Instr.index 78 (.agg #[v0, v1, v2]) (.int .i64 0)).run Tryd.prog w = .ok (v0) w := by kernel_rfl
theorem l3_1 (v0 v1 v2 : Value) (w : World) : (Instr.index 78 (.agg #[v0, v1, v2]) (.int .i64 1)).run Tryd.prog w = .ok (v1) w := by kernel_rfl
theorem l3_2 (v0 v1 v2 : Value) (w : World) : (Instr.index 78 (.agg #[v0, v1, v2]) (.int .i64 2)).run Tryd.prog w = .ok (v2) w := by kernel_rfl
def bitsA (k : Nat) : Int := [32, 24, 22, 24].getD k 0
def bitsC (k : Nat) : Int := [32, 24, 16].getD k 0
theorem ix4 (k : Nat) (h : k < 4) (w : World) : (Instr.index 23 (.agg #[.int .i64 32, .int .i64 24, .int .i64 22, .int .i64 24]) (.int .i64 k)).run Tryd.prog w = .ok (.int .i64 (bitsA k)) w := by
  match k, h with
  | 0, _ => exact b4_0 w
  | 1, _ => exact b4_1 w
  | 2, _ => exact b4_2 w
  | 3, _ => exact b4_3 w
theorem ix3 (k : Nat) (h : k < 3) (w : World) : (Instr.index 22 (.agg #[.int .i64 32, .int .i64 24, .int .i64 16]) (.int .i64 k)).run Tryd.prog w = .ok (.int .i64 (bitsC k)) w := by
  match k, h with
  | 0, _ => exact b3_0 w
  | 1, _ => exact b3_1 w
  | 2, _ => exact b3_2 w
theorem ixL (V : Nat → Value) (k : Nat) (h : k < 3) (w : World) : (Instr.index 78 (.agg #[V 0, V 1, V 2]) (.int .i64 k)).run Tryd.prog w = .ok (V k) w := by
  match k, h with
  | 0, _ => exact l3_0 _ _ _ w
  | 1, _ => exact l3_1 _ _ _ w
  | 2, _ => exact l3_2 _ _ _ w
def axL (j lo hi : Nat) : Nat → List (Int × Bool × Nat)
  | 0 => []
  | k + 1 => axL j lo hi k ++ (if lo ≤ k ∧ k < hi then [(bitsA k, true, j + k)] else [])
theorem MtL.one {w : World} {p : Pt} {t : Int × Bool × Nat} (h1 : p.n = t.1) (h2 : p.g = t.2.1) (h3 : FnB w p.f t.2.2) : MtL w [p] [t] := ⟨h1, h2, h3, trivial⟩
theorem fnB_axis {w : World} {c d k j : Nat} {fv : Value} (hk : k < 4) (hf : FnB w fv j) (hc : Blk w c 107 #[fv]) (hd : Blk w d 3 #[.int .i64 k]) : FnB w (.func (.func 77) #[] #[.pointer (some ⟨c, 0, none⟩), .pointer (some ⟨d, 0, none⟩)]) (j + k) :=
  fun X hX => ⟨_, _, rfl, enters_of Tryd.func77 (by kernel_rfl) rfl, fun W hW b => axis1_any b c d k j fv W hk ((hf X hX).mono hW) (hW.cell' ((hX.kept _ _ _ (by decide) hc).cell (j := 0) rfl)) (hW.cell' ((hX.kept _ _ _ (by decide) hd).cell (j := 0) rfl))⟩
theorem fnB_clock {w : World} {c k : Nat} (hk : k < 3) (hc : Blk w c 3 #[.int .i64 k]) : FnB w (.func (.func 69) #[] #[.pointer (some ⟨c, 0, none⟩)]) (4 + k) :=
  fun X hX => ⟨_, _, rfl, enters_of Tryd.func69 (by kernel_rfl) rfl, fun W hW b => fn6_any b c k W hk (hW.cell' ((hX.kept _ _ _ (by decide) hc).cell (j := 0) rfl))⟩
theorem fnB_issue (w : World) : FnB w (.func (.func 62) #[] #[]) 1 := FnB.of fun X => ⟨_, _, rfl, enters_of Tryd.func62 (by kernel_rfl) rfl, fun W _ b => issue_any b W⟩
theorem fnB_prn (w : World) : FnB w (.func (.func 63) #[] #[]) 0 := FnB.of fun X => ⟨_, _, rfl, enters_of Tryd.func63 (by kernel_rfl) rfl, fun W _ b => prn_any b W⟩
theorem fnB_x (w : World) : FnB w (.func (.func 64) #[] #[]) 7 := FnB.of fun X => ⟨_, _, rfl, enters_of Tryd.func64 (by kernel_rfl) rfl, fun W _ b => fn1_any b W⟩
theorem fnB_y (w : World) : FnB w (.func (.func 65) #[] #[]) 11 := FnB.of fun X => ⟨_, _, rfl, enters_of Tryd.func65 (by kernel_rfl) rfl, fun W _ b => fn2_any b W⟩
theorem fnB_z (w : World) : FnB w (.func (.func 66) #[] #[]) 15 := FnB.of fun X => ⟨_, _, rfl, enters_of Tryd.func66 (by kernel_rfl) rfl, fun W _ b => fn3_any b W⟩
theorem fnB_t0 (w : World) : FnB w (.func (.func 67) #[] #[]) 2 := FnB.of fun X => ⟨_, _, rfl, enters_of Tryd.func67 (by kernel_rfl) rfl, fun W _ b => fn4_any b W⟩
theorem fnB_acc (w : World) : FnB w (.func (.func 68) #[] #[]) 3 := FnB.of fun X => ⟨_, _, rfl, enters_of Tryd.func68 (by kernel_rfl) rfl, fun W _ b => fn5_any b W⟩
theorem axL_len (j lo hi : Nat) : ∀ k, (axL j lo hi k).length ≤ k := by
  intro k
  induction k with
  | zero => simp [axL]
  | succ k ih => rw [axL, List.length_append]; split <;> simp <;> omega
theorem axis_any (fv : Value) (j lo hi : Nat) (w : World) (hf : FnB w fv j) (hlh : hi ≤ 100 ∧ lo ≤ 100) : Calls Tryd.prog 71 #[fv, .int .i64 lo, .int .i64 hi] w fun e w' => (∃ v, e = .returned v ∧ LayAt w' w.heap.size v (axL j lo hi 4)) ∧ Bw w w' := by
  have HF := Lib.hid hf
  have HX := Lib.hid (fun k h w => ix4 k h w)
  have hmf : ∀ (fn : Fn) (first cap : Array Value) (w : World), (Instr.makeFunc fn first cap).run Tryd.prog w = .ok (.func fn first cap) w := fun _ _ _ _ => rfl
  obtain ⟨BB, hBB⟩ : ∃ BB, w.heap.size = BB := ⟨_, rfl⟩
  have HB := Lib.hid hBB
  obtain ⟨gid, cap, hfv, _⟩ := hf.ok
  subst hfv
  have BX := Lib.hid (Blk.new w 107 #[.func (.func gid) #[] cap])
  have HW := Lib.hid (Bw.alloc (Bw.refl w) (.cells #[.func (.func gid) #[] cap] 107))
  rw [hBB] at BX ⊢
  clear hBB
  go_enter Tryd.func71, Tryd.ntmps71
  go_upto_region 1 with fail
  rw [HB.out]
  obtain ⟨W0, hW0⟩ : ∃ W0, w.alloc (.cells #[.func (.func gid) #[] cap] 107) = W0 := ⟨_, rfl⟩
  rw [hW0] at BX HW ⊢
  clear hW0
  go_wp2
  go_loopg [7, 11] 4 (fun gg s7 s11 wr => ∃ k : Nat, k ≤ 4 ∧ 4 - k ≤ gg ∧ s11 = .int .i64 k ∧ Hid (Bw w wr) ∧ Hid (Blk wr BB 107 #[.func (.func gid) #[] cap]) ∧ ∃ ps, Hid (MtL wr ps (axL j lo hi k)) ∧ Hid (wr.ownsRow BB 89 3 s7 ps.length (flatP ps)))
  case atStart => exact ⟨0, by omega, by omega, rfl, HW, BX, [], Lib.hid trivial, Lib.hid (World.ownsRow_nil _ _ _ _)⟩
  case round =>
    clear HW BX
    obtain ⟨k, hk, hgg, rfl, HW, BX, ps, HM, O1⟩ := hrel
    by_cases hlt : k < 4
    · have hkz : (k : Int) < 4 := by omega
      have hk0 : (0 : Int) ≤ k := by omega
      have hx := HX.out k hlt
      have HLN := Lib.hid (show ps.length ≤ 4 by have h1 := HM.out.len; have h2 := axL_len j lo hi k; omega)
      have hkk : Bw wr (wr.alloc (.cells #[.int .i64 k] 3)) := Bw.alloc (Bw.refl wr) _
      obtain ⟨gc, hgc⟩ : ∃ gc, wr.heap.size = gc := ⟨_, rfl⟩
      have KB := Lib.hid (Blk.new wr 3 #[.int .i64 k])
      rw [hgc] at KB
      go_upto_region 5 with fail
      obtain ⟨W1, hW1⟩ : ∃ W1, wr.alloc (.cells #[.int .i64 k] 3) = W1 := ⟨_, rfl⟩
      rw [hW1] at KB hkk ⊢
      clear hW1 hgc
      replace HW := Lib.hid (HW.out.trans hkk)
      replace BX := Lib.hid (BX.out.bw hkk)
      replace O1 := Lib.hid (own_bw O1.out hkk)
      replace HM := Lib.hid (HM.out.mono hkk)
      clear hkk
      have k0 := KB.out.cell (j := 0) (v := .int .i64 k) rfl
      have FK := Lib.hid (fnB_axis (c := BB) (d := gc) hlt (HF.out.mono HW.out) BX.out KB.out)
      by_cases hin : lo ≤ k ∧ k < hi
      · have hz1 : (lo : Int) ≤ k := by omega
        have hz2 : (k : Int) < hi := by omega
        have HAX := Lib.hid (show axL j lo hi (k + 1) = axL j lo hi k ++ [(bitsA k, true, j + k)] by rw [axL, if_pos hin])
        go_wp2_with (at_builtin; have hba := Bw.alloc (Bw.refl W1) (.cells #[.int .i64 (bitsA k), .bool true, .func (.func 77) #[] #[.pointer (some ⟨BB, 0, none⟩), .pointer (some ⟨gc, 0, none⟩)]] 89); have NB := Lib.hid (Blk.new W1 89 #[.int .i64 (bitsA k), .bool true, .func (.func 77) #[] #[.pointer (some ⟨BB, 0, none⟩), .pointer (some ⟨gc, 0, none⟩)]]); replace O1 := Lib.hid (own_bw O1.out hba); replace HW := Lib.hid (HW.out.trans hba); refine wpList_append_pts rfl (.tmp 23) (.tmp 27) _ rfl BB Tryd.underlying77 _ ps [⟨bitsA k, true, .func (.func 77) #[] #[.pointer (some ⟨BB, 0, none⟩), .pointer (some ⟨gc, 0, none⟩)]⟩] rfl O1.out _ 1 _ rfl rfl (pt_news NB.out) (by intro p hp; simp at hp; subst hp; rfl) (by have := HLN.out; omega) (by have := HW.out.size; have := HB.out; simp only [World.size_alloc] at *; omega) ?_; intro v8 w8 hown hgr; have HKS := Lib.hid ((Ks.of_bw hba).trans (Ks.grown O1.out hgr)); replace HW := Lib.hid (bw_grownP HB.out HW.out O1.out hgr); replace O1 := Lib.hid hown; clear hown hgr hba NB)
        go_roundg (4 - (k + 1))
        case measure => omega
        case rel => exact ⟨k + 1, by omega, by omega, by go_num, HW, Lib.hid (HKS.out.kept _ _ _ (by decide) BX.out), ps ++ [⟨bitsA k, true, _⟩], Lib.hid (by rw [HAX.out]; exact MtL.append (MtL.one rfl rfl (FK.out.ks HKS.out)) (HM.out.ks HKS.out)), O1⟩
      · have HAX := Lib.hid (show axL j lo hi (k + 1) = axL j lo hi k by rw [axL, if_neg hin, List.append_nil])
        by_cases hl : (lo : Int) ≤ k
        · have hz2 : ¬ (k : Int) < hi := by omega
          go_wp2
          go_roundg (4 - (k + 1))
          case measure => omega
          case rel => exact ⟨k + 1, by omega, by omega, by go_num, HW, BX, ps, Lib.hid (by rw [HAX.out]; exact HM.out), O1⟩
        · go_wp2
          go_roundg (4 - (k + 1))
          case measure => omega
          case rel => exact ⟨k + 1, by omega, by omega, by go_num, HW, BX, ps, Lib.hid (by rw [HAX.out]; exact HM.out), O1⟩
    · obtain rfl : k = 4 := by omega
      have hkz : ¬ ((4 : Nat) : Int) < 4 := by omega
      have HLN := Lib.hid (show ps.length ≤ 4 by have h1 := HM.out.len; have h2 := axL_len j lo hi 4; omega)
      have HR := Lib.hid (own_rdP O1.out (by have := HLN.out; omega) (MtL.oneC HM.out))
      go_wp2
      go_ret
      exact ⟨⟨_, rfl, ps, HR.out.1, HM.out, HR.out.2⟩, HW.out⟩
end Go.Proofs.Sky

namespace Go.Proofs.Sky
open Go Go.RowKit Go.Shelf
set_option maxHeartbeats 4000000
set_option maxRecDepth 4000
theorem rdP_blk {w : World} {g : Nat} {T : TypeId} {ps : List Pt} {n : Nat} (h : Blk w g T (flatP ps).toArray) (hn : n = ps.length) (hl : n ≤ 1000) (hf : ∀ p ∈ ps, p.f.oneCell' = true) : RdP3 w (.slice (some ⟨g, 0, none⟩) n n) ps :=
  ⟨by omega, hf, _, _, by rw [hn], by omega, .inr ⟨g, 0, rfl, h.lt, fun j u hu => by rw [Nat.zero_add]; exact h.cell (by simpa using hu)⟩⟩
theorem Concat2 (v1 v2 : Value) (L1 L2 : List (Int × Bool × Nat)) (b1 b2 b : Nat) (T : TypeId) (w : World) (h1 : LayAt w b1 v1 L1) (h2 : LayAt w b2 v2 L2) (l1 : 0 < L1.length ∧ L1.length ≤ 100) (l2 : 0 < L2.length ∧ L2.length ≤ 100) (hB : Blk w b T #[v1, v2]) :
    Calls Tryd.prog 70 #[.slice (some ⟨b, 0, none⟩) 2 2] w fun e w' => (∃ v, e = .returned v ∧ LayAt w' w.heap.size v (L1 ++ L2)) ∧ Bw w w' := by
  obtain ⟨p1, r1, m1, _⟩ := h1
  obtain ⟨p2, r2, m2, _⟩ := h2
  have e1 := m1.len
  have e2 := m2.len
  refine (Concat_any (fun i => if i = 0 then v1 else v2) (fun i => if i = 0 then p1 else p2) 2 b 2 w (by omega) (by omega) (fun i hi => ?_) (fun i hi => ?_) (fun i hi => ?_)).mono ?_
  · match i, hi with
    | 0, _ => exact hB.cell rfl
    | 1, _ => exact hB.cell rfl
  · match i, hi with
    | 0, _ => exact r1
    | 1, _ => exact r2
  · match i, hi with
    | 0, _ => exact ⟨by show 0 < p1.length; omega, by show p1.length ≤ 100; omega⟩
    | 1, _ => exact ⟨by show 0 < p2.length; omega, by show p2.length ≤ 100; omega⟩
  · rintro e w' ⟨⟨v, rfl, hr, hf⟩, hb⟩
    exact ⟨⟨v, rfl, _, hr, MtL.append (m2.mono hb) (m1.mono hb), hf⟩, hb⟩
theorem Concat3 (v1 v2 v3 : Value) (L1 L2 L3 : List (Int × Bool × Nat)) (b1 b2 b3 b : Nat) (T : TypeId) (w : World) (h1 : LayAt w b1 v1 L1) (h2 : LayAt w b2 v2 L2) (h3 : LayAt w b3 v3 L3) (l1 : 0 < L1.length ∧ L1.length ≤ 100) (l2 : 0 < L2.length ∧ L2.length ≤ 100) (l3 : 0 < L3.length ∧ L3.length ≤ 100) (hB : Blk w b T #[v1, v2, v3]) :
    Calls Tryd.prog 70 #[.slice (some ⟨b, 0, none⟩) 3 3] w fun e w' => (∃ v, e = .returned v ∧ LayAt w' w.heap.size v (L1 ++ L2 ++ L3)) ∧ Bw w w' := by
  obtain ⟨p1, r1, m1, _⟩ := h1
  obtain ⟨p2, r2, m2, _⟩ := h2
  obtain ⟨p3, r3, m3, _⟩ := h3
  have e1 := m1.len
  have e2 := m2.len
  have e3 := m3.len
  refine (Concat_any (fun i => if i = 0 then v1 else if i = 1 then v2 else v3) (fun i => if i = 0 then p1 else if i = 1 then p2 else p3) 3 b 3 w (by omega) (by omega) (fun i hi => ?_) (fun i hi => ?_) (fun i hi => ?_)).mono ?_
  · match i, hi with
    | 0, _ => exact hB.cell rfl
    | 1, _ => exact hB.cell rfl
    | 2, _ => exact hB.cell rfl
  · match i, hi with
    | 0, _ => exact r1
    | 1, _ => exact r2
    | 2, _ => exact r3
  · match i, hi with
    | 0, _ => exact ⟨by show 0 < p1.length; omega, by show p1.length ≤ 100; omega⟩
    | 1, _ => exact ⟨by show 0 < p2.length; omega, by show p2.length ≤ 100; omega⟩
    | 2, _ => exact ⟨by show 0 < p3.length; omega, by show p3.length ≤ 100; omega⟩
  · rintro e w' ⟨⟨v, rfl, hr, hf⟩, hb⟩
    exact ⟨⟨v, rfl, _, hr, MtL.append (m3.mono hb) (MtL.append (m2.mono hb) (m1.mono hb)), hf⟩, hb⟩
def hdL : List (Int × Bool × Nat) := [(8, false, 1), (6, false, 0)]
def clL : Nat → List (Int × Bool × Nat)
  | 0 => [(20, false, 2), (16, false, 3)]
  | k + 1 => clL k ++ [(bitsC k, true, 4 + k)]
theorem clL_len : ∀ k, (clL k).length = 2 + k := by
  intro k
  induction k with
  | zero => rfl
  | succ k ih => rw [clL, List.length_append, ih]; simp; omega
/-- the numbers of the three frames: bits, signed, where they belong -/
def LS : Nat → List (Int × Bool × Nat)
  | 0 => [(8, false, 1), (6, false, 0), (20, false, 2), (16, false, 3), (32, true, 4), (24, true, 5), (16, true, 6)]
  | 1 => [(8, false, 1), (6, false, 0), (32, true, 7), (24, true, 8), (22, true, 9), (24, true, 10), (32, true, 11), (24, true, 12)]
  | _ => [(8, false, 1), (6, false, 0), (22, true, 13), (24, true, 14), (32, true, 15), (24, true, 16), (22, true, 17), (24, true, 18)]
theorem ls0 : hdL ++ clL 3 = LS 0 := by decide
theorem ls1 : hdL ++ axL 7 0 4 4 ++ axL 11 0 2 4 = LS 1 := by decide
theorem ls2 : hdL ++ axL 11 2 4 4 ++ axL 15 0 4 4 = LS 2 := by decide
def LayQ (base : Nat) (e : Ending) (w' : World) : Prop := ∃ v0 v1 v2, e = .returned (.agg #[v0, v1, v2]) ∧ LayAt w' base v0 (LS 0) ∧ LayAt w' base v1 (LS 1) ∧ LayAt w' base v2 (LS 2)
theorem layouts_any (w : World) : Calls Tryd.prog 46 #[] w fun e w' => LayQ w.heap.size e w' ∧ Bw w w' := by
  have HX := Lib.hid (fun k h w => ix3 k h w)
  have hmf : ∀ (fn : Fn) (first cap : Array Value) (w : World), (Instr.makeFunc fn first cap).run Tryd.prog w = .ok (.func fn first cap) w := fun _ _ _ _ => rfl
  have AX := Lib.hid (fun fv j lo hi W h hlh => axis_any fv j lo hi W h hlh)
  have RX := Lib.hid (Blk.new w 78 #[.slice none 0 0, .slice none 0 0, .slice none 0 0])
  have HBW := Lib.hid (Bw.alloc (Bw.refl w) (.cells #[.slice none 0 0, .slice none 0 0, .slice none 0 0] 78))
  go_enter Tryd.func46, Tryd.ntmps46
  go_upto_region 1 with fail
  obtain ⟨W0, hW0⟩ : ∃ W0, w.alloc (.cells #[.slice none 0 0, .slice none 0 0, .slice none 0 0] 78) = W0 := ⟨_, rfl⟩
  rw [hW0] at RX HBW ⊢
  clear hW0
  have HDB := Lib.hid (Blk.new W0 89 #[.int .i64 8, .bool false, .func (.func 62) #[] #[], .int .i64 6, .bool false, .func (.func 63) #[] #[]])
  have hb1 := Bw.alloc (Bw.refl W0) (.cells #[.int .i64 8, .bool false, .func (.func 62) #[] #[], .int .i64 6, .bool false, .func (.func 63) #[] #[]] 89)
  obtain ⟨gh, hgh⟩ : ∃ gh, W0.heap.size = gh := ⟨_, rfl⟩
  rw [hgh] at HDB
  go_upto_region 2 with fail
  obtain ⟨W1, hW1⟩ : ∃ W1, W0.alloc (.cells #[.int .i64 8, .bool false, .func (.func 62) #[] #[], .int .i64 6, .bool false, .func (.func 63) #[] #[]] 89) = W1 := ⟨_, rfl⟩
  rw [hW1] at HDB hb1 ⊢
  clear hW1
  replace RX := Lib.hid (RX.out.bw hb1)
  replace HBW := Lib.hid (HBW.out.trans hb1)
  clear hb1 hgh
  have HHD : Hid (LayAt W1 0 (.slice (some ⟨gh, 0, none⟩) 2 2) hdL) := Lib.hid ⟨[⟨8, false, .func (.func 62) #[] #[]⟩, ⟨6, false, .func (.func 63) #[] #[]⟩], rdP_blk HDB.out rfl (by decide) (by intro p hp; simp at hp; rcases hp with rfl | rfl <;> rfl), ⟨rfl, rfl, fnB_issue _, rfl, rfl, fnB_prn _, trivial⟩, fun b _ => Nat.zero_le b⟩
  clear HDB
  obtain ⟨BB, hBB⟩ : ∃ BB, W1.heap.size = BB := ⟨_, rfl⟩
  have HB := Lib.hid hBB
  have O1 := Lib.hid (World.ownsRow_lit (base := BB) (e := 89) (size := 3) W1 #[.int .i64 20, .bool false, .func (.func 67) #[] #[], .int .i64 16, .bool false, .func (.func 68) #[] #[]] 2 (by omega) (by unfold maxLen; omega) rfl)
  have HW := Lib.hid (Bw.alloc (Bw.refl W1) (.cells #[.int .i64 20, .bool false, .func (.func 67) #[] #[], .int .i64 16, .bool false, .func (.func 68) #[] #[]] 89))
  rw [hBB] at O1
  go_upto_region 6 with fail
  obtain ⟨Wf, hWf⟩ : ∃ Wf, W1.alloc (.cells #[.int .i64 20, .bool false, .func (.func 67) #[] #[], .int .i64 16, .bool false, .func (.func 68) #[] #[]] 89) = Wf := ⟨_, rfl⟩
  rw [hWf] at O1 HW ⊢
  clear hWf hBB
  have HM : Hid (MtL Wf [⟨20, false, .func (.func 67) #[] #[]⟩, ⟨16, false, .func (.func 68) #[] #[]⟩] (clL 0)) := Lib.hid ⟨rfl, rfl, fnB_t0 _, rfl, rfl, fnB_acc _, trivial⟩
  go_wp2
  go_loopg [5, 15] 3 (fun gg s5 s15 wr => ∃ k : Nat, k ≤ 3 ∧ 3 - k ≤ gg ∧ s15 = .int .i64 k ∧ Hid (Bw W1 wr) ∧ ∃ ps, Hid (MtL wr ps (clL k)) ∧ Hid (wr.ownsRow BB 89 3 s5 ps.length (flatP ps)))
  case atStart => exact ⟨0, by omega, by omega, rfl, HW, _, HM, O1⟩
  case round =>
    clear HW HM O1
    obtain ⟨k, hk, hgg, rfl, HW, ps, HM, O1⟩ := hrel
    have HLN := Lib.hid (show ps.length ≤ 5 by have h1 := HM.out.len; have h2 := clL_len k; omega)
    by_cases hlt : k < 3
    · have hkz : (k : Int) < 3 := by omega
      have hk0 : (0 : Int) ≤ k := by omega
      have hx := HX.out k hlt
      have hkk : Bw wr (wr.alloc (.cells #[.int .i64 k] 3)) := Bw.alloc (Bw.refl wr) _
      obtain ⟨gc, hgc⟩ : ∃ gc, wr.heap.size = gc := ⟨_, rfl⟩
      have KB := Lib.hid (Blk.new wr 3 #[.int .i64 k])
      rw [hgc] at KB
      go_upto_region 9 with fail
      obtain ⟨W2, hW2⟩ : ∃ W2, wr.alloc (.cells #[.int .i64 k] 3) = W2 := ⟨_, rfl⟩
      rw [hW2] at KB hkk ⊢
      clear hW2 hgc
      replace HW := Lib.hid (HW.out.trans hkk)
      replace O1 := Lib.hid (own_bw O1.out hkk)
      replace HM := Lib.hid (HM.out.mono hkk)
      clear hkk
      have FK := Lib.hid (fnB_clock (c := gc) hlt KB.out)
      go_wp2_with (at_builtin; have hba := Bw.alloc (Bw.refl W2) (.cells #[.int .i64 (bitsC k), .bool true, .func (.func 69) #[] #[.pointer (some ⟨gc, 0, none⟩)]] 89); have NB := Lib.hid (Blk.new W2 89 #[.int .i64 (bitsC k), .bool true, .func (.func 69) #[] #[.pointer (some ⟨gc, 0, none⟩)]]); replace O1 := Lib.hid (own_bw O1.out hba); replace HW := Lib.hid (HW.out.trans hba); refine wpList_append_pts rfl (.tmp 19) (.tmp 23) _ rfl BB Tryd.underlying77 _ ps [⟨bitsC k, true, .func (.func 69) #[] #[.pointer (some ⟨gc, 0, none⟩)]⟩] rfl O1.out _ 1 _ rfl rfl (pt_news NB.out) (by intro p hp; simp at hp; subst hp; rfl) (by have := HLN.out; omega) (by have := HW.out.size; have := HB.out; simp only [World.size_alloc] at *; omega) ?_; intro v8 w8 hown hgr; have HKS := Lib.hid ((Ks.of_bw hba).trans (Ks.grown O1.out hgr)); replace HW := Lib.hid (bw_grownP HB.out HW.out O1.out hgr); replace O1 := Lib.hid hown; clear hown hgr hba NB)
      go_roundg (3 - (k + 1))
      case measure => omega
      case rel => exact ⟨k + 1, by omega, by omega, by go_num, HW, ps ++ [⟨bitsC k, true, .func (.func 69) #[] #[.pointer (some ⟨gc, 0, none⟩)]⟩], Lib.hid (MtL.append (MtL.one rfl rfl (FK.out.ks HKS.out)) (HM.out.ks HKS.out)), O1⟩
    · obtain rfl : k = 3 := by omega
      have hrp := own_rdP O1.out (by have := HLN.out; omega) (MtL.oneC HM.out)
      obtain ⟨a5, c5, hv5⟩ := own_form2 O1.out
      subst hv5
      have HFS : Hid (LayAt wr BB (.slice a5 ps.length c5) (clL 3)) := Lib.hid ⟨ps, hrp.1, HM.out, hrp.2⟩
      have hpl : ps.length = 5 := by have h1 := HM.out.len; have h2 := clL_len 3; omega
      rw [hpl] at HFS ⊢
      replace HHD := Lib.hid (HHD.out.mono HW.out)
      replace RX := Lib.hid (RX.out.bw HW.out)
      replace HBW := Lib.hid (HBW.out.trans HW.out)
      have HSZ := Lib.hid (show w.heap.size ≤ wr.heap.size from HBW.out.size)
      clear HW O1 HM hrp hpl HLN
      go_wp2_with (first | (go_at_call 70; (with_reducible refine Calls.mono (Concat2 (.slice (some ⟨gh, 0, none⟩) 2 2) (.slice a5 5 c5) _ _ _ _ _ 77 _ (HHD.out.mono (Bw.alloc (Bw.refl wr) (.cells #[.slice (some ⟨gh, 0, none⟩) 2 2, .slice a5 5 c5] 77))) (HFS.out.mono (Bw.alloc (Bw.refl wr) (.cells #[.slice (some ⟨gh, 0, none⟩) 2 2, .slice a5 5 c5] 77))) (by decide) (by decide) (Blk.new wr 77 #[.slice (some ⟨gh, 0, none⟩) 2 2, .slice a5 5 c5])) ?_); rintro e1 x1 ⟨⟨v29, rfl, hl9⟩, hb9⟩; obtain ⟨a_v29, c_v29, hv9⟩ := hl9.form; replace hv9 : v29 = .slice a_v29 7 c_v29 := hv9; subst hv9; have H29 := Lib.hid (hl9.down (show w.heap.size + 1 ≤ _ by have := RX.out.lt; simp only [World.size_alloc]; omega)); replace hb9 := (Bw.alloc (Bw.refl wr) (.cells #[.slice (some ⟨gh, 0, none⟩) 2 2, .slice a5 5 c5] 77)).trans hb9; clear hl9; replace HHD := Lib.hid (HHD.out.mono hb9); replace HFS := Lib.hid (HFS.out.mono hb9); replace RX := Lib.hid (RX.out.bw hb9); replace HBW := Lib.hid (HBW.out.trans hb9); clear hb9) | (go_at_call 71; (with_reducible refine Calls.mono (AX.out (.func (.func 64) #[] #[]) 7 0 4 _ (fnB_x _) (by omega)) ?_); rintro e1 x2 ⟨⟨v32, rfl, hl9⟩, hb9⟩; obtain ⟨a_v32, c_v32, hv9⟩ := hl9.form; replace hv9 : v32 = .slice a_v32 4 c_v32 := hv9; subst hv9; have H32 := Lib.hid hl9; clear hl9; replace HHD := Lib.hid (HHD.out.mono hb9); replace HFS := Lib.hid (HFS.out.mono hb9); replace H29 := Lib.hid (H29.out.mono hb9); replace RX := Lib.hid (RX.out.bw hb9); replace HBW := Lib.hid (HBW.out.trans hb9); clear hb9) | (go_at_call 71; (with_reducible refine Calls.mono (AX.out (.func (.func 65) #[] #[]) 11 0 2 _ (fnB_y _) (by omega)) ?_); rintro e1 x3 ⟨⟨v34, rfl, hl9⟩, hb9⟩; obtain ⟨a_v34, c_v34, hv9⟩ := hl9.form; replace hv9 : v34 = .slice a_v34 2 c_v34 := hv9; subst hv9; have H34 := Lib.hid hl9; clear hl9; replace HHD := Lib.hid (HHD.out.mono hb9); replace HFS := Lib.hid (HFS.out.mono hb9); replace H29 := Lib.hid (H29.out.mono hb9); replace H32 := Lib.hid (H32.out.mono hb9); replace RX := Lib.hid (RX.out.bw hb9); replace HBW := Lib.hid (HBW.out.trans hb9); clear hb9) | (go_at_call 70; (with_reducible refine Calls.mono (Concat3 (.slice (some ⟨gh, 0, none⟩) 2 2) (.slice a_v32 4 c_v32) (.slice a_v34 2 c_v34) _ _ _ _ _ _ _ 77 _ (HHD.out.mono (Bw.alloc (Bw.refl x3) (.cells #[.slice (some ⟨gh, 0, none⟩) 2 2, .slice a_v32 4 c_v32, .slice a_v34 2 c_v34] 77))) (H32.out.mono (Bw.alloc (Bw.refl x3) (.cells #[.slice (some ⟨gh, 0, none⟩) 2 2, .slice a_v32 4 c_v32, .slice a_v34 2 c_v34] 77))) (H34.out.mono (Bw.alloc (Bw.refl x3) (.cells #[.slice (some ⟨gh, 0, none⟩) 2 2, .slice a_v32 4 c_v32, .slice a_v34 2 c_v34] 77))) (by decide) (by decide) (by decide) (Blk.new x3 77 #[.slice (some ⟨gh, 0, none⟩) 2 2, .slice a_v32 4 c_v32, .slice a_v34 2 c_v34])) ?_); rintro e1 x4 ⟨⟨v36, rfl, hl9⟩, hb9⟩; obtain ⟨a_v36, c_v36, hv9⟩ := hl9.form; replace hv9 : v36 = .slice a_v36 8 c_v36 := hv9; subst hv9; have H36 := Lib.hid (hl9.down (show w.heap.size + 1 ≤ _ by have := RX.out.lt; simp only [World.size_alloc]; omega)); replace hb9 := (Bw.alloc (Bw.refl x3) (.cells #[.slice (some ⟨gh, 0, none⟩) 2 2, .slice a_v32 4 c_v32, .slice a_v34 2 c_v34] 77)).trans hb9; clear hl9; replace HHD := Lib.hid (HHD.out.mono hb9); replace HFS := Lib.hid (HFS.out.mono hb9); replace H29 := Lib.hid (H29.out.mono hb9); replace H32 := Lib.hid (H32.out.mono hb9); replace H34 := Lib.hid (H34.out.mono hb9); replace RX := Lib.hid (RX.out.bw hb9); replace HBW := Lib.hid (HBW.out.trans hb9); clear hb9) | (go_at_call 71; (with_reducible refine Calls.mono (AX.out (.func (.func 65) #[] #[]) 11 2 4 _ (fnB_y _) (by omega)) ?_); rintro e1 x5 ⟨⟨v39, rfl, hl9⟩, hb9⟩; obtain ⟨a_v39, c_v39, hv9⟩ := hl9.form; replace hv9 : v39 = .slice a_v39 2 c_v39 := hv9; subst hv9; have H39 := Lib.hid hl9; clear hl9; replace HHD := Lib.hid (HHD.out.mono hb9); replace HFS := Lib.hid (HFS.out.mono hb9); replace H29 := Lib.hid (H29.out.mono hb9); replace H32 := Lib.hid (H32.out.mono hb9); replace H34 := Lib.hid (H34.out.mono hb9); replace H36 := Lib.hid (H36.out.mono hb9); replace RX := Lib.hid (RX.out.bw hb9); replace HBW := Lib.hid (HBW.out.trans hb9); clear hb9) | (go_at_call 71; (with_reducible refine Calls.mono (AX.out (.func (.func 66) #[] #[]) 15 0 4 _ (fnB_z _) (by omega)) ?_); rintro e1 x6 ⟨⟨v41, rfl, hl9⟩, hb9⟩; obtain ⟨a_v41, c_v41, hv9⟩ := hl9.form; replace hv9 : v41 = .slice a_v41 4 c_v41 := hv9; subst hv9; have H41 := Lib.hid hl9; clear hl9; replace HHD := Lib.hid (HHD.out.mono hb9); replace HFS := Lib.hid (HFS.out.mono hb9); replace H29 := Lib.hid (H29.out.mono hb9); replace H32 := Lib.hid (H32.out.mono hb9); replace H34 := Lib.hid (H34.out.mono hb9); replace H36 := Lib.hid (H36.out.mono hb9); replace H39 := Lib.hid (H39.out.mono hb9); replace RX := Lib.hid (RX.out.bw hb9); replace HBW := Lib.hid (HBW.out.trans hb9); clear hb9) | (go_at_call 70; (with_reducible refine Calls.mono (Concat3 (.slice (some ⟨gh, 0, none⟩) 2 2) (.slice a_v39 2 c_v39) (.slice a_v41 4 c_v41) _ _ _ _ _ _ _ 77 _ (HHD.out.mono (Bw.alloc (Bw.refl x6) (.cells #[.slice (some ⟨gh, 0, none⟩) 2 2, .slice a_v39 2 c_v39, .slice a_v41 4 c_v41] 77))) (H39.out.mono (Bw.alloc (Bw.refl x6) (.cells #[.slice (some ⟨gh, 0, none⟩) 2 2, .slice a_v39 2 c_v39, .slice a_v41 4 c_v41] 77))) (H41.out.mono (Bw.alloc (Bw.refl x6) (.cells #[.slice (some ⟨gh, 0, none⟩) 2 2, .slice a_v39 2 c_v39, .slice a_v41 4 c_v41] 77))) (by decide) (by decide) (by decide) (Blk.new x6 77 #[.slice (some ⟨gh, 0, none⟩) 2 2, .slice a_v39 2 c_v39, .slice a_v41 4 c_v41])) ?_); rintro e1 x7 ⟨⟨v43, rfl, hl9⟩, hb9⟩; obtain ⟨a_v43, c_v43, hv9⟩ := hl9.form; replace hv9 : v43 = .slice a_v43 8 c_v43 := hv9; subst hv9; have H43 := Lib.hid (hl9.down (show w.heap.size + 1 ≤ _ by have := RX.out.lt; simp only [World.size_alloc]; omega)); replace hb9 := (Bw.alloc (Bw.refl x6) (.cells #[.slice (some ⟨gh, 0, none⟩) 2 2, .slice a_v39 2 c_v39, .slice a_v41 4 c_v41] 77)).trans hb9; clear hl9; replace HHD := Lib.hid (HHD.out.mono hb9); replace HFS := Lib.hid (HFS.out.mono hb9); replace H29 := Lib.hid (H29.out.mono hb9); replace H32 := Lib.hid (H32.out.mono hb9); replace H34 := Lib.hid (H34.out.mono hb9); replace H36 := Lib.hid (H36.out.mono hb9); replace H39 := Lib.hid (H39.out.mono hb9); replace H41 := Lib.hid (H41.out.mono hb9); replace RX := Lib.hid (RX.out.bw hb9); replace HBW := Lib.hid (HBW.out.trans hb9); clear hb9) | ((with_reducible refine at_store 78 (.tmp 0) (.tmp 44) ?_); refine wpList_store_row rfl 78 (.tmp 0) (.tmp 44) rfl w.heap.size #[.slice a_v29 7 c_v29, .slice a_v36 8 c_v36, .slice a_v43 8 c_v43] rfl rfl 78 _ RX.out (by kernel_rfl) rfl (by simp [Value.oneCell']) ?_))
      have F3 := RX.out.row #[.slice a_v29 7 c_v29, .slice a_v36 8 c_v36, .slice a_v43 8 c_v43]
      have B3 := Bw.setRow HBW.out (show w.heap.size ≤ w.heap.size from Nat.le_refl _) #[.slice a_v29 7 c_v29, .slice a_v36 8 c_v36, .slice a_v43 8 c_v43]
      have Q0 := (H29.out.row RX.out (Nat.lt_succ_self _) #[.slice a_v29 7 c_v29, .slice a_v36 8 c_v36, .slice a_v43 8 c_v43]).down (Nat.le_succ _)
      have Q1 := (H36.out.row RX.out (Nat.lt_succ_self _) #[.slice a_v29 7 c_v29, .slice a_v36 8 c_v36, .slice a_v43 8 c_v43]).down (Nat.le_succ _)
      have Q2 := (H43.out.row RX.out (Nat.lt_succ_self _) #[.slice a_v29 7 c_v29, .slice a_v36 8 c_v36, .slice a_v43 8 c_v43]).down (Nat.le_succ _)
      rw [ls0] at Q0
      rw [ls1] at Q1
      rw [ls2] at Q2
      have m0 := F3.cell (j := 0) (v := .slice a_v29 7 c_v29) rfl
      have m1 := F3.cell (j := 1) (v := .slice a_v36 8 c_v36) rfl
      have m2 := F3.cell (j := 2) (v := .slice a_v43 8 c_v43) rfl
      generalize World.setRow x7 _ _ = WF at m0 m1 m2 B3 Q0 Q1 Q2 ⊢
      clear F3
      refine bodyPost_ret (v := .agg #[.slice a_v29 7 c_v29, .slice a_v36 8 c_v36, .slice a_v43 8 c_v43]) ?_ rfl ⟨⟨_, _, _, rfl, Q0, Q1, Q2⟩, B3⟩
      simp [results, Tryd.results46, go_sem, m0, m1, m2]
end Go.Proofs.Sky

namespace Go.Proofs.Sky
def rnd (x : Int) (s : Nat) : Int := if x < 0 then -((2 ^ s / 2 - x) / 2 ^ s) else (x + 2 ^ s / 2) / 2 ^ s
def gq (b : Int) : Int := 2 ^ (b.toNat - 1) - 1
def clampI (x q : Int) : Int := min (max x (-q)) q
def okG (b s : Int) : Bool := decide (2 ≤ b ∧ b ≤ 8 ∧ 0 ≤ s ∧ s ≤ 30)
theorem okG_iff (b s : Int) : okG b s = true ↔ (2 ≤ b ∧ b ≤ 8 ∧ 0 ≤ s ∧ s ≤ 30) := by simp [okG]
theorem okG_not (b s : Int) (h : ¬ (2 ≤ b ∧ b ≤ 8 ∧ 0 ≤ s ∧ s ≤ 30)) : okG b s = false := by simp only [okG, decide_eq_false_iff_not]; exact h
theorem pow_pos' (s : Nat) : (1 : Int) ≤ 2 ^ s := by
  have : (0:Int) < 2 ^ s := Int.pow_pos (by decide)
  omega
theorem pow_le (s n : Nat) (h : s ≤ n) : (2 : Int) ^ s ≤ 2 ^ n := by
  have := Nat.pow_le_pow_right (n := 2) (by decide) h
  exact_mod_cast this
theorem pow30 (s : Nat) (h : s ≤ 30) : (1 : Int) ≤ 2 ^ s ∧ (2 : Int) ^ s ≤ 1073741824 := ⟨pow_pos' s, by have := pow_le s 30 h; simpa using this⟩
theorem gq_bd (b : Int) (h : 2 ≤ b) (h' : b ≤ 8) : 1 ≤ gq b ∧ gq b ≤ 127 := by
  unfold gq
  have h1 := pow_le 1 (b.toNat - 1) (by omega)
  have h2 := pow_le (b.toNat - 1) 7 (by omega)
  simp at h1 h2
  omega
theorem rnd_zero (x : Int) : rnd x 0 = x := by
  unfold rnd
  split <;> simp
theorem rnd_neg (x : Int) (s : Nat) : rnd (-x) s = - rnd x s := by
  unfold rnd
  by_cases h0 : x = 0
  · subst h0
    have h1 := pow_pos' s
    have : (2:Int) ^ s / 2 / 2 ^ s = 0 := Int.ediv_eq_zero_of_lt (by omega) (by omega)
    simp [this]
  · by_cases h : x < 0
    · rw [if_neg (by omega), if_pos h]
      have : -x + 2 ^ s / 2 = 2 ^ s / 2 - x := by omega
      rw [this]; omega
    · rw [if_pos (by omega), if_neg h]
      have : x + 2 ^ s / 2 = 2 ^ s / 2 - -x := by omega
      rw [this]
theorem rnd_pos (x : Int) (s : Nat) (h : 0 ≤ x) : 0 ≤ rnd x s := by
  unfold rnd
  have h1 := pow_pos' s
  rw [if_neg (by omega)]
  exact Int.ediv_nonneg (by omega) (by omega)
theorem rnd_le (x : Int) (s : Nat) (h : 0 ≤ x) : rnd x s ≤ x := by
  unfold rnd
  have h1 := pow_pos' s
  rw [if_neg (by omega)]
  by_cases hs : (2:Int) ^ s = 1
  · rw [hs]; simp
  · by_cases hx : x = 0
    · subst hx
      rw [Int.ediv_eq_zero_of_lt (by omega) (by omega)]; omega
    · have h2 : (2:Int) ^ s / 2 ≤ x * (2 ^ s - 1) := by
        have : (1:Int) * (2 ^ s - 1) ≤ x * (2 ^ s - 1) := Int.mul_le_mul_of_nonneg_right (by omega) (by omega)
        omega
      have h3 : x + 2 ^ s / 2 ≤ x * 2 ^ s := by
        have : x * (2 ^ s - 1) = x * 2 ^ s - x := by rw [Int.mul_sub]; omega
        omega
      exact Int.ediv_le_of_le_mul (by omega) h3
theorem rnd_bd (x : Int) (s : Nat) (h1 : -70368744177664 ≤ x) (h2 : x ≤ 70368744177664) : -70368744177664 ≤ rnd x s ∧ rnd x s ≤ 70368744177664 := by
  by_cases h : 0 ≤ x
  · have := rnd_pos x s h
    have := rnd_le x s h
    omega
  · have h3 := rnd_neg (-x) s
    rw [Int.neg_neg] at h3
    have := rnd_pos (-x) s (by omega)
    have := rnd_le (-x) s (by omega)
    omega
/-- the reference's way to round -/
theorem rnd_ref (x : Int) (s : Nat) (h : 0 ≤ x) (hs : s ≠ 0) : (x + 2 ^ (s - 1)) / 2 ^ s = rnd x s := by
  unfold rnd
  rw [if_neg (by omega)]
  obtain ⟨k, rfl⟩ : ∃ k, s = k + 1 := ⟨s - 1, by omega⟩
  have : (2:Int) ^ (k + 1) / 2 = 2 ^ k := by rw [Int.pow_succ]; omega
  rw [this]; rfl
theorem clampI_ite (r q : Int) (h : 0 ≤ q) : clampI r q = if r < -q then -q else if q < r then q else r := by
  unfold clampI
  split
  · omega
  · split <;> omega
def errG (b s : Int) : Int := if okG b s then 0 else 2
theorem errG_ok (b s : Int) (h : 2 ≤ b ∧ b ≤ 8 ∧ 0 ≤ s ∧ s ≤ 30) : errG b s = 0 := by unfold errG; rw [(okG_iff b s).2 h]; rfl
theorem errG_no (b s : Int) (h : ¬ (2 ≤ b ∧ b ≤ 8 ∧ 0 ≤ s ∧ s ≤ 30)) : errG b s = 2 := by unfold errG; rw [okG_not b s h]; rfl
end Go.Proofs.Sky
