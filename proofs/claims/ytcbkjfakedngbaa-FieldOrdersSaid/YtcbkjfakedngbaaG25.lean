/-
  lemmas for the theorems of this claim. No conditions beyond those written in the statements.
-/
import Derived.Test.YtcbkjfakedngbaaF25
set_option linter.unusedVariables false
set_option linter.unusedSimpArgs false
set_option linter.unnecessarySimpa false
namespace Go.Proofs.Sky
open Go Go.RowKit Go.Shelf
attribute [local go_sem] Oper.semAt_some
set_option maxHeartbeats 1000000
def getF (zs : List Int) (A : Nat) (pre : List Nat) : Int := pre.foldl (fun m y => 2 * m + zs.getD (A + y) 0) 0
theorem getF_snoc (zs : List Int) (A : Nat) (pre : List Nat) (y : Nat) : getF zs A (pre ++ [y]) = 2 * getF zs A pre + zs.getD (A + y) 0 := by simp [getF]
theorem getF_range (zs : List Int) (A k : Nat) : getF zs A (List.range k) = getN zs A k := by
  induction k with
  | zero => rfl
  | succ k ih => rw [List.range_succ, getF_snoc, ih, getN]
def sx (N : Nat) (m : Int) : Int := if 2 ^ (N - 1) ≤ m then m - 2 ^ N else m
theorem sx_wrap (N : Nat) (m : Int) (h1 : 1 ≤ N) (h2 : N ≤ 40) (h3 : 0 ≤ m) (h4 : m < 2 ^ N) : wrap64 (m * 2 ^ (64 - N)) / 2 ^ (64 - N) = sx N m := by
  have e64 : (2 : Int) ^ N * 2 ^ (64 - N) = 18446744073709551616 := by rw [← Int.pow_add, show N + (64 - N) = 64 by omega]; decide
  have e63 : (2 : Int) ^ (N - 1) * 2 ^ (64 - N) = 9223372036854775808 := by rw [← Int.pow_add, show N - 1 + (64 - N) = 63 by omega]; decide
  have hp := pow_pos' (64 - N)
  generalize (2 : Int) ^ (64 - N) = p at *
  unfold sx
  split
  · rename_i h
    have a1 : (2 : Int) ^ (N - 1) * p ≤ m * p := Int.mul_le_mul_of_nonneg_right h (by omega)
    have a2 : m * p < 2 ^ N * p := Int.mul_lt_mul_of_pos_right h4 (by omega)
    have e : wrap64 (m * p) = (m - 2 ^ N) * p := by rw [Int.sub_mul]; unfold wrap64; omega
    rw [e, Int.mul_ediv_cancel _ (by omega)]
  · rename_i h
    have a1 : m * p < 2 ^ (N - 1) * p := Int.mul_lt_mul_of_pos_right (by omega) (by omega)
    have a2 : 0 ≤ m * p := Int.mul_nonneg h3 (by omega)
    have e : wrap64 (m * p) = m * p := by unfold wrap64; omega
    rw [e, Int.mul_ediv_cancel _ (by omega)]
theorem get_i64 (zs : List Int) (v : Value) (A N : Nat) (g : Bool) (u c : Int) (w : World) (hv : RdI w v zs) (h : fk A N u c) (hl : A + N ≤ zs.length) (hbit : ∀ i, i < N → zs.getD (A + i) 0 = 0 ∨ zs.getD (A + i) 0 = 1) :
    Calls Try.prog 41 #[v, .agg #[.int .i64 A, .int .i64 N, .bool g, .int .i64 u, .int .i64 c]] w fun e w' => e = .returned (.int .i64 (sx N (getN zs A N))) ∧ Bw w w' := by
  have HP := Lib.hid (fun w => places_any A N g u c w)
  obtain ⟨h2, ad, cap, rfl, h4⟩ := hv
  obtain ⟨h1, h2, h3, h4', h5, h6, h7, h8, h9⟩ := h
  obtain ⟨b, off, rfl, hb, hz⟩ := h4.resolve_left (by intro e; subst e; simp at hl; omega)
  have HZ := Lib.hid hz; clear hz h4
  have HB := Lib.hid hbit; clear hbit
  (refine calls_of_marks (w.heap.size) Try.func41 rfl ?_; simp only [Try.ntmps41, List.size_toArray, List.length_cons, List.length_nil, Nat.reduceAdd, Nat.reduceSub, Array.replicate_succ, Array.replicate_zero, List.push_toArray, List.append_toArray, List.nil_append, List.cons_append])
  go_wp2_with (first | (go_at_call 40; refine (HP.out _).mono ?_; rintro e w9 ⟨rfl, rfl⟩))
  have hbw : Bw w ((((w.alloc (Obj.cells #[.slice (some ⟨b, off, none⟩) zs.length cap] 22)).alloc (Obj.cells #[.int .i64 A, .int .i64 N, .bool g, .int .i64 u, .int .i64 c] 24)).alloc (Obj.cells #[.int .i64 0] 2)).alloc (Obj.cells #[.int .i64 A, .int .i64 N, .bool g, .int .i64 u, .int .i64 c] 24)) := (by repeat (first | exact Bw.refl _ | assumption | refine Bw.alloc ?_ _ | refine Bw.drew ?_ | refine Bw.trans ?_ (by assumption) | refine Bw.setCell ?_ (by simp; try omega) _))
  obtain ⟨W0, hW0⟩ : ∃ W0, ((((w.alloc (Obj.cells #[.slice (some ⟨b, off, none⟩) zs.length cap] 22)).alloc (Obj.cells #[.int .i64 A, .int .i64 N, .bool g, .int .i64 u, .int .i64 c] 24)).alloc (Obj.cells #[.int .i64 0] 2)).alloc (Obj.cells #[.int .i64 A, .int .i64 N, .bool g, .int .i64 u, .int .i64 c] 24)) = W0 := ⟨_, rfl⟩
  have k3 : W0.cell? ⟨w.heap.size, 0, none⟩ = some (.slice (some ⟨b, off, none⟩) zs.length cap) := by rw [← hW0]; simp [go_sem]
  have kn : W0.cell? ⟨w.heap.size + 1, 1, none⟩ = some (.int .i64 N) := by rw [← hW0]; simp [go_sem]
  have k5 : W0.cell? ⟨w.heap.size + 1 + 1, 0, none⟩ = some (.int .i64 0) := by rw [← hW0]; simp [go_sem]
  have kf : W0.frozen? ⟨w.heap.size + 1 + 1, 0, none⟩ = false := by rw [← hW0]; simp [go_sem]
  have c0 : W0.cell? ⟨w.heap.size + 1 + 1 + 1, 0, none⟩ = some (.int .i64 A) := by rw [← hW0]; simp [go_sem]
  have c1 : W0.cell? ⟨w.heap.size + 1 + 1 + 1, 1, none⟩ = some (.int .i64 N) := by rw [← hW0]; simp [go_sem]
  have hsB : W0.heap.size = w.heap.size + 4 := by rw [← hW0]; simp
  have hbn : w.heap.size + 1 + 1 + 1 < W0.heap.size := by omega
  rw [hW0] at hbw ⊢
  have HS := Lib.hid hsB
  clear hW0 hsB
  refine range_places A N h1 h2 (by omega) (by omega) (w.heap.size + 1 + 1 + 1) hbn c0 c1 rfl rfl
    (fun pre W => (W.cell? ⟨w.heap.size, 0, none⟩ = some (.slice (some ⟨b, off, none⟩) zs.length cap) ∧ W.cell? ⟨w.heap.size + 1 + 1, 0, none⟩ = some (.int .i64 (getF zs A pre)) ∧ W.frozen? ⟨w.heap.size + 1 + 1, 0, none⟩ = false ∧ W.cell? ⟨w.heap.size + 1, 1, none⟩ = some (.int .i64 N)) ∧ (0 ≤ getF zs A pre ∧ getF zs A pre < 2 ^ pre.length) ∧ Bw w W ∧ W0.heap.size ≤ W.heap.size)
    (fun c _ W => False)
    (fun s X Y row hs hg hr => ⟨⟨cellK hs.1.1 hg hr, cellK hs.1.2.1 hg hr, frozenK hs.1.2.1 hs.1.2.2.1 hg hr, cellK hs.1.2.2.2 hg hr⟩, hs.2.1, bwK hs.2.2.1 hbw.size hg hr, Nat.le_trans hs.2.2.2 hg.size⟩)
    (fun c s X Y row hs hg hr => hs)
    ⟨⟨k3, k5, kf, kn⟩, by simp [getF], hbw, Nat.le_refl _⟩
    (fun y => [(10, .int .i64 (A + y)), (11, .int .i64 (N - 1 - y)), (6, .int .i64 (A + y))]) ?assign ?body ?done ?stop
  case assign =>
    intro l y W K hK
    gi_wp2
    exact hK
  case body =>
    rintro l pre y W hy hpl ⟨⟨kb, kx, kf, kn⟩, ⟨g1, g2⟩, hB, hWs⟩
    simp only [List.foldl, List.setIfInBounds_toArray, List.set_cons_succ, List.set_cons_zero]
    have hcz := HZ.out (A + y) (by omega)
    rw [← hB.cells.1 _ _ hb] at hcz
    have hbz := HB.out y hy
    have hsn := Lib.hid (getF_snoc zs A pre y)
    generalize zs.getD (A + y) 0 = z at hcz hbz hsn
    have g3 : getF zs A pre < 1099511627776 := Int.lt_of_lt_of_le g2 (by have := pow_le pre.length 40 (by omega); simpa using this)
    have hor := or_i64 (getF zs A pre) z g1 (by omega) hbz
    have G2 := Lib.hid g2; clear g2
    generalize getF zs A pre = m at *
    have e0 := fun p : Ext W => Ext.cell' kb p
    have e1 := fun p : Ext W => Ext.cell' kx p
    have e2 := fun p : Ext W => Ext.cell' hcz p
    have hyi : (A : Int) + y < zs.length := by omega
    have hyt : ((A : Int) + y).toNat = A + y := by omega
    gi_wp2
    (refine wpIn_region_ext_tail 7 (by kernel_rfl) (by kernel_rfl) (fun ⟨_, _, h⟩ => h) (by kernel_rfl) ?_; simp only [List.take_succ_cons, List.take_zero, List.drop_succ_cons, List.drop_zero]; (repeat (go_big_quiet_step ((fail)))); refine wpQuiet_nil ?_; rintro W1 ⟨⟨_, hbq⟩, rfl⟩; obtain ⟨hccq, hffq⟩ := Bw.cells hbq; have hszq := Bw.size hbq)
    have kx1 := hbq.cell' kx
    have kf1 := hbq.frozen' kx kf
    go_wp2
    refine ⟨(KeepsFrom.of_bw hbq).trans ((KeepsOthers.setCell _ _ _).from _), kpB_t (KpB.of_bw (by omega) hbq) (KpB.set _ (by omega)), ⟨?_, ?_, ?_, ?_⟩, ?_, Bw.setCell (Bw.trans hB hbq) (by simp; omega) _, by simp; omega⟩
    · rw [cell_set_ne _ _ _ _ _ _ (by omega)]; exact hbq.cell' kb
    · rw [hsn.out]; exact cell_set_same _ _ _ _ kx1
    · rw [frozen_set]; exact kf1
    · rw [cell_set_ne _ _ _ _ _ _ (by omega)]; exact hbq.cell' kn
    · rw [hsn.out, List.length_append, List.length_singleton, Int.pow_succ]; have := G2.out; omega
  case done =>
    rintro D W hD ⟨⟨kb, kx, kf, kn⟩, ⟨g1, g2⟩, hB, hWs⟩ hK
    rw [getF_range] at kx g1 g2
    rw [List.length_range] at g2
    obtain ⟨m, hm⟩ : ∃ m, getN zs A N = m := ⟨_, rfl⟩
    rw [hm] at kx g1 g2
    have HM := Lib.hid hm; clear hm
    have HX := Lib.hid (sx_wrap N m (by omega) (by omega) g1 g2); clear g2
    go_wp2
    refine ⟨Marks.one (by have := hbw.size; omega) hK, fun W' hS => ⟨.int .i64 (sx N m), ?_, by rw [HM.out], hB.shut hS⟩⟩
    rw [HX.out]
    simp [results, Try.results41, go_sem]
  case stop =>
    rintro D c k W _ _ h _
    exact h.elim
theorem ux_wrap (N : Nat) (m : Int) (h1 : 1 ≤ N) (h2 : N ≤ 40) (h3 : 0 ≤ m) (h4 : m < 2 ^ N) : IntKind.u64.wrap (m * 2 ^ (64 - N)) / 2 ^ (64 - N) = m := by
  rw [IntKind.wrap_u64]
  have e64 : (2 : Int) ^ N * 2 ^ (64 - N) = 18446744073709551616 := by rw [← Int.pow_add, show N + (64 - N) = 64 by omega]; decide
  have hp := pow_pos' (64 - N)
  generalize (2 : Int) ^ (64 - N) = p at *
  have a2 : m * p < 2 ^ N * p := Int.mul_lt_mul_of_pos_right h4 (by omega)
  have a3 : 0 ≤ m * p := Int.mul_nonneg h3 (by omega)
  rw [Int.emod_eq_of_lt a3 (by omega), Int.mul_ediv_cancel _ (by omega)]
theorem get_u64 (zs : List Int) (v : Value) (A N : Nat) (g : Bool) (u c : Int) (w : World) (hv : RdI w v zs) (h : fk A N u c) (hl : A + N ≤ zs.length) (hbit : ∀ i, i < N → zs.getD (A + i) 0 = 0 ∨ zs.getD (A + i) 0 = 1) :
    Calls Try.prog 42 #[v, .agg #[.int .i64 A, .int .i64 N, .bool g, .int .i64 u, .int .i64 c]] w fun e w' => e = .returned (.int .u64 (getN zs A N)) ∧ Bw w w' := by
  have HP := Lib.hid (fun w => places_any A N g u c w)
  obtain ⟨h2, ad, cap, rfl, h4⟩ := hv
  obtain ⟨h1, h2, h3, h4', h5, h6, h7, h8, h9⟩ := h
  obtain ⟨b, off, rfl, hb, hz⟩ := h4.resolve_left (by intro e; subst e; simp at hl; omega)
  have HZ := Lib.hid hz; clear hz h4
  have HB := Lib.hid hbit; clear hbit
  (refine calls_of_marks (w.heap.size) Try.func42 rfl ?_; simp only [Try.ntmps42, List.size_toArray, List.length_cons, List.length_nil, Nat.reduceAdd, Nat.reduceSub, Array.replicate_succ, Array.replicate_zero, List.push_toArray, List.append_toArray, List.nil_append, List.cons_append])
  go_wp2_with (first | (go_at_call 40; refine (HP.out _).mono ?_; rintro e w9 ⟨rfl, rfl⟩))
  have hbw : Bw w ((((w.alloc (Obj.cells #[.slice (some ⟨b, off, none⟩) zs.length cap] 22)).alloc (Obj.cells #[.int .i64 A, .int .i64 N, .bool g, .int .i64 u, .int .i64 c] 24)).alloc (Obj.cells #[.int .u64 0] 66)).alloc (Obj.cells #[.int .i64 A, .int .i64 N, .bool g, .int .i64 u, .int .i64 c] 24)) := (by repeat (first | exact Bw.refl _ | assumption | refine Bw.alloc ?_ _ | refine Bw.drew ?_ | refine Bw.trans ?_ (by assumption) | refine Bw.setCell ?_ (by simp; try omega) _))
  obtain ⟨W0, hW0⟩ : ∃ W0, ((((w.alloc (Obj.cells #[.slice (some ⟨b, off, none⟩) zs.length cap] 22)).alloc (Obj.cells #[.int .i64 A, .int .i64 N, .bool g, .int .i64 u, .int .i64 c] 24)).alloc (Obj.cells #[.int .u64 0] 66)).alloc (Obj.cells #[.int .i64 A, .int .i64 N, .bool g, .int .i64 u, .int .i64 c] 24)) = W0 := ⟨_, rfl⟩
  have k3 : W0.cell? ⟨w.heap.size, 0, none⟩ = some (.slice (some ⟨b, off, none⟩) zs.length cap) := by rw [← hW0]; simp [go_sem]
  have kn : W0.cell? ⟨w.heap.size + 1, 1, none⟩ = some (.int .i64 N) := by rw [← hW0]; simp [go_sem]
  have k5 : W0.cell? ⟨w.heap.size + 1 + 1, 0, none⟩ = some (.int .u64 0) := by rw [← hW0]; simp [go_sem]
  have kf : W0.frozen? ⟨w.heap.size + 1 + 1, 0, none⟩ = false := by rw [← hW0]; simp [go_sem]
  have c0 : W0.cell? ⟨w.heap.size + 1 + 1 + 1, 0, none⟩ = some (.int .i64 A) := by rw [← hW0]; simp [go_sem]
  have c1 : W0.cell? ⟨w.heap.size + 1 + 1 + 1, 1, none⟩ = some (.int .i64 N) := by rw [← hW0]; simp [go_sem]
  have hsB : W0.heap.size = w.heap.size + 4 := by rw [← hW0]; simp
  have hbn : w.heap.size + 1 + 1 + 1 < W0.heap.size := by omega
  rw [hW0] at hbw ⊢
  have HS := Lib.hid hsB
  clear hW0 hsB
  refine range_places A N h1 h2 (by omega) (by omega) (w.heap.size + 1 + 1 + 1) hbn c0 c1 rfl rfl
    (fun pre W => (W.cell? ⟨w.heap.size, 0, none⟩ = some (.slice (some ⟨b, off, none⟩) zs.length cap) ∧ W.cell? ⟨w.heap.size + 1 + 1, 0, none⟩ = some (.int .u64 (getF zs A pre)) ∧ W.frozen? ⟨w.heap.size + 1 + 1, 0, none⟩ = false ∧ W.cell? ⟨w.heap.size + 1, 1, none⟩ = some (.int .i64 N)) ∧ (0 ≤ getF zs A pre ∧ getF zs A pre < 2 ^ pre.length) ∧ Bw w W ∧ W0.heap.size ≤ W.heap.size)
    (fun c _ W => False)
    (fun s X Y row hs hg hr => ⟨⟨cellK hs.1.1 hg hr, cellK hs.1.2.1 hg hr, frozenK hs.1.2.1 hs.1.2.2.1 hg hr, cellK hs.1.2.2.2 hg hr⟩, hs.2.1, bwK hs.2.2.1 hbw.size hg hr, Nat.le_trans hs.2.2.2 hg.size⟩)
    (fun c s X Y row hs hg hr => hs)
    ⟨⟨k3, k5, kf, kn⟩, by simp [getF], hbw, Nat.le_refl _⟩
    (fun y => [(10, .int .i64 (A + y)), (11, .int .i64 (N - 1 - y)), (6, .int .i64 (A + y))]) ?assign ?body ?done ?stop
  case assign =>
    intro l y W K hK
    gi_wp2
    exact hK
  case body =>
    rintro l pre y W hy hpl ⟨⟨kb, kx, kf, kn⟩, ⟨g1, g2⟩, hB, hWs⟩
    simp only [List.foldl, List.setIfInBounds_toArray, List.set_cons_succ, List.set_cons_zero]
    have hcz := HZ.out (A + y) (by omega)
    rw [← hB.cells.1 _ _ hb] at hcz
    have hbz := HB.out y hy
    have hsn := Lib.hid (getF_snoc zs A pre y)
    generalize zs.getD (A + y) 0 = z at hcz hbz hsn
    have g3 : getF zs A pre < 1099511627776 := Int.lt_of_lt_of_le g2 (by have := pow_le pre.length 40 (by omega); simpa using this)
    have hor := or_u64 (getF zs A pre) z g1 (by omega) hbz
    have G2 := Lib.hid g2; clear g2
    generalize getF zs A pre = m at *
    have e0 := fun p : Ext W => Ext.cell' kb p
    have e1 := fun p : Ext W => Ext.cell' kx p
    have e2 := fun p : Ext W => Ext.cell' hcz p
    have hyi : (A : Int) + y < zs.length := by omega
    have hyt : ((A : Int) + y).toNat = A + y := by omega
    gi_wp2
    (refine wpIn_region_ext_tail 8 (by kernel_rfl) (by kernel_rfl) (fun ⟨_, _, h⟩ => h) (by kernel_rfl) ?_; simp only [List.take_succ_cons, List.take_zero, List.drop_succ_cons, List.drop_zero]; (repeat (go_big_quiet_step ((fail)))); refine wpQuiet_nil ?_; rintro W1 ⟨⟨_, hbq⟩, rfl⟩; obtain ⟨hccq, hffq⟩ := Bw.cells hbq; have hszq := Bw.size hbq)
    have kx1 := hbq.cell' kx
    have kf1 := hbq.frozen' kx kf
    go_wp2
    refine ⟨(KeepsFrom.of_bw hbq).trans ((KeepsOthers.setCell _ _ _).from _), kpB_t (KpB.of_bw (by omega) hbq) (KpB.set _ (by omega)), ⟨?_, ?_, ?_, ?_⟩, ?_, Bw.setCell (Bw.trans hB hbq) (by simp; omega) _, by simp; omega⟩
    · rw [cell_set_ne _ _ _ _ _ _ (by omega)]; exact hbq.cell' kb
    · rw [hsn.out]; exact cell_set_same _ _ _ _ kx1
    · rw [frozen_set]; exact kf1
    · rw [cell_set_ne _ _ _ _ _ _ (by omega)]; exact hbq.cell' kn
    · rw [hsn.out, List.length_append, List.length_singleton, Int.pow_succ]; have := G2.out; omega
  case done =>
    rintro D W hD ⟨⟨kb, kx, kf, kn⟩, ⟨g1, g2⟩, hB, hWs⟩ hK
    rw [getF_range] at kx g1 g2
    rw [List.length_range] at g2
    obtain ⟨m, hm⟩ : ∃ m, getN zs A N = m := ⟨_, rfl⟩
    rw [hm] at kx g1 g2
    have HM := Lib.hid hm; clear hm
    have HX := Lib.hid (ux_wrap N m (by omega) (by omega) g1 g2); clear g2
    go_wp2
    refine ⟨Marks.one (by have := hbw.size; omega) hK, fun W' hS => ⟨.int .u64 m, ?_, by rw [HM.out], hB.shut hS⟩⟩
    rw [HX.out]
    simp [results, Try.results42, go_sem]
  case stop =>
    rintro D c k W _ _ h _
    exact h.elim
end Go.Proofs.Sky
