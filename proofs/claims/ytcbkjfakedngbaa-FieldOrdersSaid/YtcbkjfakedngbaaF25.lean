/-
  lemmas for the theorems of this claim. No conditions beyond those written in the statements.
-/
import Derived.Test.YtcbkjfakedngbaaE25
import Derived.Test.YtcbkjfakedngbaaRG
import Derived.Test.YtcbkjfakedngbaaBits
set_option linter.unusedVariables false
set_option linter.unusedSimpArgs false
set_option linter.unnecessarySimpa false
namespace Go.Proofs.Sky
open Go Go.RowKit Go.Shelf
attribute [local go_sem] Oper.semAt_some
set_option maxHeartbeats 1000000
def putF (zs : List Int) (A N : Nat) (x : Int) (pre : List Nat) : List Int := pre.foldl (fun zs y => zs.set (A + y) (bitN x (N - 1 - y))) zs
theorem putF_snoc (zs : List Int) (A N : Nat) (x : Int) (pre : List Nat) (y : Nat) : putF zs A N x (pre ++ [y]) = (putF zs A N x pre).set (A + y) (bitN x (N - 1 - y)) := by simp [putF]
theorem putF_length (zs : List Int) (A N : Nat) (x : Int) (pre : List Nat) : (putF zs A N x pre).length = zs.length := by
  unfold putF
  induction pre generalizing zs with
  | nil => rfl
  | cons y pre ih => simp [ih]
theorem putF_range (zs : List Int) (A N : Nat) (x : Int) (k : Nat) : putF zs A N x (List.range k) = putL zs A N x k := by
  induction k with
  | zero => rfl
  | succ k ih => rw [List.range_succ, putF_snoc, ih, putL]
/-- a block's cells hold ints, and may be written -/
structure OwI (w : World) (bl : Nat) (zs : List Int) : Prop where
  cell : ∀ i, i < zs.length → w.cell? ⟨bl, i, none⟩ = some (.int .i64 (zs.getD i 0))
  free : ∀ i, i < zs.length → w.frozen? ⟨bl, i, none⟩ = false
theorem OwI.K {w w' : World} {bl : Nat} {zs : List Int} {row : Option Nat} {B : Nat} (h : OwI w bl zs) (hg : w.grownBy w' row) (hr : ∀ r, row = some r → B ≤ r ∧ ∃ o : Obj, w.heap[r]? = some o ∧ o.isCells = false) : OwI w' bl zs :=
  ⟨fun i hi => cellK (h.cell i hi) hg hr, fun i hi => frozenK (h.cell i hi) (h.free i hi) hg hr⟩
theorem OwI.bw {w w' : World} {bl : Nat} {zs : List Int} (h : OwI w bl zs) (hb : Bw w w') : OwI w' bl zs := ⟨fun i hi => hb.cell' (h.cell i hi), fun i hi => hb.frozen' (h.cell i hi) (h.free i hi)⟩
theorem OwI.shut {w w' : World} {bl base : Nat} {zs : List Int} (h : OwI w bl zs) (hS : Shut base w w') : OwI w' bl zs :=
  ⟨fun i hi => hS.cell _ _ _ (h.cell i hi), fun i hi => (hS.frozen (h.cell i hi)).trans (h.free i hi)⟩
theorem OwI.set {w : World} {bl : Nat} {zs : List Int} (h : OwI w bl zs) (i : Nat) (x : Int) (hi : i < zs.length) : OwI (w.setCell ⟨bl, i, none⟩ (.int .i64 x)) bl (zs.set i x) := by
  refine ⟨fun j hj => ?_, fun j hj => by rw [frozen_set]; exact h.free j (by simpa using hj)⟩
  rw [List.length_set] at hj
  by_cases e : i = j
  · subst e
    rw [cell_set_same _ _ _ _ (h.cell i hi)]
    simp [List.getD_eq_getElem?_getD, hj]
  · rw [cell_set_off _ _ _ _ _ e, h.cell j hj]
    simp [List.getD_eq_getElem?_getD, e]
theorem OwI.other {w : World} {bl b o : Nat} {zs : List Int} (h : OwI w bl zs) (u : Value) (hn : b ≠ bl) : OwI (w.setCell ⟨b, o, none⟩ u) bl zs := 
  ⟨fun i hi => by rw [cell_set_ne _ _ _ _ _ _ hn]; exact h.cell i hi, fun i hi => by rw [frozen_set]; exact h.free i hi⟩
theorem put_ok (zs : List Int) (bl cap len : Nat) (A N : Nat) (g : Bool) (u c x : Int) (w : World) (h : fk A N u c) (hl : A + N ≤ len) (hz : zs.length = len) (hlen : len ≤ 9223372036854775807) (hb : bl < w.heap.size) (ho : OwI w bl zs) :
    Calls Try.prog 35 #[.slice (some ⟨bl, 0, none⟩) len cap, .agg #[.int .i64 A, .int .i64 N, .bool g, .int .i64 u, .int .i64 c], .int .i64 x] w fun e w' => e = .returned (.tuple #[]) ∧ OwI w' bl (putL zs A N x N) ∧ Gr bl w w' := by
  have HP := Lib.hid (fun w => places_any A N g u c w)
  obtain ⟨h1, h2, h3, h4', h5, h6, h7, h8, h9⟩ := h
  have HZ := Lib.hid hz; clear hz
  (refine calls_of_marks (w.heap.size) Try.func35 rfl ?_; simp only [Try.ntmps35, List.size_toArray, List.length_cons, List.length_nil, Nat.reduceAdd, Nat.reduceSub, Array.replicate_succ, Array.replicate_zero, List.push_toArray, List.append_toArray, List.nil_append, List.cons_append])
  go_wp2_with (first | (go_at_call 40; refine (HP.out _).mono ?_; rintro e w9 ⟨rfl, rfl⟩))
  have hbw : Bw w ((((w.alloc (Obj.cells #[.slice (some ⟨bl, 0, none⟩) len cap] 22)).alloc (Obj.cells #[.int .i64 A, .int .i64 N, .bool g, .int .i64 u, .int .i64 c] 24)).alloc (Obj.cells #[.int .i64 x] 3)).alloc (Obj.cells #[.int .i64 A, .int .i64 N, .bool g, .int .i64 u, .int .i64 c] 24)) := (by repeat (first | exact Bw.refl _ | assumption | refine Bw.alloc ?_ _ | refine Bw.drew ?_ | refine Bw.trans ?_ (by assumption) | refine Bw.setCell ?_ (by simp; try omega) _))
  obtain ⟨W0, hW0⟩ : ∃ W0, ((((w.alloc (Obj.cells #[.slice (some ⟨bl, 0, none⟩) len cap] 22)).alloc (Obj.cells #[.int .i64 A, .int .i64 N, .bool g, .int .i64 u, .int .i64 c] 24)).alloc (Obj.cells #[.int .i64 x] 3)).alloc (Obj.cells #[.int .i64 A, .int .i64 N, .bool g, .int .i64 u, .int .i64 c] 24)) = W0 := ⟨_, rfl⟩
  have k3 : W0.cell? ⟨w.heap.size, 0, none⟩ = some (.slice (some ⟨bl, 0, none⟩) len cap) := by rw [← hW0]; simp [go_sem]
  have k5 : W0.cell? ⟨w.heap.size + 1 + 1, 0, none⟩ = some (.int .i64 x) := by rw [← hW0]; simp [go_sem]
  have c0 : W0.cell? ⟨w.heap.size + 1 + 1 + 1, 0, none⟩ = some (.int .i64 A) := by rw [← hW0]; simp [go_sem]
  have c1 : W0.cell? ⟨w.heap.size + 1 + 1 + 1, 1, none⟩ = some (.int .i64 N) := by rw [← hW0]; simp [go_sem]
  have hsB : W0.heap.size = w.heap.size + 4 := by rw [← hW0]; simp
  have hbn : w.heap.size + 1 + 1 + 1 < W0.heap.size := by omega
  rw [hW0] at hbw ⊢
  have HS := Lib.hid hsB
  clear hW0 hsB
  refine range_places A N h1 h2 (by omega) (by omega) (w.heap.size + 1 + 1 + 1) hbn c0 c1 rfl rfl
    (fun pre W => (W.cell? ⟨w.heap.size, 0, none⟩ = some (.slice (some ⟨bl, 0, none⟩) len cap) ∧ W.cell? ⟨w.heap.size + 1 + 1, 0, none⟩ = some (.int .i64 x)) ∧ OwI W bl (putF zs A N x pre) ∧ Gr bl w W ∧ W0.heap.size ≤ W.heap.size)
    (fun c _ W => False)
    (fun s X Y row hs hg hr => ⟨⟨cellK hs.1.1 hg hr, cellK hs.1.2 hg hr⟩, hs.2.1.K hg hr, hs.2.2.1.K hbw.size hg hr, Nat.le_trans hs.2.2.2 hg.size⟩)
    (fun c s X Y row hs hg hr => hs)
    ⟨⟨k3, k5⟩, ho.bw hbw, Gr.of_bw hbw, Nat.le_refl _⟩
    (fun y => [(10, .int .i64 (A + y)), (11, .int .i64 (N - 1 - y)), (6, .int .i64 (A + y)), (7, .int .i64 (N - 1 - y))]) ?assign ?body ?done ?stop
  case assign =>
    intro l y W K hK
    gi_wp2
    exact hK
  case body =>
    rintro l pre y W hy _ ⟨⟨kb, kx⟩, hO, hG, hWs⟩
    simp only [List.foldl, List.setIfInBounds_toArray, List.set_cons_succ, List.set_cons_zero]
    have HO := Lib.hid hO; clear hO
    have e0 := fun p : Ext W => Ext.cell' kb p
    have e1 := fun p : Ext W => Ext.cell' kx p
    have hyi : (A : Int) + y < len := by omega
    have hyt : ((A : Int) + y).toNat = A + y := by omega
    have hyn : ((N : Int) - 1 - y) = ((N - 1 - y : Nat) : Int) := by omega
    have HY := Lib.hid hyn; rw [hyn]; clear hyn
    have hyb : N - 1 - y < 64 := by omega
    gi_wp2
    (refine wpIn_region_ext_tail 7 (by kernel_rfl) (by kernel_rfl) (fun ⟨_, _, h⟩ => h) (by kernel_rfl) ?_; simp only [List.take_succ_cons, List.take_zero, List.drop_succ_cons, List.drop_zero]; (repeat (go_big_quiet_step ((fail)))); refine wpQuiet_nil ?_; rintro W1 ⟨⟨_, hbq⟩, rfl⟩; obtain ⟨hccq, hffq⟩ := Bw.cells hbq; have hszq := Bw.size hbq)
    have hA1 := and1 (x / 2 ^ (N - 1 - y))
    have hO1 := HO.out.bw hbq
    have hlA : A + y < (putF zs A N x pre).length := by rw [putF_length]; have := HZ.out; omega
    have hcell := hO1.cell _ hlA
    have hfree := hO1.free _ hlA
    have HO1 := Lib.hid hO1; clear hO1
    go_wp2
    refine ⟨(KeepsFrom.of_bw hbq).trans ((KeepsOthers.setCell _ _ _).from _), kpB_t (KpB.of_bw (by omega) hbq) (KpB.set _ (by omega)), ⟨?_, ?_⟩, ?_, (hG.bw hbq).set (.inl rfl) _, by simp; omega⟩
    · rw [cell_set_ne _ _ _ _ _ _ (by omega)]; exact hbq.cell' kb
    · rw [cell_set_ne _ _ _ _ _ _ (by omega)]; exact hbq.cell' kx
    · have := HO1.out.set (A + y) (bitN x (N - 1 - y)) hlA
      rw [putF_snoc]
      exact this
  case done =>
    rintro D W hD ⟨_, hO, hG, hWs⟩ hK
    rw [putF_range] at hO
    have HO := Lib.hid hO; clear hO
    go_wp2
    refine ⟨Marks.one (by have := hbw.size; omega) hK, fun W' hS => ⟨.tuple #[], results_none rfl _ _ _, rfl, ?_, hG.shut hS⟩⟩
    exact ⟨fun i hi => hS.cell _ _ _ (HO.out.cell i hi), fun i hi => (hS.frozen (HO.out.cell i hi)).trans (HO.out.free i hi)⟩
  case stop =>
    rintro D c k W _ _ h _
    exact h.elim
end Go.Proofs.Sky
