/-
  lemmas for the theorems of this claim. No conditions beyond those written in the statements.
-/
import Derived.Test.YtmilfedbggbpdaaD13
set_option linter.unusedVariables false
set_option linter.unusedSimpArgs false
set_option linter.unnecessarySimpa false
namespace Go.Proofs.Sky
open Go Go.RowKit
set_option maxHeartbeats 1000000
def lv (b s x : Int) : Int := clampI (rnd x s.toNat) (gq b)
def lost1 (b s x : Int) : Bool := lv b s x != rnd x s.toNat
def lvS (b s : Int) (ps : List (Int × Int)) : List (Int × Int) := ps.map fun p => (lv b s p.1, lv b s p.2)
def lostP (b s : Int) (p : Int × Int) : Bool := lost1 b s p.1 || lost1 b s p.2
def lostN (b s : Int) (ps : List (Int × Int)) : Int := ((ps.filter (lostP b s)).length : Int)
theorem lvS_len (b s : Int) (ps : List (Int × Int)) : (lvS b s ps).length = ps.length := by simp [lvS]
theorem take_snoc' {α : Type} (l : List α) (k : Nat) (d : α) (h : k < l.length) : l.take (k + 1) = l.take k ++ [l.getD k d] := by
  rw [List.take_succ_eq_append_getElem h, List.getD_eq_getElem?_getD, List.getElem?_eq_getElem h]; rfl
theorem lostN_bd (b s : Int) (ps : List (Int × Int)) (k : Nat) : 0 ≤ lostN b s (ps.take k) ∧ lostN b s (ps.take k) ≤ k := by
  unfold lostN
  have h1 := List.length_filter_le (lostP b s) (ps.take k)
  have h2 : (ps.take k).length ≤ k := List.length_take_le _ _
  omega
theorem lostN_snoc (b s : Int) (l : List (Int × Int)) (p : Int × Int) : lostN b s (l ++ [p]) = lostN b s l + if lostP b s p then 1 else 0 := by
  unfold lostN
  rw [List.filter_append]
  by_cases h : lostP b s p = true <;> simp [h]
structure QInv (w : World) (b s : Int) (ps : List (Int × Int)) (n k : Nat) (l : Int) (wr : World) : Prop where
  bw : Bw w wr
  sz : w.heap.size + 1 + 1 + 1 < wr.heap.size
  own : wr.ownsRow w.heap.size 50 2 (.slice (some ⟨w.heap.size + 1 + 1, 0, none⟩) n n) n (flat (lvS b s (ps.take k)) ++ List.replicate ((n - k) * 2) (.int .i64 0))
  c0 : wr.cell? ⟨w.heap.size, 0, none⟩ = some (.int .i64 b)
  c1 : wr.cell? ⟨w.heap.size, 1, none⟩ = some (.int .i64 s)
  r0 : wr.cell? ⟨w.heap.size + 1, 0, none⟩ = some (.slice none 0 0)
  r1 : wr.cell? ⟨w.heap.size + 1, 1, none⟩ = some (.int .i64 0)
  f0 : wr.frozen? ⟨w.heap.size + 1, 0, none⟩ = false
  f1 : wr.frozen? ⟨w.heap.size + 1, 1, none⟩ = false
  o0 : wr.cell? ⟨w.heap.size + 1 + 1 + 1, 0, none⟩ = some (.slice (some ⟨w.heap.size + 1 + 1, 0, none⟩) n n)
  o1 : wr.cell? ⟨w.heap.size + 1 + 1 + 1, 1, none⟩ = some (.int .i64 l)
  g1 : wr.frozen? ⟨w.heap.size + 1 + 1 + 1, 1, none⟩ = false
theorem QInv.slot {w : World} {b s : Int} {ps : List (Int × Int)} {n k : Nat} {l : Int} {wr : World} (h : QInv w b s ps n k l wr) (j : Nat) (hj : j < n * 2) : ∃ u, wr.cell? ⟨w.heap.size + 1 + 1, j, none⟩ = some u := by
  rw [h.own.cellAt j hj]
  have := h.own.1
  rw [List.getElem?_eq_getElem (by omega)]
  exact ⟨_, rfl⟩
theorem QInv.mono {w : World} {b s : Int} {ps : List (Int × Int)} {n k : Nat} {l : Int} {wr w2 : World} (h : QInv w b s ps n k l wr) (hb : Bw wr w2) : QInv w b s ps n k l w2 := by
  have sz := h.sz
  have sz' := hb.size
  exact ⟨h.bw.trans hb, by omega, own_bw h.own hb, by rw [hb.cells.1 _ _ (by omega)]; exact h.c0, by rw [hb.cells.1 _ _ (by omega)]; exact h.c1, by rw [hb.cells.1 _ _ (by omega)]; exact h.r0, by rw [hb.cells.1 _ _ (by omega)]; exact h.r1,
    by rw [hb.cells.2 _ _ (by omega)]; exact h.f0, by rw [hb.cells.2 _ _ (by omega)]; exact h.f1, by rw [hb.cells.1 _ _ (by omega)]; exact h.o0, by rw [hb.cells.1 _ _ (by omega)]; exact h.o1, by rw [hb.cells.2 _ _ (by omega)]; exact h.g1⟩
theorem QInv.set {w : World} {b s : Int} {ps : List (Int × Int)} {n k : Nat} {l : Int} {wr : World} (h : QInv w b s ps n k l wr) (hk : k < n) (x1 x2 : Int) (hn : n = ps.length) (ht : ps.take (k + 1) = ps.take k ++ [(x1, x2)]) :
    QInv w b s ps n (k + 1) l ((wr.setCell ⟨w.heap.size + 1 + 1, k * 2, none⟩ (.int .i64 (lv b s x1))).setCell ⟨w.heap.size + 1 + 1, k * 2 + 1, none⟩ (.int .i64 (lv b s x2))) := by
  have sz := h.sz
  have bw := h.bw
  have ow := ((h.own.stored (k * 2) (.int .i64 (lv b s x1))).1.stored (k * 2 + 1) (.int .i64 (lv b s x2))).1
  have hl : (lvS b s (ps.take k)).length = k := by rw [lvS_len, List.length_take]; omega
  have fs := flat_set (lvS b s (ps.take k)) (n - (k + 1)) (lv b s x1) (lv b s x2) (.int .i64 0)
  rw [hl, show n - (k + 1) + 1 = n - k by omega] at fs
  rw [fs] at ow
  refine ⟨(by repeat (first | exact Bw.refl _ | assumption | refine Bw.alloc ?_ _ | refine Bw.drew ?_ | refine Bw.trans ?_ (by assumption) | refine Bw.setCell ?_ (by simp; try omega) _)), by simpa using sz, ?_, ?_, ?_, ?_, ?_, ?_, ?_, ?_, ?_, ?_⟩
  · rw [ht]
    simpa [lvS] using ow
  all_goals first | (rw [cell_set_ne _ _ _ _ _ _ (by omega), cell_set_ne _ _ _ _ _ _ (by omega)]) | (rw [frozen_set, frozen_set])
  · exact h.c0
  · exact h.c1
  · exact h.r0
  · exact h.r1
  · exact h.f0
  · exact h.f1
  · exact h.o0
  · exact h.o1
  · exact h.g1
theorem QInv.lost {w : World} {b s : Int} {ps : List (Int × Int)} {n k : Nat} {l : Int} {wr : World} (h : QInv w b s ps n k l wr) (l' : Int) :
    QInv w b s ps n k l' (wr.setCell ⟨w.heap.size + 1 + 1 + 1, 1, none⟩ (.int .i64 l')) := by
  have sz := h.sz
  have bw := h.bw
  refine ⟨(by repeat (first | exact Bw.refl _ | assumption | refine Bw.alloc ?_ _ | refine Bw.drew ?_ | refine Bw.trans ?_ (by assumption) | refine Bw.setCell ?_ (by simp; try omega) _)), by simpa using sz, ownsRow_setCell_other h.own (by simp [Value.ownBlock]) _, ?_, ?_, ?_, ?_, ?_, ?_, ?_, ?_, ?_⟩
  · rw [cell_set_ne _ _ _ _ _ _ (by omega)]; exact h.c0
  · rw [cell_set_ne _ _ _ _ _ _ (by omega)]; exact h.c1
  · rw [cell_set_ne _ _ _ _ _ _ (by omega)]; exact h.r0
  · rw [cell_set_ne _ _ _ _ _ _ (by omega)]; exact h.r1
  · rw [frozen_set]; exact h.f0
  · rw [frozen_set]; exact h.f1
  · rw [cell_set_off _ _ _ _ _ (by omega)]; exact h.o0
  · exact cell_set_same _ _ _ _ h.o1
  · rw [frozen_set]; exact h.g1
def Quantised (base : Nat) (b s : Int) (ps : List (Int × Int)) (e : Ending) (w' : World) : Prop := ∃ v, e = .returned (.agg #[v, .int .i64 (lostN b s ps)]) ∧ RdS w' v (lvS b s ps) ∧ Fresh base v
theorem Try.info50 : (Try.prog.info? 50).map (fun i => (i.zero, i.size, i.bytes)) = some (some (.agg #[.int .i64 0, .int .i64 0]), 2, 16) := by kernel_rfl
theorem make50 (n : Nat) (hn : n ≤ 1048576) (w : World) : (Instr.makeSlice 32 (.int .i64 n) (.int .i64 n)).run Try.prog w = .ok (.slice (some ⟨w.heap.size, 0, none⟩) n n) (w.alloc (.cells (madeCells #[.int .i64 0, .int .i64 0] (n * 2)) 50)) := by
  obtain ⟨i, hi, hzz⟩ := Option.map_eq_some_iff.1 Try.info50
  simp only [Prod.mk.injEq] at hzz
  obtain ⟨hz, hs, hb⟩ := hzz
  have h := run_make (P := Try.prog) w 32 50 i _ Try.underlying32 hi hz .i64 .i64 n n (by omega) (by omega) (by rw [hb]; omega) (by omega)
  simpa [hs, Value.cells] using h
theorem level_lv (b s x : Int) (hb1 : 2 ≤ b) (hb2 : b ≤ 8) (h : 0 ≤ s) (h' : s ≤ 30) (h1 : -70368744177664 ≤ x) (h2 : x ≤ 70368744177664) (w : World) :
    Calls Try.prog 31 #[.agg #[.int .i64 b, .int .i64 s], .int .i64 x] w fun e w' => e = .returned (.tuple #[.int .i64 (lv b s x), .bool (lost1 b s x)]) ∧ Bw w w' := level_any b s x hb1 hb2 h h' h1 h2 w
theorem rlevel_lv (b s x : Int) (hb1 : 2 ≤ b) (hb2 : b ≤ 8) (h : 0 ≤ s) (h' : s ≤ 30) (h1 : -70368744177664 ≤ x) (h2 : x ≤ 70368744177664) (w : World) :
    Calls Try.prog 33 #[.agg #[.int .i64 b, .int .i64 s], .int .i64 x] w fun e w' => e = .returned (.tuple #[.int .i64 (lv b s x), .bool (lost1 b s x)]) ∧ Bw w w' := rlevel_any b s x hb1 hb2 h h' h1 h2 w
theorem quantised_any (b s : Int) (hb1 : 2 ≤ b) (hb2 : b ≤ 8) (hs1 : 0 ≤ s) (hs2 : s ≤ 30) (ps : List (Int × Int)) (v : Value) (w : World) (hv : RdS w v ps) (hn : ps.length ≤ 1048576)
    (hps : ∀ p ∈ ps, inP 70368744177664 p = true) :
    Calls Try.prog 35 #[v, .agg #[.int .i64 b, .int .i64 s]] w fun e w' => Quantised w.heap.size b s ps e w' ∧ Bw w w' := by
  obtain ⟨_, a, cap, rfl, h4⟩ := hv
  obtain ⟨n, hnn⟩ : ∃ n, n = ps.length := ⟨_, rfl⟩
  rw [← hnn] at hn ⊢
  have hmk := make50 n hn
  have HN := Lib.hid hnn; clear hnn
  have H4 := Lib.hid h4; clear h4
  have HP := Lib.hid hps; clear hps
  go_enter Try.func35, Try.ntmps35
  go_wp2
  go_loopg [18] n (fun gg s18 wr => ∃ k : Nat, k ≤ n ∧ n - k ≤ gg ∧ s18 = .int .i64 k ∧ QInv w b s ps n k (lostN b s (ps.take k)) wr)
  case atStart =>
    refine ⟨0, Nat.zero_le _, by omega, rfl, ⟨(by repeat (first | exact Bw.refl _ | assumption | refine Bw.alloc ?_ _ | refine Bw.drew ?_ | refine Bw.trans ?_ (by assumption) | refine Bw.setCell ?_ (by simp; try omega) _)), by simp, ?_, by simp [go_sem], by simp [go_sem], by simp [go_sem], by simp [go_sem], by simp [go_sem], by simp [go_sem], by simp [go_sem], by simp [go_sem, lostN], by simp [go_sem]⟩⟩
    have h := (World.ownsRow_lit (base := w.heap.size) (e := 50) (size := 2) ((w.alloc (Obj.cells #[Value.int IntKind.i64 b, Value.int IntKind.i64 s] 23)).alloc
          (Obj.cells #[Value.slice none 0 0, Value.int IntKind.i64 0] 34)) (madeCells #[Value.int IntKind.i64 0, Value.int IntKind.i64 0] (n * 2)) n (by simp; omega) (by unfold maxLen; omega) (by simp [madeCells]))
    rw [made2] at h
    have h2 := h.alloc (Obj.cells #[Value.slice (some { block := w.heap.size + 1 + 1, off := 0 }) n n, Value.int IntKind.i64 0] 34)
    simpa [flat_nil, lvS] using h2
  case round =>
    obtain ⟨k, hk, hg, rfl, Q⟩ := hrel
    by_cases hlt : k < n
    · have hltz : (k : Int) < (n : Int) := by omega
      have hq := HN.out
      obtain ⟨bb, off, rfl, hbb, hc⟩ := H4.out.resolve_left (by intro h; rw [h] at hq; simp at hq; omega)
      obtain ⟨hc1, hc2⟩ := hc k (by omega)
      have hbr : bb < wr.heap.size := by have := Q.sz; omega
      have hbr' : bb < wr.heap.size + 1 := by omega
      rw [← Q.bw.cells.1 _ _ hbb] at hc1 hc2
      have hm := getD_mem ps k (0, 0) (by omega)
      clear hc H4
      have ⟨l1, l2⟩ := lostN_bd b s ps k
      have HS := Lib.hid (take_snoc' ps k (0, 0) (by omega))
      generalize hx : ps.getD k (0, 0) = x at hc1 hc2 hm HS
      have hin := HP.out _ hm
      obtain ⟨x1, x2⟩ := x
      clear hx hm HP
      simp only [inP, inI, Bool.and_eq_true, decide_eq_true_eq] at hin
      obtain ⟨⟨i1, i2⟩, i3, i4⟩ := hin
      have ⟨sz, c0, c1, r0, r1, f0, f1, o0, o1, g1⟩ := (⟨Q.sz, Q.c0, Q.c1, Q.r0, Q.r1, Q.f0, Q.f1, Q.o0, Q.o1, Q.g1⟩ : _ ∧ _ ∧ _ ∧ _ ∧ _ ∧ _ ∧ _ ∧ _ ∧ _ ∧ _)
      obtain ⟨u1, s1⟩ := Q.slot (k * 2) (by omega)
      obtain ⟨u2, s2⟩ := Q.slot (k * 2 + 1) (by omega)
      have y1 := Q.own.frozenAt (k * 2)
      have y2 := Q.own.frozenAt (k * 2 + 1)
      have sz0 : w.heap.size < wr.heap.size + 1 := by omega
      have sz1 : w.heap.size + 1 < wr.heap.size + 1 := by omega
      have sz2 : w.heap.size + 1 + 1 < wr.heap.size + 1 := by omega
      have sz3 : w.heap.size + 1 + 1 + 1 < wr.heap.size + 1 := by omega
      have tz0 : w.heap.size < wr.heap.size := by omega
      have tz2 : w.heap.size + 1 + 1 < wr.heap.size := by omega
      have HQ := Lib.hid Q; clear Q hq
      go_wp2_with (go_at_call 31; refine (level_lv _ _ _ (by omega) (by omega) (by omega) (by omega) (by omega) (by omega) _).mono ?_; rintro e w' ⟨rfl, hb⟩; obtain ⟨hcc, hff⟩ := Bw.cells hb; have hsz := Bw.size hb; try (have hz0 : w.heap.size < w'.heap.size := by (try simp at hsz); omega); try (have hz1 : w.heap.size + 1 < w'.heap.size := by (try simp at hsz); omega); try (have hz2 : w.heap.size + 1 + 1 < w'.heap.size := by (try simp at hsz); omega); try (have hz3 : w.heap.size + 1 + 1 + 1 < w'.heap.size := by (try simp at hsz); omega); try (have hz4 : w.heap.size + 1 + 1 + 1 + 1 < w'.heap.size := by (try simp at hsz); omega); try (have hzr : wr.heap.size < w'.heap.size := by (try simp at hsz); omega); try (have hzr1 : wr.heap.size + 1 < w'.heap.size := by (try simp at hsz); omega))
      all_goals go_roundg (n - (k + 1))
      all_goals first | omega | skip
      all_goals (refine ⟨k + 1, by omega, by omega, by go_num, ?_⟩; rw [HS.out, lostN_snoc])
      all_goals first
        | (rw [show lostP b s (x1, x2) = true by simp [lostP, *], if_pos rfl]; exact ((HQ.out.mono (by repeat (first | exact Bw.refl _ | assumption | refine Bw.alloc ?_ _ | refine Bw.drew ?_ | refine Bw.trans ?_ (by assumption) | refine Bw.setCell ?_ (by simp; try omega) _))).set hlt x1 x2 HN.out HS.out).lost _)
        | (rw [show lostP b s (x1, x2) = false by simp [lostP, *], if_neg (by decide), Int.add_zero]; exact ((HQ.out.mono (by repeat (first | exact Bw.refl _ | assumption | refine Bw.alloc ?_ _ | refine Bw.drew ?_ | refine Bw.trans ?_ (by assumption) | refine Bw.setCell ?_ (by simp; try omega) _))).set hlt x1 x2 HN.out HS.out))
    · have hltz : ¬ (k : Int) < (n : Int) := by omega
      have : k = n := by omega
      subst this
      have hn' := HN.out
      have ⟨sz, c0, c1, r0, r1, f0, f1, o0, o1, g1⟩ := (⟨Q.sz, Q.c0, Q.c1, Q.r0, Q.r1, Q.f0, Q.f1, Q.o0, Q.o1, Q.g1⟩ : _ ∧ _ ∧ _ ∧ _ ∧ _ ∧ _ ∧ _ ∧ _ ∧ _ ∧ _)
      have hbw := Q.bw
      have own := Q.own
      rw [List.take_of_length_le (by omega)] at o1 own
      rw [Nat.sub_self, Nat.zero_mul, List.replicate_zero, List.append_nil] at own
      have OWN := Lib.hid own
      clear own H4 HP hn' Q
      go_wp2
      have hn' := HN.out
      obtain rfl : k = (lvS b s ps).length := by rw [lvS_len]; exact hn'
      refine bodyPost_ret (v := .agg #[.slice (some ⟨w.heap.size + 1 + 1, 0, none⟩) (lvS b s ps).length (lvS b s ps).length, .int .i64 (lostN b s ps)]) (by simp [results, Try.results35, go_sem, r0, r1]) rfl ⟨⟨_, rfl, ?_, Fresh.at (by omega)⟩, (by repeat (first | exact Bw.refl _ | assumption | refine Bw.alloc ?_ _ | refine Bw.drew ?_ | refine Bw.trans ?_ (by assumption) | refine Bw.setCell ?_ (by simp; try omega) _))⟩
      exact own_rdS (ownsRow_setCell_other (ownsRow_setCell_other OWN.out (by simp [Value.ownBlock]) _) (by simp [Value.ownBlock]) _) (by rw [lvS_len]; omega)
end Go.Proofs.Sky
