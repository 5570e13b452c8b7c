/-
  lemmas for the theorems of this claim. No conditions beyond those written in the statements.
-/
import Derived.Test.YtcmjcobhobfloaaDoorR25
import Derived.Test.YtcmjcobhobfloaaDoorRG
import Derived.Deep.Cut
import Derived.Maps.OwnIn
import Derived.Test.YtcmjcobhobfloaaDoorP25L
import Derived.Test.YtcmjcobhobfloaaDoorKxC
set_option linter.unusedVariables false
set_option linter.unusedSimpArgs false
set_option linter.unnecessarySimpa false
namespace Go.Proofs.Sky
open Go Go.RowKit Go.Shelf
attribute [local go_sem] Oper.semAt_some
set_option maxHeartbeats 2000000
def LayP (fs : List Fd) (b : Int) (e : Ending) : Prop := e = .returned (.agg #[.int .i64 (layout fs b).1, .int .i64 (layout fs b).2])
theorem layP_of {fs : List Fd} {b x y : Int} (h : layout fs b = (x, y)) : LayP fs b (.returned (.agg #[.int .i64 x, .int .i64 y])) := by unfold LayP; rw [h]
/-- the mark blocks that lie from base on still lie -/
def KD (base : Nat) (w w' : World) : Prop := ∀ E, base ≤ E → w.heap[E]? = some (.deferred (some [])) → w'.heap[E]? = some (.deferred (some []))
theorem KD.refl (base : Nat) (w : World) : KD base w w := fun _ _ h => h
theorem KD.trans {base : Nat} {a b c : World} (h : KD base a b) (k : KD base b c) : KD base a c := fun E hE hh => k E hE (h E hE hh)
theorem KD.of_bw {base : Nat} {a b : World} (h : Bw a b) : KD base a b := fun E _ hh => (h.out.block E (Array.getElem?_eq_some_iff.1 hh).1).trans hh
theorem KD.set {base : Nat} (w : World) (p : Addr) (u : Value) : KD base w (w.setCell p u) := fun E _ hh => (KeepsOthers.setCell w p u).same E _ hh rfl
theorem KD.row {base r : Nat} {a b : World} (hg : a.grownBy b (some r)) (hr : r < base) : KD base a b := fun E hE hh => (hg.block E (Array.getElem?_eq_some_iff.1 hh).1 (by simp; omega)).trans hh
theorem KD.K {base B : Nat} {a b c : World} {row : Option Nat} (h : KD base a b) (hB : a.heap.size ≤ B) (hg : b.grownBy c row) (hr : ∀ r, row = some r → B ≤ r ∧ ∃ o : Obj, b.heap[r]? = some o ∧ o.isCells = false) : KD base a c := fun E hE hh => by
  have h1 := h E hE hh
  have hlt := (Array.getElem?_eq_some_iff.1 hh).1
  exact (hg.block E (Array.getElem?_eq_some_iff.1 h1).1 (fun e => by have := (hr _ e.symm).1; omega)).trans h1
theorem Marks.kd {base b' : Nat} {ds : List Deferred} {a b : World} (h : Marks base ds a) (hk : KD b' a b) (hb : b' ≤ base) : Marks base ds b := h.keep (fun E hE hh => hk E (Nat.le_trans hb hE) hh)
theorem Marks.mono {base b' : Nat} {ds : List Deferred} {a : World} (h : Marks base ds a) (hb : b' ≤ base) : Marks b' ds a := by
  obtain ⟨Ds, e, hn, hd⟩ := h
  exact ⟨Ds, e, hn, fun D hD => ⟨Nat.le_trans hb (hd D hD).1, (hd D hD).2⟩⟩
theorem Marks.cons' {base D : Nat} {ds : List Deferred} {w w' : World} (h : Marks base ds w) (hD : w.heap.size ≤ D) (hb : base ≤ w.heap.size) (hw : w'.heap[D]? = some (.deferred (some []))) (hk : KD base w w') : Marks base (mk D :: ds) w' := by
  obtain ⟨Ds, rfl, hn, hd⟩ := h
  have lt : ∀ E ∈ Ds, E < w.heap.size := fun E hE => (Array.getElem?_eq_some_iff.1 (hd E hE).2).1
  refine ⟨D :: Ds, rfl, ?_, ?_⟩
  · refine List.nodup_cons.2 ⟨fun hm => ?_, hn⟩
    have := lt D hm; omega
  · intro E hE
    rcases List.mem_cons.1 hE with rfl | hE
    · exact ⟨by omega, hw⟩
    · exact ⟨(hd E hE).1, hk E (hd E hE).1 (hd E hE).2⟩
theorem any_place (A N : Nat) (x : Int) : ((List.range N).any fun y => x == (A : Int) + (y : Int)) = decide ((A : Int) ≤ x ∧ x < A + N) := by
  rw [Bool.eq_iff_iff]
  simp only [List.any_eq_true, List.mem_range, beq_iff_eq, decide_eq_true_eq]
  constructor
  · rintro ⟨y, hy, rfl⟩; omega
  · rintro ⟨h1, h2⟩; exact ⟨(x - A).toNat, by omega, by omega⟩
/-- the cells that the walk of Layout holds -/
structure LayC (w wr : World) : Prop where
  bw : Bw w wr
  sz : w.heap.size + 3 ≤ wr.heap.size
  r0 : wr.cell? ⟨w.heap.size, 0, none⟩ = some (.int .i64 0)
  r1 : wr.cell? ⟨w.heap.size, 1, none⟩ = some (.int .i64 0)
  f0 : wr.frozen? ⟨w.heap.size, 0, none⟩ = false
  f1 : wr.frozen? ⟨w.heap.size, 1, none⟩ = false
  km : wr.cell? ⟨w.heap.size + 1 + 1, 0, none⟩ = some (.map (some (w.heap.size + 1)))
theorem LayC.mono {w a b : World} (h : LayC w a) (hb : Bw a b) : LayC w b :=
  ⟨h.bw.trans hb, Nat.le_trans h.sz hb.size, hb.cell' h.r0, hb.cell' h.r1, hb.frozen' h.r0 h.f0, hb.frozen' h.r1 h.f1, hb.cell' h.km⟩
theorem LayC.set {w a : World} (h : LayC w a) {b o : Nat} (u : Value) (hb : w.heap.size + 3 ≤ b) : LayC w (a.setCell ⟨b, o, none⟩ u) :=
  ⟨h.bw.setCell (by simp; omega) _, by simpa using h.sz, by rw [cell_set_ne _ _ _ _ _ _ (by omega)]; exact h.r0, by rw [cell_set_ne _ _ _ _ _ _ (by omega)]; exact h.r1, by rw [frozen_set]; exact h.f0, by rw [frozen_set]; exact h.f1, by rw [cell_set_ne _ _ _ _ _ _ (by omega)]; exact h.km⟩
theorem LayC.K {w a b : World} {row : Option Nat} {B : Nat} (h : LayC w a) (hB : w.heap.size ≤ B) (hg : a.grownBy b row) (hr : ∀ r, row = some r → B ≤ r ∧ ∃ o : Obj, a.heap[r]? = some o ∧ o.isCells = false) : LayC w b :=
  ⟨bwK h.bw hB hg hr, Nat.le_trans h.sz hg.size, cellK h.r0 hg hr, cellK h.r1 hg hr, frozenK h.r0 h.f0 hg hr, frozenK h.r1 h.f1 hg hr, cellK h.km hg hr⟩
/-- a store into the map's block -/
theorem LayC.row {w a b : World} (h : LayC w a) (hg : a.grownBy b (some (w.heap.size + 1))) : LayC w b :=
  ⟨Below.grown h.bw.out hg h.bw.size (fun k e => by cases e; omega), Nat.le_trans h.sz hg.size, hg.cell h.r0 (by simp), hg.cell h.r1 (by simp), (World.frozen?_of_block (hg.block _ (lt_of_cell h.r0) (by simp))).trans h.f0, (World.frozen?_of_block (hg.block _ (lt_of_cell h.r0) (by simp))).trans h.f1, hg.cell h.km (by simp)⟩
/-- the two stores of a fault -/
theorem LayC.fault {w a : World} (h : LayC w a) (x y : Value) : let b := (a.setCell ⟨w.heap.size, 0, none⟩ x).setCell ⟨w.heap.size, 1, none⟩ y
    Bw w b ∧ b.cell? ⟨w.heap.size, 0, none⟩ = some x ∧ b.cell? ⟨w.heap.size, 1, none⟩ = some y :=
  ⟨(h.bw.setCell (by simp) _).setCell (by simp) _, by rw [cell_set_off _ _ _ _ _ (by omega)]; exact cell_set_same _ _ _ _ h.r0, cell_set_same _ _ _ _ (by rw [cell_set_off _ _ _ _ _ (by omega)]; exact h.r1)⟩
def LayI (fs : List Fd) (bt : Int) (w : World) (k : Nat) (ds : List Deferred) (wr : World) : Prop :=
  k ≤ fs.length ∧ Marks (w.heap.size + 3) ds wr ∧ LayC w wr ∧ (∃ cnt, cnt ≤ 40 * k ∧ OwM wr (w.heap.size + 1) cnt (tk (fs.take k))) ∧ lay bt [] fs = lay bt (fs.take k) (fs.drop k)
def LayR (fs : List Fd) (bt : Int) (ad : Option Addr) (cap : Nat) (w : World) (a : Act) (wr : World) : Prop :=
  ∃ (x6 x7 x8 x9 x10 x11 x20 x21 x22 x23 x24 x25 x26 x27 x28 x29 x30 x31 x32 x33 x34 x35 x36 x37 x38 x39 x40 x41 x42 x43 x44 x45 x46 x47 x48 x49 x50 x51 x52 x53 x54 x55 x56 : Value) (ds : List Deferred) (k : Nat), a = { tmps := #[.slice ad fs.length cap, .int .i64 bt, undef, undef, .pointer (some ⟨w.heap.size, 0, none⟩), .pointer (some ⟨w.heap.size + 1 + 1, 0, none⟩), x6, x7, x8, x9, x10, x11, .slice ad fs.length cap, .int .i64 fs.length, .bool false, undef, .map (some (w.heap.size + 1)), .slice ad fs.length cap, .int .i64 fs.length, .int .i64 k, x20, x21, x22, x23, x24, x25, x26, x27, x28, x29, x30, x31, x32, x33, x34, x35, x36, x37, x38, x39, x40, x41, x42, x43, x44, x45, x46, x47, x48, x49, x50, x51, x52, x53, x54, x55, x56, undef], defers := ds } ∧ LayI fs bt w k ds wr
def layMu (n : Nat) (a : Act) (_ : World) : Nat := n - (intOf (a.tmps.getD 19 undef)).toNat
theorem Layout_any (fs : List Fd) (v : Value) (bt : Int) (w : World) (hv : RdF w v fs) : Calls Tryd.prog 63 #[v, .int .i64 bt] w fun e w' => LayP fs bt e ∧ Bw w w' := by
  obtain ⟨hlen, ad, cap, rfl, h4⟩ := hv
  by_cases hl : 100 < fs.length
  · have HE := Lib.hid (show layout fs bt = (4, 100) by unfold layout; rw [if_pos hl])
    have hli : (100 : Int) < fs.length := by omega
    clear h4
    (refine calls_of_marks (w.heap.size) Tryd.func63 rfl ?_; simp only [Tryd.ntmps63, List.size_toArray, List.length_cons, List.length_nil, Nat.reduceAdd, Nat.reduceSub, Array.replicate_succ, Array.replicate_zero, List.push_toArray, List.append_toArray, List.nil_append, List.cons_append])
    go_wp2
    refine ⟨Marks.nil _ _, fun W' hS => ⟨.agg #[.int .i64 4, .int .i64 100], ?_, layP_of HE.out, Bw.shut (by repeat (first | exact Bw.refl _ | assumption | refine Bw.alloc ?_ _ | refine Bw.drew ?_ | refine Bw.trans ?_ (by assumption) | refine Bw.setCell ?_ (by simp; try omega) _)) hS⟩⟩
    have k0 := hS.cell w.heap.size 0 (.int .i64 4) (by simp [go_sem])
    have k1 := hS.cell w.heap.size 1 (.int .i64 100) (by simp [go_sem])
    simp [results, Tryd.results63, go_sem, k0, k1]
  · have HE := Lib.hid (show layout fs bt = lay bt [] fs by unfold layout; rw [if_neg hl])
    have hli : ¬ (100 : Int) < fs.length := by omega
    have H4 := Lib.hid h4; clear h4
    have hmm := @run_makeMap Tryd.prog
    (refine calls_of_marks (w.heap.size) Tryd.func63 rfl ?_; simp only [Tryd.ntmps63, List.size_toArray, List.length_cons, List.length_nil, Nat.reduceAdd, Nat.reduceSub, Array.replicate_succ, Array.replicate_zero, List.push_toArray, List.append_toArray, List.nil_append, List.cons_append])
    go_wp2
    refine wp_loop (LayR fs bt ad cap w) (layMu fs.length) ?_ ?_
    · have hM := OwM.made (w.alloc (Obj.cells #[.int .i64 0, .int .i64 0] 71))
      rw [World.size_alloc] at hM
      refine ⟨_, _, _, _, _, _, _, _, _, _, _, _, _, _, _, _, _, _, _, _, _, _, _, _, _, _, _, _, _, _, _, _, _, _, _, _, _, _, _, _, _, _, _, [], 0, rfl, Nat.zero_le _, Marks.nil _ _, ⟨(by repeat (first | exact Bw.refl _ | assumption | refine Bw.alloc ?_ _ | refine Bw.drew ?_ | refine Bw.trans ?_ (by assumption) | refine Bw.setCell ?_ (by simp; try omega) _)), by simp, by simp [go_sem], by simp [go_sem], by simp [go_sem], by simp [go_sem], by simp [go_sem]⟩, ⟨0, Nat.zero_le _, ?_⟩, by simp⟩
      exact hM.alloc _
    · rintro a' wr ⟨x6, x7, x8, x9, x10, x11, x20, x21, x22, x23, x24, x25, x26, x27, x28, x29, x30, x31, x32, x33, x34, x35, x36, x37, x38, x39, x40, x41, x42, x43, x44, x45, x46, x47, x48, x49, x50, x51, x52, x53, x54, x55, x56, ds, k, rfl, hk, hM, hC, ⟨cnt, hcnt, hO⟩, hlay⟩
      clear hmm
      by_cases hlt : k < fs.length
      · obtain ⟨b, off, rfl, hb, hz⟩ := H4.out.resolve_left (by intro e; subst e; simp at hlt)
        have hfe : fs[k]? = some fs[k] := List.getElem?_eq_getElem hlt
        generalize fs[k] = f at hfe
        obtain ⟨fa, fn, fg, fu, fc⟩ := f
        obtain ⟨d0, d1, d2, d3, d4⟩ := hz k _ hfe
        replace d0 := hC.bw.cell' d0
        replace d1 := hC.bw.cell' d1
        replace d2 := hC.bw.cell' d2
        replace d3 := hC.bw.cell' d3
        replace d4 := hC.bw.cell' d4
        have HT := Lib.hid (show fs.take (k + 1) = fs.take k ++ [⟨fa, fn, fg, fu, fc⟩] by obtain ⟨hq, e⟩ := List.getElem?_eq_some_iff.1 hfe; rw [List.take_succ_eq_append_getElem hq, e])
        have HLS := Lib.hid (hlay.trans (lay_step bt fs k _ hfe))
        have HM := Lib.hid hM; clear hM
        have HO := Lib.hid hO; clear hO
        have hsz := hC.sz
        have r0 := hC.r0
        have r1 := hC.r1
        have f0 := hC.f0
        have f1 := hC.f1
        have km := hC.km
        have hw0 : w.heap.size < wr.heap.size := by omega
        have hw2 : w.heap.size + 1 + 1 < wr.heap.size := by omega
        clear hz hlay hfe H4
        have hki : (k : Int) < fs.length := by omega
        have HCK := Lib.hid (fun w => Check_any fa fn fg fu fc w)
        by_cases hf : fk fa fn fu fc
        · rw [errF_ok hf] at HCK
          by_cases hsh : bt < fa + fn
          · have HL := Lib.hid (show layout fs bt = (16, (k : Int)) by rw [HE.out, HLS.out]; unfold layE; rw [errF_ok hf, if_pos rfl, if_pos hsh]; simp)
            clear HLS
            obtain ⟨h1, h2, h3, h4, h5, h6, h7, h8, h9⟩ := hf
            go_wp2_with (go_at_call 67; refine (HCK.out _).mono ?_; rintro e w' ⟨rfl, hb⟩; have hbw : Bw wr w' := (by repeat (first | exact Bw.refl _ | assumption | refine Bw.alloc ?_ _ | refine Bw.drew ?_ | refine Bw.trans ?_ (by assumption) | refine Bw.setCell ?_ (by simp; try omega) _)); have hC2 := hC.mono hbw; have r0 := hC2.r0; have r1 := hC2.r1; have f0 := hC2.f0; have f1 := hC2.f1; have km := hC2.km; have ki : w'.cell? ⟨wr.heap.size, 0, none⟩ = some (.int .i64 k) := hb.cell' (by simp [go_sem]); have g0 : w'.cell? ⟨wr.heap.size + 1, 0, none⟩ = some (.int .i64 fa) := hb.cell' (by simp [go_sem]); have g1 : w'.cell? ⟨wr.heap.size + 1, 1, none⟩ = some (.int .i64 fn) := hb.cell' (by simp [go_sem]); have g2 : w'.cell? ⟨wr.heap.size + 1, 2, none⟩ = some (.bool fg) := hb.cell' (by simp [go_sem]); have g3 : w'.cell? ⟨wr.heap.size + 1, 3, none⟩ = some (.int .i64 fu) := hb.cell' (by simp [go_sem]); have g4 : w'.cell? ⟨wr.heap.size + 1, 4, none⟩ = some (.int .i64 fc) := hb.cell' (by simp [go_sem]); have hwz : wr.heap.size + 1 < w'.heap.size := lt_of_cell g0)
            have hF := hC2.fault (.int .i64 16) (.int .i64 k)
            refine ⟨((HM.out.kd (KD.of_bw hbw) (Nat.le_refl _)).kd ((KD.set _ _ _).trans (KD.set _ _ _)) (Nat.le_refl _)).mono (by omega), fun W' hS => ⟨.agg #[.int .i64 16, .int .i64 k], ?_, layP_of HL.out, Bw.shut hF.1 hS⟩⟩
            have k0 := hS.cell _ _ _ hF.2.1
            have k1 := hS.cell _ _ _ hF.2.2
            simp [results, Tryd.results63, go_sem, k0, k1]
          · obtain ⟨A, rfl⟩ := Int.eq_ofNat_of_zero_le hf.1
            obtain ⟨N, rfl⟩ := Int.eq_ofNat_of_zero_le (show 0 ≤ fn by have := hf.2.2.1; omega)
            have HEF := Lib.hid (errF_ok hf)
            obtain ⟨h1, h2, h3, h4, h5, h6, h7, h8, h9⟩ := hf
            have HPL := Lib.hid (fun w => places_any (A : Int) (N : Int) fg fu fc w)
            go_wp2_with (first | (go_at_call 67; refine (HCK.out _).mono ?_; rintro e w' ⟨rfl, hb⟩; have hbw : Bw wr w' := (by repeat (first | exact Bw.refl _ | assumption | refine Bw.alloc ?_ _ | refine Bw.drew ?_ | refine Bw.trans ?_ (by assumption) | refine Bw.setCell ?_ (by simp; try omega) _)); have hC2 := hC.mono hbw; have r0 := hC2.r0; have r1 := hC2.r1; have f0 := hC2.f0; have f1 := hC2.f1; have km := hC2.km; have ki : w'.cell? ⟨wr.heap.size, 0, none⟩ = some (.int .i64 k) := hb.cell' (by simp [go_sem]); have g0 : w'.cell? ⟨wr.heap.size + 1, 0, none⟩ = some (.int .i64 (A : Int)) := hb.cell' (by simp [go_sem]); have g1 : w'.cell? ⟨wr.heap.size + 1, 1, none⟩ = some (.int .i64 (N : Int)) := hb.cell' (by simp [go_sem]); have g2 : w'.cell? ⟨wr.heap.size + 1, 2, none⟩ = some (.bool fg) := hb.cell' (by simp [go_sem]); have g3 : w'.cell? ⟨wr.heap.size + 1, 3, none⟩ = some (.int .i64 fu) := hb.cell' (by simp [go_sem]); have g4 : w'.cell? ⟨wr.heap.size + 1, 4, none⟩ = some (.int .i64 fc) := hb.cell' (by simp [go_sem]); have hwz : wr.heap.size + 1 < w'.heap.size := lt_of_cell g0) | (go_at_call 73; refine (HPL.out _).mono ?_; rintro e w9 ⟨rfl, rfl⟩))
            have hbW : Bw wr (w'.alloc (Obj.cells #[.int .i64 (A : Int), .int .i64 (N : Int), .bool fg, .int .i64 fu, .int .i64 fc] 86)) := (by repeat (first | exact Bw.refl _ | assumption | refine Bw.alloc ?_ _ | refine Bw.drew ?_ | refine Bw.trans ?_ (by assumption) | refine Bw.setCell ?_ (by simp; try omega) _))
            have c0 : (w'.alloc (Obj.cells #[.int .i64 (A : Int), .int .i64 (N : Int), .bool fg, .int .i64 fu, .int .i64 fc] 86)).cell? ⟨w'.heap.size, 0, none⟩ = some (.int .i64 (A : Int)) := by simp [go_sem]
            have c1 : (w'.alloc (Obj.cells #[.int .i64 (A : Int), .int .i64 (N : Int), .bool fg, .int .i64 fu, .int .i64 fc] 86)).cell? ⟨w'.heap.size, 1, none⟩ = some (.int .i64 (N : Int)) := by simp [go_sem]
            have ki0 : (w'.alloc (Obj.cells #[.int .i64 (A : Int), .int .i64 (N : Int), .bool fg, .int .i64 fu, .int .i64 fc] 86)).cell? ⟨wr.heap.size, 0, none⟩ = some (.int .i64 k) := (Bw.alloc (Bw.refl _) _).cell' ki
            have hwB : w'.heap.size < (w'.alloc (Obj.cells #[.int .i64 (A : Int), .int .i64 (N : Int), .bool fg, .int .i64 fu, .int .i64 fc] 86)).heap.size := by simp
            have hC0 := hC2.mono (Bw.alloc (Bw.refl w') (Obj.cells #[.int .i64 (A : Int), .int .i64 (N : Int), .bool fg, .int .i64 fu, .int .i64 fc] 86))
            have HO0 := Lib.hid (HO.out.bw hbW)
            have HM0 := Lib.hid (HM.out.kd (KD.of_bw hbW) (Nat.le_refl _))
            generalize (w'.alloc (Obj.cells #[.int .i64 (A : Int), .int .i64 (N : Int), .bool fg, .int .i64 fu, .int .i64 fc] 86)) = W0 at hbW c0 c1 ki0 hwB hC0 HO0 HM0 ⊢
            have hz3 := hC0.sz
            have hwzr : wr.heap.size < W0.heap.size := lt_of_cell ki0
            clear hb r0 r1 f0 f1 km ki g0 g1 g2 g3 g4 hC2 d0 d1 d2 d3 d4 hbw hC HM HO
            refine range_places A N h1 h2 (by omega) (by omega) w'.heap.size hwB c0 c1 rfl rfl
              (fun pre W => LayC w W ∧ (W.cell? ⟨wr.heap.size, 0, none⟩ = some (.int .i64 k) ∧ W0.heap.size ≤ W.heap.size) ∧ (∃ cnt', cnt' ≤ 40 * k + pre.length ∧ OwM W (w.heap.size + 1) cnt' (fun x => tk (fs.take k) x || pre.any (fun y => x == (A : Int) + (y : Int)))) ∧ KD (w.heap.size + 3) W0 W ∧ Hid (∀ y ∈ pre, tk (fs.take k) ((A : Int) + (y : Int)) = false))
              (fun c pre W => c = .ret ∧ Hid (pre.Nodup → dbl (fs.take k) ⟨A, N, fg, fu, fc⟩ = true) ∧ (Bw w W ∧ W.cell? ⟨w.heap.size, 0, none⟩ = some (.int .i64 8) ∧ W.cell? ⟨w.heap.size, 1, none⟩ = some (.int .i64 k)) ∧ KD (w.heap.size + 3) W0 W)
              (fun s X Y row hs hg hr => by
                obtain ⟨q1, ⟨q2, q3⟩, ⟨cnt', q4, q5⟩, q6, q7⟩ := hs
                exact ⟨q1.K (by omega) hg hr, ⟨cellK q2 hg hr, Nat.le_trans q3 hg.size⟩, ⟨cnt', q4, q5.K (by omega) hg hr⟩, q6.K (Nat.le_refl _) hg hr, q7⟩)
              (fun c s X Y row hs hg hr => by
                obtain ⟨q1, q2, ⟨q3, q4, q5⟩, q6⟩ := hs
                exact ⟨q1, q2, ⟨bwK q3 (by omega) hg hr, cellK q4 hg hr, cellK q5 hg hr⟩, q6.K (Nat.le_refl _) hg hr⟩)
              ⟨hC0, ⟨ki0, Nat.le_refl _⟩, ⟨cnt, by simpa using hcnt, by simpa using HO0.out⟩, KD.refl _ _, fun y hy => by simp at hy⟩
              (fun y => [(42, .int .i64 (A + y)), (43, .int .i64 (N - 1 - y)), (9, .int .i64 (A + y))]) ?assign ?body ?done ?stop
            case assign =>
              intro l y W K hK
              gi_wp2
              exact hK
            case body =>
              rintro l pre y W hy hpl ⟨hCW, ⟨kiW, hsW⟩, ⟨cnt', hc', D, hD1, hD2, hD3⟩, hKD, hNo⟩
              simp only [List.foldl, List.setIfInBounds_toArray, List.set_cons_succ, List.set_cons_zero]
              have hT := hD3 ((A : Int) + (y : Int))
              have HD3 := Lib.hid hD3; clear hD3
              have hkey := Maps.keyOf_int_mk Tryd.underlying3 (lit_wf ((A : Int) + (y : Int)) (by omega) (by omega))
              have r0 := hCW.r0
              have r1 := hCW.r1
              have f0 := hCW.f0
              have f1 := hCW.f1
              have km := hCW.km
              have HOW := Lib.hid hD1; clear hD1
              cases hh : (tk (fs.take k) ((A : Int) + (y : Int)) || pre.any (fun z => (A : Int) + (y : Int) == (A : Int) + (z : Int))) with
              | true =>
                replace hT : Maps.has D (.int .i64 ((A : Int) + (y : Int))) = true := hT.trans hh
                have HH := Lib.hid hh; clear hh
                gi_wp2_with (gi_at_lookup; refine wpListIn_lookup_own_ok_int _ rfl _ _ 108 rfl 3 3 .i64 (Maps.int_keyed Tryd.underlying3) Tryd.underlying108 Tryd.underlying3 (zeroInt _) (w.heap.size + 1) cnt' D rfl HOW.out _ (.int .i64 ((A : Int) + (y : Int))) rfl hkey ?_; intro cc _ _)
                have hF := hCW.fault (.int .i64 8) (.int .i64 k)
                refine ⟨((KeepsOthers.setCell _ _ _).trans (KeepsOthers.setCell _ _ _)).from _, rfl, fun hnd => ?_, hF, hKD.trans ((KD.set _ _ _).trans (KD.set _ _ _))⟩
                have hh := HH.out
                cases htk : tk (fs.take k) ((A : Int) + (y : Int)) with
                | true => exact dbl_yes _ ⟨A, N, fg, fu, fc⟩ y (by simpa using hy) htk
                | false =>
                  rw [htk, Bool.false_or, List.any_eq_true] at hh
                  obtain ⟨z, hz, e⟩ := hh
                  simp at e
                  obtain rfl : y = z := by omega
                  rw [List.nodup_append] at hnd
                  exact absurd rfl (hnd.2.2 _ hz _ (by simp))
              | false =>
                replace hT : Maps.has D (.int .i64 ((A : Int) + (y : Int))) = false := hT.trans hh
                have HH := Lib.hid hh; clear hh
                gi_wp2_with (first | (gi_at_lookup; refine wpListIn_lookup_own_ok_int _ rfl _ _ 108 rfl 3 3 .i64 (Maps.int_keyed Tryd.underlying3) Tryd.underlying108 Tryd.underlying3 (zeroInt _) (w.heap.size + 1) cnt' D rfl HOW.out _ (.int .i64 ((A : Int) + (y : Int))) rfl hkey ?_; intro cc _ _) | (gi_at_mapUpdate; refine wpListIn_mapUpdate_own _ rfl _ _ _ 108 rfl 3 3 (Maps.int_keyed Tryd.underlying3) Tryd.underlying108 _ (w.heap.size + 1) cnt' D rfl HOW.out (by unfold maxLen; omega) _ _ (.int .i64 ((A : Int) + (y : Int))) rfl rfl hkey _ [] (plainElem_int Tryd.underlying3 (lit_wf (k : Int) (by omega) (by omega))) ?_; intro w1 hown1 hgrow1))
                refine ⟨KeepsFrom.of_grownBy hgrow1 (fun j e => by cases e; omega), fun o => World.cell?_of_block (hgrow1.block _ (by show w'.heap.size < _; omega) (by simp; omega)), ⟨hCW.row hgrow1, ⟨hgrow1.cell kiW (by simp; omega), Nat.le_trans hsW hgrow1.size⟩, ⟨cnt' + 1, by simp; omega, ?_⟩, hKD.trans (KD.row hgrow1 (by omega)), ?_⟩⟩
                · have hp := OwM.put (w := W) hD2 HD3.out hown1
                  refine (show (fun x => (tk (fs.take k) x || pre.any fun y => x == (A : Int) + (y : Int)) || x == (A : Int) + (y : Int)) = (fun x => tk (fs.take k) x || (pre ++ [y]).any fun y => x == (A : Int) + (y : Int)) from ?_) ▸ hp
                  funext x
                  simp [Bool.or_assoc]
                · intro z hz
                  rcases List.mem_append.1 hz with hz | hz
                  · exact hNo.out z hz
                  · simp at hz; subst hz
                    have := HH.out
                    simp only [Bool.or_eq_false_iff] at this
                    exact this.1
            case done =>
              rintro D W hsD ⟨hCW, ⟨kiW, hsW⟩, ⟨cnt', hc', hOW⟩, hKD, hNo⟩ hK
              have hMW := HM0.out.cons' hsD hz3 hK hKD
              have HMW := Lib.hid hMW; clear hMW
              have HOW := Lib.hid hOW; clear hOW
              have hL : layE (fs.take k) ⟨A, N, fg, fu, fc⟩ bt = 0 := by
                unfold layE
                rw [HEF.out, if_pos rfl, if_neg (show ¬ bt < (A : Int) + N by omega), dbl_no _ _ (fun y hy => hNo.out y (List.mem_range.2 (by simpa using hy)))]; rfl
              have HLT := Lib.hid (show lay bt [] fs = lay bt (fs.take (k + 1)) (fs.drop (k + 1)) by rw [HLS.out, if_pos hL])
              clear hL
              rw [List.length_range] at hc'
              go_wp2
              refine ⟨⟨_, _, _, _, _, _, _, _, _, _, _, _, _, _, _, _, _, _, _, _, _, _, _, _, _, _, _, _, _, _, _, _, _, _, _, _, _, _, _, _, _, _, _, _, k + 1, rfl, by omega, HMW.out, hCW, ⟨cnt', by omega, ?_⟩, HLT.out⟩, by simp [layMu, intOf]; omega⟩
              rw [HT.out]
              refine (show (fun x => tk (fs.take k) x || (List.range N).any fun y => x == (A : Int) + (y : Int)) = tk (fs.take k ++ [⟨A, N, fg, fu, fc⟩]) from ?_) ▸ HOW.out
              funext x
              rw [any_place, tk_snoc]
            case stop =>
              rintro D c k' W hsD hk' ⟨rfl, hdb, ⟨hBW, q0, q1⟩, hKD⟩ hK
              have hMW := HM0.out.cons' hsD hz3 hK hKD
              have HMW := Lib.hid hMW; clear hMW
              have hL : layE (fs.take k) ⟨A, N, fg, fu, fc⟩ bt = 8 := by
                unfold layE
                rw [HEF.out, if_pos rfl, if_neg (show ¬ bt < (A : Int) + N by omega), hdb.out List.nodup_range]; rfl
              have HL := Lib.hid (show layout fs bt = (8, (k : Int)) by rw [HE.out, HLS.out, if_neg (by rw [hL]; decide), hL])
              clear hL
              go_wp2
              refine ⟨HMW.out.mono (by omega), fun W' hS => ⟨.agg #[.int .i64 8, .int .i64 k], ?_, layP_of HL.out, Bw.shut hBW hS⟩⟩
              have k0 := hS.cell _ _ _ q0
              have k1 := hS.cell _ _ _ q1
              simp [results, Tryd.results63, go_sem, k0, k1]
        · rw [errF_no hf] at HCK
          have HL := Lib.hid (show layout fs bt = (2, (k : Int)) by rw [HE.out, HLS.out]; unfold layE; rw [errF_no hf]; simp)
          clear hf HLS
          go_wp2_with (go_at_call 67; refine (HCK.out _).mono ?_; rintro e w' ⟨rfl, hb⟩; have hbw : Bw wr w' := (by repeat (first | exact Bw.refl _ | assumption | refine Bw.alloc ?_ _ | refine Bw.drew ?_ | refine Bw.trans ?_ (by assumption) | refine Bw.setCell ?_ (by simp; try omega) _)); have hC2 := hC.mono hbw; have r0 := hC2.r0; have r1 := hC2.r1; have f0 := hC2.f0; have f1 := hC2.f1; have km := hC2.km; have ki : w'.cell? ⟨wr.heap.size, 0, none⟩ = some (.int .i64 k) := hb.cell' (by simp [go_sem]); have g0 : w'.cell? ⟨wr.heap.size + 1, 0, none⟩ = some (.int .i64 fa) := hb.cell' (by simp [go_sem]); have g1 : w'.cell? ⟨wr.heap.size + 1, 1, none⟩ = some (.int .i64 fn) := hb.cell' (by simp [go_sem]); have g2 : w'.cell? ⟨wr.heap.size + 1, 2, none⟩ = some (.bool fg) := hb.cell' (by simp [go_sem]); have g3 : w'.cell? ⟨wr.heap.size + 1, 3, none⟩ = some (.int .i64 fu) := hb.cell' (by simp [go_sem]); have g4 : w'.cell? ⟨wr.heap.size + 1, 4, none⟩ = some (.int .i64 fc) := hb.cell' (by simp [go_sem]); have hwz : wr.heap.size + 1 < w'.heap.size := lt_of_cell g0)
          have hF := hC2.fault (.int .i64 2) (.int .i64 k)
          refine ⟨((HM.out.kd (KD.of_bw hbw) (Nat.le_refl _)).kd ((KD.set _ _ _).trans (KD.set _ _ _)) (Nat.le_refl _)).mono (by omega), fun W' hS => ⟨.agg #[.int .i64 2, .int .i64 k], ?_, layP_of HL.out, Bw.shut hF.1 hS⟩⟩
          have k0 := hS.cell _ _ _ hF.2.1
          have k1 := hS.cell _ _ _ hF.2.2
          simp [results, Tryd.results63, go_sem, k0, k1]
      · obtain rfl : k = fs.length := by omega
        have HL := Lib.hid (show layout fs bt = (0, 0) by rw [HE.out, hlay]; simp [lay])
        have HM := Lib.hid hM; clear hM hlay
        have hsz := hC.sz
        have r0 := hC.r0
        have r1 := hC.r1
        have f0 := hC.f0
        have f1 := hC.f1
        have hw0 : w.heap.size < wr.heap.size := by omega
        go_wp2
        have hF := hC.fault (.int .i64 0) (.int .i64 0)
        refine ⟨(HM.out.kd ((KD.set _ _ _).trans (KD.set _ _ _)) (Nat.le_refl _)).mono (by omega), fun W' hS => ⟨.agg #[.int .i64 0, .int .i64 0], ?_, layP_of HL.out, Bw.shut hF.1 hS⟩⟩
        have k0 := hS.cell _ _ _ hF.2.1
        have k1 := hS.cell _ _ _ hF.2.2
        simp [results, Tryd.results63, go_sem, k0, k1]
end Go.Proofs.Sky

namespace Go.Proofs.Sky
def pk (i : Nat) (zs : List Int) : List (Fd × Int) → List Int × (Int × Int)
  | [] => (zs, (0, 0))
  | (f, v) :: r => if rawB f.n f.g f.u f.c v then pk (i + 1) (putL zs f.a.toNat f.n.toNat (rawV f.u f.c v) f.n.toNat) r else ([], (5, (i : Int)))
def packR (b : Int) (fs : List Fd) (vs : List Int) : List Int × (Int × Int) :=
  if b < 0 ∨ 4000 < b then ([], (2, 0)) else if (layout fs b).1 = 0 then (if vs.length = fs.length then pk 0 (List.replicate b.toNat 0) (fs.zip vs) else ([], (3, (fs.length : Int)))) else ([], layout fs b)
theorem lay_zero (b : Int) : ∀ (r pre : List Fd), (lay b pre r).1 = 0 → ∀ f ∈ r, fk f.a f.n f.u f.c ∧ f.a + f.n ≤ b := by
  intro r
  induction r with
  | nil => intro pre _ f hf; cases hf
  | cons g r ih =>
    intro pre h f hf
    rw [lay] at h
    by_cases hE : layE pre g b = 0
    · rw [if_pos hE] at h
      rcases List.mem_cons.1 hf with rfl | hf
      · unfold layE at hE
        by_cases hk : fk f.a f.n f.u f.c
        · rw [errF_ok hk, if_pos rfl] at hE
          by_cases hb : b < f.a + f.n
          · rw [if_pos hb] at hE; cases hE
          · exact ⟨hk, by omega⟩
        · rw [errF_no hk] at hE; cases hE
      · exact ih _ h f hf
    · rw [if_neg hE] at h; exact absurd h hE
theorem layout_zero {b : Int} {fs : List Fd} (h : (layout fs b).1 = 0) : fs.length ≤ 100 ∧ ∀ f ∈ fs, fk f.a f.n f.u f.c ∧ f.a + f.n ≤ b := by
  unfold layout at h
  by_cases hl : 100 < fs.length
  · rw [if_pos hl] at h; cases h
  · rw [if_neg hl] at h; exact ⟨by omega, lay_zero b fs [] h⟩
theorem pk_step (k : Nat) (zs : List Int) (ps : List (Fd × Int)) (f : Fd) (v : Int) (h : ps[k]? = some (f, v)) : pk k zs (ps.drop k) = if rawB f.n f.g f.u f.c v then pk (k + 1) (putL zs f.a.toNat f.n.toNat (rawV f.u f.c v) f.n.toNat) (ps.drop (k + 1)) else ([], (5, (k : Int))) := by
  obtain ⟨hk, e⟩ := List.getElem?_eq_some_iff.1 h
  rw [List.drop_eq_getElem_cons hk, e, pk]
def unp (i : Nat) (zs out : List Int) : List Fd → List Int × (Int × Int)
  | [] => (out, (0, 0))
  | f :: r => if oksP zs f.a.toNat f.n.toNat then unp (i + 1) zs (out ++ [0]) r else ([], (3, (i : Int)))
end Go.Proofs.Sky

namespace Go.Proofs.Sky
open Go Go.RowKit Go.Shelf
set_option maxHeartbeats 2000000
theorem owI_made (n : Nat) (hn : n ≤ 1048576) (w : World) : OwI (w.alloc (.cells (madeCells #[.int .i64 0] n) 3)) w.heap.size (List.replicate n 0) := by
  have h := World.ownsRow_lit (base := 0) (e := 3) (size := 1) w (madeCells #[Value.int .i64 0] (n * 1)) n (Nat.zero_le _) (by unfold maxLen; omega) (by simp [madeCells])
  rw [made1, Nat.mul_one] at h
  refine ⟨fun i hi => ?_, fun i hi => h.frozenAt i⟩
  simp at hi
  rw [h.cellAt i (by omega)]
  simp [hi]
def Capd (v : Value) : Prop := ∀ a n c, v = .slice a n c → n ≤ c ∧ c ≤ 9223372036854775807
theorem own_capd {w : World} {base : Nat} {e : TypeId} {k : Nat} {v : Value} {n : Nat} {xs : List Value} (h : w.ownsRow base e k v n xs) : Capd v := by
  intro a m c hv
  rcases h.2 with ⟨rfl, rfl⟩ | ⟨g, cap, cur, rfl, _, _, hnc, hcm, _⟩
  · injection hv with h1 h2 h3; omega
  · injection hv with h1 h2 h3; subst h2 h3; exact ⟨hnc, by unfold maxLen at hcm; omega⟩
theorem Capd.nil : Capd (.slice none 0 0) := fun a n c h => by injection h with h1 h2 h3; omega
theorem Capd.at {a : Option Addr} {n c : Nat} (h : n ≤ c ∧ c ≤ 9223372036854775807) : Capd (.slice a n c) := fun a' n' c' h' => by injection h' with h1 h2 h3; subst h2 h3; exact h
def PackP (base : Nat) (l : List Int) (x y : Int) (e : Ending) (w' : World) : Prop := ∃ v', e = .returned (.tuple #[v', .agg #[.int .i64 x, .int .i64 y]]) ∧ RdI w' v' l ∧ Fresh base v' ∧ Capd v'
theorem packP_nil (base : Nat) (x y : Int) (w' : World) : PackP base [] x y (.returned (.tuple #[.slice none 0 0, .agg #[.int .i64 x, .int .i64 y]])) w' := ⟨_, rfl, RdI.nil _, Fresh.nil _ _ _, Capd.nil⟩
structure PkC (w wr : World) : Prop where
  bw : Bw w wr
  sz : w.heap.size + 1 ≤ wr.heap.size
  r0 : wr.cell? ⟨w.heap.size, 0, none⟩ = some (.int .i64 0)
  r1 : wr.cell? ⟨w.heap.size, 1, none⟩ = some (.int .i64 0)
  f0 : wr.frozen? ⟨w.heap.size, 0, none⟩ = false
  f1 : wr.frozen? ⟨w.heap.size, 1, none⟩ = false
theorem PkC.mono {w a b : World} (h : PkC w a) (hb : Bw a b) : PkC w b :=
  ⟨h.bw.trans hb, Nat.le_trans h.sz hb.size, hb.cell' h.r0, hb.cell' h.r1, hb.frozen' h.r0 h.f0, hb.frozen' h.r1 h.f1⟩
theorem PkC.gr {w a b : World} {bl : Nat} (h : PkC w a) (hb : Gr bl a b) (hl : w.heap.size < bl) : PkC w b := by
  have hs := h.sz
  exact ⟨hb.to_bw h.bw (by omega), Nat.le_trans h.sz hb.size, by rw [hb.cell _ (by omega) (by omega)]; exact h.r0, by rw [hb.cell _ (by omega) (by omega)]; exact h.r1, by rw [hb.frozen _ (by omega) (by omega)]; exact h.f0, by rw [hb.frozen _ (by omega) (by omega)]; exact h.f1⟩
theorem PkC.fault {w a : World} (h : PkC w a) (x y : Value) : let b := (a.setCell ⟨w.heap.size, 0, none⟩ x).setCell ⟨w.heap.size, 1, none⟩ y
    Bw w b ∧ b.cell? ⟨w.heap.size, 0, none⟩ = some x ∧ b.cell? ⟨w.heap.size, 1, none⟩ = some y :=
  ⟨(h.bw.setCell (by simp) _).setCell (by simp) _, by rw [cell_set_off _ _ _ _ _ (by omega)]; exact cell_set_same _ _ _ _ h.r0, cell_set_same _ _ _ _ (by rw [cell_set_off _ _ _ _ _ (by omega)]; exact h.r1)⟩
theorem pack_range (fs : List Fd) (vs : List Int) (vf vv : Value) (bt : Int) (w : World) (hf : RdF w vf fs) (hv : RdI w vv vs) (hb : bt < 0 ∨ 4000 < bt) :
    Calls Tryd.prog 42 #[vf, vv, .int .i64 bt] w fun e w' => PackP w.heap.size [] 2 0 e w' ∧ Bw w w' := by
  obtain ⟨a1, c1, rfl⟩ := hf.form
  obtain ⟨a2, c2, rfl⟩ := hv.form
  clear hf hv
  rcases hb with hb | hb
  all_goals
    go_enter Tryd.func42, Tryd.ntmps42
    go_wp2
    refine bodyPost_ret (v := .tuple #[.slice none 0 0, .agg #[.int .i64 2, .int .i64 0]]) (by simp [results, Tryd.results42, go_sem]) rfl ⟨packP_nil _ _ _ _, (by repeat (first | exact Bw.refl _ | assumption | refine Bw.alloc ?_ _ | refine Bw.drew ?_ | refine Bw.trans ?_ (by assumption) | refine Bw.setCell ?_ (by simp; try omega) _))⟩
theorem pack_lay (fs : List Fd) (vs : List Int) (vf vv : Value) (bt : Int) (w : World) (hf : RdF w vf fs) (hv : RdI w vv vs) (hb : 0 ≤ bt) (hb2 : bt ≤ 4000) (hl : (layout fs bt).1 ≠ 0) :
    Calls Tryd.prog 42 #[vf, vv, .int .i64 bt] w fun e w' => PackP w.heap.size [] (layout fs bt).1 (layout fs bt).2 e w' ∧ Bw w w' := by
  have HL := Lib.hid (fun W hW => Layout_any fs vf bt W hW)
  have HF := Lib.hid hf
  obtain ⟨a1, c1, rfl⟩ := hf.form
  obtain ⟨a2, c2, rfl⟩ := hv.form
  clear hf hv
  unfold LayP at HL
  have hne : ((layout fs bt).1 != 0) = true := by simpa using hl
  clear hl
  generalize layout fs bt = lay at *
  obtain ⟨l1, l2⟩ := lay
  go_enter Tryd.func42, Tryd.ntmps42
  go_wp2_with (go_at_call 63; refine (HL.out _ (HF.out.mono (by repeat (first | exact Bw.refl _ | assumption | refine Bw.alloc ?_ _ | refine Bw.drew ?_ | refine Bw.trans ?_ (by assumption) | refine Bw.setCell ?_ (by simp; try omega) _)))).mono ?_; rintro e w' ⟨rfl, hb⟩; obtain ⟨hcc, hff⟩ := Bw.cells hb; have hsz := Bw.size hb; try (have hz0 : w.heap.size < w'.heap.size := by (try simp at hsz); omega); try (have hz1 : w.heap.size + 1 < w'.heap.size := by (try simp at hsz); omega); try (have hz2 : w.heap.size + 1 + 1 < w'.heap.size := by (try simp at hsz); omega); try (have hz3 : w.heap.size + 1 + 1 + 1 < w'.heap.size := by (try simp at hsz); omega); try (have hz4 : w.heap.size + 1 + 1 + 1 + 1 < w'.heap.size := by (try simp at hsz); omega); try (have hzr : wr.heap.size < w'.heap.size := by (try simp at hsz); omega); try (have hzr1 : wr.heap.size + 1 < w'.heap.size := by (try simp at hsz); omega))
  have hC : PkC w (w'.alloc (Obj.cells #[.int .i64 l1, .int .i64 l2] 71)) := ⟨(by repeat (first | exact Bw.refl _ | assumption | refine Bw.alloc ?_ _ | refine Bw.drew ?_ | refine Bw.trans ?_ (by assumption) | refine Bw.setCell ?_ (by simp; try omega) _)), by simp; omega, by simp [*, go_sem], by simp [*, go_sem], by simp [*, go_sem], by simp [*, go_sem]⟩
  have q0 : (w'.alloc (Obj.cells #[.int .i64 l1, .int .i64 l2] 71)).cell? ⟨w'.heap.size, 0, none⟩ = some (.int .i64 l1) := by simp [go_sem]
  have q1 : (w'.alloc (Obj.cells #[.int .i64 l1, .int .i64 l2] 71)).cell? ⟨w'.heap.size, 1, none⟩ = some (.int .i64 l2) := by simp [go_sem]
  generalize (w'.alloc (Obj.cells #[.int .i64 l1, .int .i64 l2] 71)) = W0 at hC q0 q1 ⊢
  clear hcc hff
  have e0 := fun p : Ext W0 => Ext.cell' q0 p
  have e1 := fun p : Ext W0 => Ext.cell' q1 p
  (refine wp_region_ext_tail 2 (by kernel_rfl) (by kernel_rfl) ?_; simp only [List.take_succ_cons, List.take_zero, List.drop_succ_cons, List.drop_zero]; (repeat (go_big_quiet_step ((fail)))); refine wpQuiet_nil ?_; rintro wq ⟨⟨_, hbq⟩, rfl⟩; obtain ⟨hccq, hffq⟩ := Bw.cells hbq; have hszq := Bw.size hbq)
  have hC2 := hC.mono hbq
  have r0 := hC2.r0
  have r1 := hC2.r1
  have f0 := hC2.f0
  have f1 := hC2.f1
  clear hccq hffq e0 e1
  go_wp2
  have hF := hC2.fault (.int .i64 l1) (.int .i64 l2)
  exact bodyPost_ret (v := .tuple #[.slice none 0 0, .agg #[.int .i64 l1, .int .i64 l2]]) (by simp [results, Tryd.results42, go_sem, hF.2.1, hF.2.2]) rfl ⟨packP_nil _ _ _ _, hF.1⟩
theorem pack_len (fs : List Fd) (vs : List Int) (vf vv : Value) (bt : Int) (w : World) (hf : RdF w vf fs) (hv : RdI w vv vs) (hb : 0 ≤ bt) (hb2 : bt ≤ 4000) (hl : (layout fs bt).1 = 0) (hn : vs.length ≠ fs.length) :
    Calls Tryd.prog 42 #[vf, vv, .int .i64 bt] w fun e w' => PackP w.heap.size [] 3 fs.length e w' ∧ Bw w w' := by
  have HL := Lib.hid (fun W hW => Layout_any fs vf bt W hW)
  have HF := Lib.hid hf
  obtain ⟨a1, c1, rfl⟩ := hf.form
  obtain ⟨a2, c2, rfl⟩ := hv.form
  clear hf hv
  unfold LayP at HL
  rw [hl] at HL
  have hne : ((vs.length : Int) != (fs.length : Int)) = true := by simp; omega
  clear hl hn
  go_enter Tryd.func42, Tryd.ntmps42
  go_upto_region 4 with (first | (go_at_call 63; refine (HL.out _ (HF.out.mono (by repeat (first | exact Bw.refl _ | assumption | refine Bw.alloc ?_ _ | refine Bw.drew ?_ | refine Bw.trans ?_ (by assumption) | refine Bw.setCell ?_ (by simp; try omega) _)))).mono ?_; rintro e w' ⟨rfl, hb⟩; obtain ⟨hcc, hff⟩ := Bw.cells hb; have hsz := Bw.size hb; try (have hz0 : w.heap.size < w'.heap.size := by (try simp at hsz); omega); try (have hz1 : w.heap.size + 1 < w'.heap.size := by (try simp at hsz); omega); try (have hz2 : w.heap.size + 1 + 1 < w'.heap.size := by (try simp at hsz); omega); try (have hz3 : w.heap.size + 1 + 1 + 1 < w'.heap.size := by (try simp at hsz); omega); try (have hz4 : w.heap.size + 1 + 1 + 1 + 1 < w'.heap.size := by (try simp at hsz); omega); try (have hzr : wr.heap.size < w'.heap.size := by (try simp at hsz); omega); try (have hzr1 : wr.heap.size + 1 < w'.heap.size := by (try simp at hsz); omega)))
  have hC : PkC w (w'.alloc (Obj.cells #[.int .i64 0, .int .i64 (layout fs bt).2] 71)) := ⟨(by repeat (first | exact Bw.refl _ | assumption | refine Bw.alloc ?_ _ | refine Bw.drew ?_ | refine Bw.trans ?_ (by assumption) | refine Bw.setCell ?_ (by simp; try omega) _)), by simp; omega, by simp [*, go_sem], by simp [*, go_sem], by simp [*, go_sem], by simp [*, go_sem]⟩
  have q0 : (w'.alloc (Obj.cells #[.int .i64 0, .int .i64 (layout fs bt).2] 71)).cell? ⟨w'.heap.size, 0, none⟩ = some (.int .i64 0) := by simp [go_sem]
  generalize (w'.alloc (Obj.cells #[.int .i64 0, .int .i64 (layout fs bt).2] 71)) = W0 at hC q0 ⊢
  clear hcc hff
  have r0 := hC.r0
  have r1 := hC.r1
  have f0 := hC.f0
  have f1 := hC.f1
  go_wp2
  have hF := hC.fault (.int .i64 3) (.int .i64 fs.length)
  refine bodyPost_ret (v := .tuple #[.slice none 0 0, .agg #[.int .i64 3, .int .i64 fs.length]]) ?_ rfl ⟨?_, ?_⟩
  · simp [results, Tryd.results42, go_sem, hF.2.1, hF.2.2]
  · exact packP_nil _ _ _ _
  · exact hF.1
theorem pack_ok (fs : List Fd) (vs : List Int) (vf vv : Value) (n : Nat) (w : World) (hf : RdF w vf fs) (hv : RdI w vv vs) (hb2 : n ≤ 4000) (hl : (layout fs n).1 = 0) (hn : vs.length = fs.length) :
    Calls Tryd.prog 42 #[vf, vv, .int .i64 n] w fun e w' => PackP w.heap.size (pk 0 (List.replicate n 0) (fs.zip vs)).1 (pk 0 (List.replicate n 0) (fs.zip vs)).2.1 (pk 0 (List.replicate n 0) (fs.zip vs)).2.2 e w' ∧ Bw w w' := by
  have HL := Lib.hid (fun W hW => Layout_any fs vf n W hW)
  have HF := Lib.hid hf
  obtain ⟨hlen, a1, c1, rfl, hz⟩ := hf
  obtain ⟨_, a2, c2, rfl, hzv⟩ := hv
  obtain ⟨hl100, hgood⟩ := layout_zero hl
  have HG := Lib.hid hgood; clear hgood
  have HZ := Lib.hid hz; clear hz
  have HZV := Lib.hid hzv; clear hzv
  unfold LayP at HL
  rw [hl] at HL
  have hmk := makeInt n (by omega)
  rw [hn]
  obtain ⟨m, hm⟩ : ∃ m, fs.length = m := ⟨_, rfl⟩
  have HN := Lib.hid (And.intro hn hm)
  rw [hm] at hl100 HF HL ⊢
  obtain ⟨R, hR⟩ : ∃ R, pk 0 (List.replicate n 0) (fs.zip vs) = R := ⟨_, rfl⟩
  rw [hR]
  have HR := Lib.hid hR
  clear hl hn hm hR
  go_enter Tryd.func42, Tryd.ntmps42
  go_wp2_with (go_at_call 63; refine (HL.out _ (HF.out.mono (by repeat (first | exact Bw.refl _ | assumption | refine Bw.alloc ?_ _ | refine Bw.drew ?_ | refine Bw.trans ?_ (by assumption) | refine Bw.setCell ?_ (by simp; try omega) _)))).mono ?_; rintro e w' ⟨rfl, hb⟩; obtain ⟨hcc, hff⟩ := Bw.cells hb; have hsz := Bw.size hb; try (have hz0 : w.heap.size < w'.heap.size := by (try simp at hsz); omega); try (have hz1 : w.heap.size + 1 < w'.heap.size := by (try simp at hsz); omega); try (have hz2 : w.heap.size + 1 + 1 < w'.heap.size := by (try simp at hsz); omega); try (have hz3 : w.heap.size + 1 + 1 + 1 < w'.heap.size := by (try simp at hsz); omega); try (have hz4 : w.heap.size + 1 + 1 + 1 + 1 < w'.heap.size := by (try simp at hsz); omega); try (have hzr : wr.heap.size < w'.heap.size := by (try simp at hsz); omega); try (have hzr1 : wr.heap.size + 1 < w'.heap.size := by (try simp at hsz); omega))
  have hC : PkC w ((w'.alloc (Obj.cells #[.int .i64 0, .int .i64 (layout fs n).2] 71)).alloc (Obj.cells (madeCells #[.int .i64 0] n) 3)) := ⟨(by repeat (first | exact Bw.refl _ | assumption | refine Bw.alloc ?_ _ | refine Bw.drew ?_ | refine Bw.trans ?_ (by assumption) | refine Bw.setCell ?_ (by simp; try omega) _)), by simp; omega, by simp [*, go_sem], by simp [*, go_sem], by simp [*, go_sem], by simp [*, go_sem]⟩
  have hO : OwI ((w'.alloc (Obj.cells #[.int .i64 0, .int .i64 (layout fs n).2] 71)).alloc (Obj.cells (madeCells #[.int .i64 0] n) 3)) (w'.heap.size + 1) (List.replicate n 0) := by
    have := owI_made n (by omega) (w'.alloc (Obj.cells #[.int .i64 0, .int .i64 (layout fs n).2] 71))
    rwa [World.size_alloc] at this
  have hGs : w'.heap.size + 1 < ((w'.alloc (Obj.cells #[.int .i64 0, .int .i64 (layout fs n).2] 71)).alloc (Obj.cells (madeCells #[.int .i64 0] n) 3)).heap.size := by simp
  generalize ((w'.alloc (Obj.cells #[.int .i64 0, .int .i64 (layout fs n).2] 71)).alloc (Obj.cells (madeCells #[.int .i64 0] n) 3)) = W0 at hC hO hGs ⊢
  clear hcc hff hmk hb hsz
  obtain ⟨G, hG⟩ : ∃ G, w'.heap.size + 1 = G := ⟨_, rfl⟩
  rw [hG] at hO hGs ⊢
  have hG1 : w.heap.size < G := by omega
  clear hG
  have HO := Lib.hid hO; clear hO
  go_loopw [40] (fun i wr => ∃ k : Nat, k ≤ m ∧ i = .int .i64 k ∧ PkC w wr ∧ G < wr.heap.size ∧ Hid (∃ zs : List Int, zs.length = n ∧ OwI wr G zs ∧ pk k zs ((fs.zip vs).drop k) = R)) (fun i _ => m - (intOf i).toNat)
  case atStart => exact ⟨0, Nat.zero_le _, rfl, hC, hGs, List.replicate n 0, by simp, HO.out, by simpa using HR.out⟩
  case round =>
    obtain ⟨k, hk, rfl, hCr, hGr, HW⟩ := hrel
    by_cases hlt : k < m
    · obtain ⟨zs, hzl, hO, hpk⟩ := HW.out
      have hn1 := HN.out.1
      have hn2 := HN.out.2
      obtain ⟨b1, o1, rfl, hb1, hz1⟩ := HZ.out.resolve_left (by intro e; subst e; simp at hn2; omega)
      obtain ⟨b2, o2, rfl, hb2', hz2⟩ := HZV.out.resolve_left (by intro e; subst e; simp at hn1; omega)
      have hfe : fs[k]? = some fs[k] := List.getElem?_eq_getElem (by omega)
      have hve : vs[k]? = some vs[k] := List.getElem?_eq_getElem (by omega)
      have hgd := HG.out fs[k] (List.getElem_mem (by omega))
      have hpe : (fs.zip vs)[k]? = some (fs[k], vs[k]) := by rw [List.getElem?_zip_eq_some]; exact ⟨hfe, hve⟩
      generalize fs[k] = f at hfe hgd hpe
      have hcv := hz2 k (by omega)
      rw [List.getD_eq_getElem?_getD, hve, Option.getD_some] at hcv
      generalize vs[k] = x at hcv hpe
      obtain ⟨fa, fn, fg, fu, fc⟩ := f
      obtain ⟨d0, d1, d2, d3, d4⟩ := hz1 k _ hfe
      replace d0 := hCr.bw.cell' d0
      replace d1 := hCr.bw.cell' d1
      replace d2 := hCr.bw.cell' d2
      replace d3 := hCr.bw.cell' d3
      replace d4 := hCr.bw.cell' d4
      replace hcv := hCr.bw.cell' hcv
      obtain ⟨hfk, hfit⟩ := hgd
      obtain ⟨A, rfl⟩ := Int.eq_ofNat_of_zero_le hfk.1
      obtain ⟨N, rfl⟩ := Int.eq_ofNat_of_zero_le (show 0 ≤ fn from by have h : (1 : Int) ≤ fn := hfk.2.2.1; omega)
      have HST := Lib.hid (hpk.symm.trans (pk_step k zs _ _ _ hpe))
      have HRW := Lib.hid (fun w => raw_any A N fg fu fc x w hfk)
      unfold RawP at HRW
      have HZS := Lib.hid (And.intro hzl hO)
      have hki : (k : Int) < m := by omega
      obtain ⟨h1, h2, h3, h4, h5, h6, h7, h8, h9⟩ := hfk
      have hfk : fk A N fu fc := ⟨h1, h2, h3, h4, h5, h6, h7, h8, h9⟩
      have hlA : A + N ≤ n := by have : (A : Int) + N ≤ n := hfit; omega
      clear hz1 hz2 hfe hve hpe hpk hO hn1 hn2 HW hfit
      cases hb : rawB N fg fu fc x with
      | true =>
        have HPU := Lib.hid (fun W hb ho => put_ok zs G n n A N fg fu fc (rawV fu fc x) W hfk (by omega) hzl (by omega) hb ho)
        have HSS := Lib.hid (show R = pk (k + 1) (putL zs A N (rawV fu fc x) N) ((fs.zip vs).drop (k + 1)) by rw [HST.out, if_pos hb]; simp)
        rw [hb] at HRW
        clear hb HST hzl
        have HFK := Lib.hid hfk; clear hfk
        have e0 := fun p : Ext (wr.alloc (Obj.cells #[.int .i64 (A : Int), .int .i64 (N : Int), .bool fg, .int .i64 fu, .int .i64 fc] 86)) => Ext.cell (b := wr.heap.size) (o := 0) (v := .int .i64 (A : Int)) (by simp) (by simp [go_sem]) p
        have e1 := fun p : Ext (wr.alloc (Obj.cells #[.int .i64 (A : Int), .int .i64 (N : Int), .bool fg, .int .i64 fu, .int .i64 fc] 86)) => Ext.cell (b := wr.heap.size) (o := 1) (v := .int .i64 (N : Int)) (by simp) (by simp [go_sem]) p
        have e2 := fun p : Ext (wr.alloc (Obj.cells #[.int .i64 (A : Int), .int .i64 (N : Int), .bool fg, .int .i64 fu, .int .i64 fc] 86)) => Ext.cell (b := wr.heap.size) (o := 2) (v := .bool fg) (by simp) (by simp [go_sem]) p
        have e3 := fun p : Ext (wr.alloc (Obj.cells #[.int .i64 (A : Int), .int .i64 (N : Int), .bool fg, .int .i64 fu, .int .i64 fc] 86)) => Ext.cell (b := wr.heap.size) (o := 3) (v := .int .i64 fu) (by simp) (by simp [go_sem]) p
        have e4 := fun p : Ext (wr.alloc (Obj.cells #[.int .i64 (A : Int), .int .i64 (N : Int), .bool fg, .int .i64 fu, .int .i64 fc] 86)) => Ext.cell (b := wr.heap.size) (o := 4) (v := .int .i64 fc) (by simp) (by simp [go_sem]) p
        have e5 := fun p : Ext (wr.alloc (Obj.cells #[.int .i64 (A : Int), .int .i64 (N : Int), .bool fg, .int .i64 fu, .int .i64 fc] 86)) => Ext.cell' ((Bw.alloc (Bw.refl wr) _).cell' hcv) p
        go_wp2
        (refine wp_region_quiet_ext (by kernel_rfl) (by kernel_rfl) ?_; (repeat (go_big_quiet_step ((go_at_call 64; refine Calls.ext_of (HRW.out _))))); refine wpQuiet_nil ?_; rintro wq ⟨⟨_, hbq⟩, rfl⟩; obtain ⟨hccq, hffq⟩ := Bw.cells hbq; have hszq := Bw.size hbq)
        have hbwq : Bw wr wq := (by repeat (first | exact Bw.refl _ | assumption | refine Bw.alloc ?_ _ | refine Bw.drew ?_ | refine Bw.trans ?_ (by assumption) | refine Bw.setCell ?_ (by simp; try omega) _))
        have hCq := hCr.mono hbwq
        have hOq := HZS.out.2.bw hbwq
        have HOQ := Lib.hid hOq; clear hOq
        have hGq : G < wq.heap.size := by have := hbwq.size; omega
        have j0 : wq.cell? ⟨wr.heap.size, 0, none⟩ = some (.int .i64 (A : Int)) := hbq.cell' (by simp [go_sem])
        have j1 : wq.cell? ⟨wr.heap.size, 1, none⟩ = some (.int .i64 (N : Int)) := hbq.cell' (by simp [go_sem])
        have j2 : wq.cell? ⟨wr.heap.size, 2, none⟩ = some (.bool fg) := hbq.cell' (by simp [go_sem])
        have j3 : wq.cell? ⟨wr.heap.size, 3, none⟩ = some (.int .i64 fu) := hbq.cell' (by simp [go_sem])
        have j4 : wq.cell? ⟨wr.heap.size, 4, none⟩ = some (.int .i64 fc) := hbq.cell' (by simp [go_sem])
        clear e0 e1 e2 e3 e4 e5 hccq hffq
        go_wp2_with (go_at_call 65; refine (HPU.out _ hGq HOQ.out).mono ?_; rintro e w2 ⟨rfl, hO2, hG2⟩; have HO2 := Lib.hid hO2; clear hO2)
        go_roundw
        case rel => exact ⟨k + 1, by omega, by go_num, hCq.gr hG2 hG1, Nat.lt_of_lt_of_le hGq hG2.size, _, by rw [putL_length]; exact HZS.out.1, HO2.out, HSS.out.symm⟩
        case measure => simp [intOf]; omega
      | false =>
        have HSS := Lib.hid (show R = ([], ((5 : Int), (k : Int))) by rw [HST.out, if_neg (by rw [hb]; decide)])
        rw [hb] at HRW
        clear hb HST hzl
        have HFK := Lib.hid hfk; clear hfk
        have e0 := fun p : Ext (wr.alloc (Obj.cells #[.int .i64 (A : Int), .int .i64 (N : Int), .bool fg, .int .i64 fu, .int .i64 fc] 86)) => Ext.cell (b := wr.heap.size) (o := 0) (v := .int .i64 (A : Int)) (by simp) (by simp [go_sem]) p
        have e1 := fun p : Ext (wr.alloc (Obj.cells #[.int .i64 (A : Int), .int .i64 (N : Int), .bool fg, .int .i64 fu, .int .i64 fc] 86)) => Ext.cell (b := wr.heap.size) (o := 1) (v := .int .i64 (N : Int)) (by simp) (by simp [go_sem]) p
        have e2 := fun p : Ext (wr.alloc (Obj.cells #[.int .i64 (A : Int), .int .i64 (N : Int), .bool fg, .int .i64 fu, .int .i64 fc] 86)) => Ext.cell (b := wr.heap.size) (o := 2) (v := .bool fg) (by simp) (by simp [go_sem]) p
        have e3 := fun p : Ext (wr.alloc (Obj.cells #[.int .i64 (A : Int), .int .i64 (N : Int), .bool fg, .int .i64 fu, .int .i64 fc] 86)) => Ext.cell (b := wr.heap.size) (o := 3) (v := .int .i64 fu) (by simp) (by simp [go_sem]) p
        have e4 := fun p : Ext (wr.alloc (Obj.cells #[.int .i64 (A : Int), .int .i64 (N : Int), .bool fg, .int .i64 fu, .int .i64 fc] 86)) => Ext.cell (b := wr.heap.size) (o := 4) (v := .int .i64 fc) (by simp) (by simp [go_sem]) p
        have e5 := fun p : Ext (wr.alloc (Obj.cells #[.int .i64 (A : Int), .int .i64 (N : Int), .bool fg, .int .i64 fu, .int .i64 fc] 86)) => Ext.cell' ((Bw.alloc (Bw.refl wr) _).cell' hcv) p
        go_wp2
        (refine wp_region_quiet_ext (by kernel_rfl) (by kernel_rfl) ?_; (repeat (go_big_quiet_step ((go_at_call 64; refine Calls.ext_of (HRW.out _))))); refine wpQuiet_nil ?_; rintro wq ⟨⟨_, hbq⟩, rfl⟩; obtain ⟨hccq, hffq⟩ := Bw.cells hbq; have hszq := Bw.size hbq)
        have hbwq : Bw wr wq := (by repeat (first | exact Bw.refl _ | assumption | refine Bw.alloc ?_ _ | refine Bw.drew ?_ | refine Bw.trans ?_ (by assumption) | refine Bw.setCell ?_ (by simp; try omega) _))
        have hCq := hCr.mono hbwq
        have r0 := hCq.r0
        have r1 := hCq.r1
        have f0 := hCq.f0
        have f1 := hCq.f1
        clear e0 e1 e2 e3 e4 e5 hccq hffq
        go_wp2
        have hF := hCq.fault (.int .i64 5) (.int .i64 k)
        refine bodyPost_ret (v := .tuple #[.slice none 0 0, .agg #[.int .i64 5, .int .i64 k]]) ?_ rfl ⟨?_, ?_⟩
        · simp [results, Tryd.results42, go_sem, hF.2.1, hF.2.2]
        · rw [HSS.out]; exact packP_nil _ _ _ _
        · exact hF.1
    · obtain rfl : k = m := by omega
      obtain ⟨zs, hzl, hO, hpk⟩ := HW.out
      have hd : (fs.zip vs).drop k = [] := by rw [List.drop_eq_nil_iff]; simp [HN.out.1, HN.out.2]
      rw [hd] at hpk
      have HSS := Lib.hid (show R = (zs, ((0 : Int), (0 : Int))) from hpk.symm)
      have HZS := Lib.hid (And.intro hzl hO)
      have r0 := hCr.r0
      have r1 := hCr.r1
      have f0 := hCr.f0
      have f1 := hCr.f1
      clear hd hpk hzl hO HW HO
      go_wp2
      have hF := hCr.fault (.int .i64 0) (.int .i64 0)
      refine bodyPost_ret (v := .tuple #[.slice (some ⟨G, 0, none⟩) n n, .agg #[.int .i64 0, .int .i64 0]]) ?_ rfl ⟨?_, ?_⟩
      · simp [results, Tryd.results42, go_sem, hF.2.1, hF.2.2]
      · rw [HSS.out]
        have hz0 := HZS.out.1
        have ho0 := (HZS.out.2.other (b := w.heap.size) (o := 0) (.int .i64 0) (by omega)).other (b := w.heap.size) (o := 1) (.int .i64 0) (by omega)
        refine ⟨_, rfl, ?_, Fresh.at (by omega), Capd.at (by omega)⟩
        have := rdI_of_owI (cap := n) ho0 (by simp; omega) (by omega)
        rwa [hz0] at this
      · exact hF.1
end Go.Proofs.Sky

namespace Go.Proofs.Sky
open Go Go.RowKit Go.Shelf
set_option maxHeartbeats 2000000
theorem Pack_any (fs : List Fd) (vs : List Int) (vf vv : Value) (bt : Int) (w : World) (hf : RdF w vf fs) (hv : RdI w vv vs) :
    Calls Tryd.prog 42 #[vf, vv, .int .i64 bt] w fun e w' => PackP w.heap.size (packR bt fs vs).1 (packR bt fs vs).2.1 (packR bt fs vs).2.2 e w' ∧ Bw w w' := by
  by_cases hb : bt < 0 ∨ 4000 < bt
  · have e : packR bt fs vs = ([], (2, 0)) := by unfold packR; rw [if_pos hb]
    rw [e]; exact pack_range fs vs vf vv bt w hf hv hb
  · by_cases hl : (layout fs bt).1 = 0
    · by_cases hn : vs.length = fs.length
      · obtain ⟨n, rfl⟩ := Int.eq_ofNat_of_zero_le (show 0 ≤ bt by omega)
        have e : packR n fs vs = pk 0 (List.replicate n 0) (fs.zip vs) := by unfold packR; rw [if_neg hb, if_pos hl, if_pos hn]; simp
        rw [e]; exact pack_ok fs vs vf vv n w hf hv (by omega) hl hn
      · have e : packR bt fs vs = ([], (3, (fs.length : Int))) := by unfold packR; rw [if_neg hb, if_pos hl, if_neg hn]
        rw [e]; exact pack_len fs vs vf vv bt w hf hv (by omega) (by omega) hl hn
    · have e : packR bt fs vs = ([], layout fs bt) := by unfold packR; rw [if_neg hb, if_neg hl]
      rw [e]; exact pack_lay fs vs vf vv bt w hf hv (by omega) (by omega) hl
end Go.Proofs.Sky
