/-
  lemmas for the theorems of this claim. No conditions beyond those written in the statements.
-/
import Derived.ProofKit
import Derived.OpenShut
import Derived.Deep.SlicePairs
import Derived.Test.YtpmopobjlpfdaaaDoorP25L
import Derived.Test.YtpmopobjlpfdaaaDoorOpenS
import Derived.Test.YtpmopobjlpfdaaaDoorHR40
set_option linter.unusedVariables false
set_option linter.unusedSimpArgs false
set_option linter.unnecessarySimpa false
namespace Go.Proofs.Sky
open Go Go.RowKit Go.ChangeShapes Go.WideShapes
theorem addr_add (b off i : Nat) : (⟨b, off, none⟩ : Addr).add i = ⟨b, off + i, none⟩ := by simp [Addr.add]
section
variable {H : Type} {enc : TypeId × Value → H} {P : Program} {W : World} {base : Nat} {sp : Nat → Bool} {held : Bool}
/-- an argument that is a slice of structs of two ints reads as a list of pairs -/
theorem rdS_of_trod {t e : TypeId} {f0 f1 : Field} {a : Option Addr} {len cap : Nat} {d : DataW H} {p : List MemPlace} (ht : P.underlying t = some (.slice e)) (he : P.underlying e = some (.struct #[f0, f1])) (ce : P.cellsOf e = 2) (o0 : f0.offset = 0) (o1 : f1.offset = 1) (c0 : P.cellsOf f0.type = 1) (c1 : P.cellsOf f1.type = 1)
    (i0 : P.underlying f0.type = some (.int .i64)) (i1 : P.underlying f1.type = some (.int .i64)) (h : DataW.Trod enc P W base sp held t (.slice a len cap) d p) : ∃ ps : List (Int × Int), RdS W (.slice a len cap) ps := by
  obtain ⟨fuel, hf⟩ := h
  rcases Go.Deep.open_slice_pairs ht he ce o0 o1 c0 c1 hf with ⟨hcs, _⟩ | ⟨ad, l, c, m, n, V0, V1, D0, D1, P0, P1, hcs, _, hl, hm, hmm, _, hx⟩
  · simp [Value.cells] at hcs
    obtain ⟨rfl, rfl, rfl⟩ := hcs
    exact ⟨[], RdS.nil W⟩
  · simp [Value.cells] at hcs
    obtain ⟨rfl, rfl, rfl⟩ := hcs
    have hlm : len ≤ m := by rw [hmm]; split <;> omega
    have each : ∀ i, i < len → ∃ x y : Int, W.cell? (ad.add (i * 2)) = some (.int .i64 x) ∧ W.cell? (ad.add (i * 2 + 1)) = some (.int .i64 y) := by
      intro i hi
      obtain ⟨h1, h2, h3, h4⟩ := hx i (by omega)
      obtain ⟨x, e0, _, _⟩ := DataW.trod_int i0 h3
      obtain ⟨y, e1, _, _⟩ := DataW.trod_int i1 h4
      simp at e0 e1
      exact ⟨x, y, by rw [h1, e0], by rw [h2, e1]⟩
    let ps : List (Int × Int) := (List.range len).map fun i => if hi : i < len then ((each i hi).choose, (each i hi).choose_spec.choose) else (0, 0)
    have hlen : ps.length = len := by simp [ps]
    refine ⟨ps, by rw [hlen]; simp [maxLen] at hm; omega, some ad, cap, by rw [hlen], ?_⟩
    by_cases h0 : len = 0
    · left; exact List.length_eq_zero_iff.1 (hlen.trans h0)
    · right
      obtain ⟨b, off, spot⟩ := ad
      have hsp : spot = none := by
        obtain ⟨x, y, hc, _⟩ := each 0 (by omega)
        simpa [Addr.add] using World.cell?_spot hc
      subst hsp
      refine ⟨b, off, rfl, ?_, fun i hi => ?_⟩
      · obtain ⟨x, y, hc, _⟩ := each 0 (by omega)
        rcases Nat.lt_or_ge b W.heap.size with h' | h'
        · exact h'
        · simp [World.cell?, Addr.add, Array.getElem?_eq_none h'] at hc
      · rw [hlen] at hi
        have e1 := (each i hi).choose_spec.choose_spec
        have hg : ps.getD i (0, 0) = ((each i hi).choose, (each i hi).choose_spec.choose) := by
          rw [List.getD_eq_getElem?_getD]; simp [ps, hi]
        rw [hg]
        rw [← addr_add b off (i * 2), show (⟨b, off + i * 2 + 1, none⟩ : Addr) = (⟨b, off, none⟩ : Addr).add (i * 2 + 1) from (addr_add b off (i * 2 + 1)).symm]
        exact e1
theorem rdI_of_trod {t e : TypeId} {a : Option Addr} {len cap : Nat} {d : DataW H} {p : List MemPlace} (ht : P.underlying t = some (.slice e)) (he : P.underlying e = some (.int .i64)) (ce : P.cellsOf e = 1)
    (h : DataW.Trod enc P W base (fun _ => true) held t (.slice a len cap) d p) : ∃ zs : List Int, RdI W (.slice a len cap) zs := by
  obtain ⟨fuel, hf⟩ := h
  rcases open_ints ht he ce hf with ⟨hcs, _⟩ | ⟨x, l, c, zs, hcs, _, hl, hm, hz, _, hcell, hwz⟩
  · simp [Value.cells] at hcs
    obtain ⟨rfl, rfl, rfl⟩ := hcs
    exact ⟨[], RdI.nil W⟩
  · simp [Value.cells] at hcs
    obtain ⟨rfl, rfl, rfl⟩ := hcs
    have hz' : zs.length = cap := by simpa using hz
    have hlen : (zs.take len).length = len := by simp; omega
    refine ⟨zs.take len, by rw [hlen]; simp [maxLen] at hm; omega, some x, cap, by rw [hlen], ?_⟩
    by_cases h0 : len = 0
    · left; exact List.length_eq_zero_iff.1 (hlen.trans h0)
    · right
      obtain ⟨b, off, spot⟩ := x
      have hc0 := hcell 0 (by omega)
      have hsp : spot = none := by simpa [Addr.add] using World.cell?_spot hc0
      subst hsp
      rw [addr_add] at hc0
      refine ⟨b, off, rfl, ?_, fun i hi => ?_⟩
      · rcases Nat.lt_or_ge b W.heap.size with h' | h'
        · exact h'
        · simp [World.cell?, Array.getElem?_eq_none h'] at hc0
      · rw [hlen] at hi
        have e1 := hcell i (by omega)
        rw [addr_add] at e1
        rw [e1, List.getD_eq_getElem?_getD, List.getD_eq_getElem?_getD, List.getElem?_take, if_pos hi]
end
end Go.Proofs.Sky

namespace Go.Proofs.Sky
open Go Go.RowKit Go.ChangeShapes Go.WideShapes Go.Deep Go.Joins
section
variable {H : Type} {enc : TypeId × Value → H} {P : Program} {W : World} {base : Nat} {sp : Nat → Bool} {held : Bool}
/-- an argument that is a slice: its length and its capacity -/
theorem cap_of_trod {t e : TypeId} {a : Option Addr} {len cap : Nat} {d : DataW H} {p : List MemPlace} (ht : P.underlying t = some (.slice e)) (h : DataW.Trod enc P W base sp held t (.slice a len cap) d p) : ∀ a' n c, (Value.slice a len cap) = .slice a' n c → n ≤ c ∧ c ≤ 9223372036854775807 := by
  obtain ⟨fuel, hf⟩ := h
  intro a' n' c' e9
  injection e9 with e1 e2 e3
  subst e1 e2 e3
  rcases open_slice ht hf with ⟨h0, _⟩ | ⟨ad, l, c, m, n, D, Pl, hcs, _, hl, hm, _⟩
  · simp [Value.cells] at h0
    obtain ⟨rfl, rfl, rfl⟩ := h0
    omega
  · simp [Value.cells] at hcs
    obtain ⟨rfl, rfl, rfl⟩ := hcs
    exact ⟨hl, by unfold maxLen at hm; omega⟩
end
end Go.Proofs.Sky

namespace Go.Proofs.Sky
open Go Go.RowKit Go.ChangeShapes Go.WideShapes Go.Deep Go.Joins
section
variable {H : Type} {enc : TypeId × Value → H} {P : Program} {W : World} {base : Nat} {sp : Nat → Bool} {held : Bool}
/-- an argument that is a slice of arrays of two ints reads as a list of pairs -/
theorem rdA_of_trod {t e f : TypeId} {a : Option Addr} {len cap : Nat} {d : DataW H} {p : List MemPlace} (ht : P.underlying t = some (.slice e)) (he : P.underlying e = some (.array 2 f)) (ce : P.cellsOf e = 2) (cf : P.cellsOf f = 1) (hf : P.underlying f = some (.int .i64))
    (h : DataW.Trod enc P W base sp held t (.slice a len cap) d p) : ∃ ps : List (Int × Int), RdS W (.slice a len cap) ps := by
  obtain ⟨fuel, hfu⟩ := h
  rcases open_slice ht hfu with ⟨h0, _⟩ | ⟨ad, l, c, m, n, D, Pl, hcs, _, hl, hm, hmm, _, hi⟩
  · simp [Value.cells] at h0
    obtain ⟨rfl, rfl, rfl⟩ := h0
    exact ⟨[], RdS.nil W⟩
  · simp [Value.cells] at hcs
    obtain ⟨rfl, rfl, rfl⟩ := hcs
    have each : ∀ i, i < len → ∃ x y : Int, W.cell? (ad.add (i * 2)) = some (.int .i64 x) ∧ W.cell? (ad.add (i * 2 + 1)) = some (.int .i64 y) := by
      intro i hil
      obtain ⟨cs', hc, ht'⟩ := hi i (by rw [hmm]; split <;> omega)
      rw [ce] at hc
      obtain ⟨ys, n', _, _, _, hyl, hff⟩ := DataW.trod_array he ht'
      obtain ⟨_, hcl, hat⟩ := World.cells?_some hc
      have one : ∀ j, j < 2 → ∃ x : Int, W.cell? (ad.add (i * 2 + j)) = some (.int .i64 x) := by
        intro j hj
        have h1 := hff j hj
        rw [cf] at h1
        have e1 : (cs'.drop (j * 1)).take 1 = [cs'[j]'(by omega)] := by
          rw [Nat.mul_one, List.drop_eq_getElem_cons (by omega)]; rfl
        rw [e1, List.getElem?_eq_getElem (by omega)] at h1
        obtain ⟨x, ex, _, _⟩ := DataW.trod_int hf h1
        simp at ex
        have hcell := hat (i := j) hj
        rw [List.getElem?_eq_getElem (show j < cs'.length by omega)] at hcell
        rw [add_add] at hcell
        exact ⟨x, by rw [hcell, ex]⟩
      obtain ⟨x, hx⟩ := one 0 (by omega)
      obtain ⟨y, hy⟩ := one 1 (by omega)
      exact ⟨x, y, hx, hy⟩
    let ps : List (Int × Int) := (List.range len).map fun i => if hi : i < len then ((each i hi).choose, (each i hi).choose_spec.choose) else (0, 0)
    have hlen : ps.length = len := by simp [ps]
    refine ⟨ps, by rw [hlen]; simp [maxLen] at hm; omega, some ad, cap, by rw [hlen], ?_⟩
    by_cases h0 : len = 0
    · left; exact List.length_eq_zero_iff.1 (hlen.trans h0)
    · right
      obtain ⟨b, off, spot⟩ := ad
      have hsp : spot = none := by
        obtain ⟨x, y, hc, _⟩ := each 0 (by omega)
        simpa [Addr.add] using World.cell?_spot hc
      subst hsp
      refine ⟨b, off, rfl, ?_, fun i hi => ?_⟩
      · obtain ⟨x, y, hc, _⟩ := each 0 (by omega)
        rcases Nat.lt_or_ge b W.heap.size with h' | h'
        · exact h'
        · simp [World.cell?, Addr.add, Array.getElem?_eq_none h'] at hc
      · rw [hlen] at hi
        have e1 := (each i hi).choose_spec.choose_spec
        have hg : ps.getD i (0, 0) = ((each i hi).choose, (each i hi).choose_spec.choose) := by
          rw [List.getD_eq_getElem?_getD]; simp [ps, hi]
        rw [hg]
        rw [← addr_add b off (i * 2), show (⟨b, off + i * 2 + 1, none⟩ : Addr) = (⟨b, off, none⟩ : Addr).add (i * 2 + 1) from (addr_add b off (i * 2 + 1)).symm]
        exact e1
end
end Go.Proofs.Sky

namespace Go.Proofs.Sky
open Go Go.RowKit Go.ChangeShapes Go.WideShapes Go.Deep Go.Joins
set_option maxHeartbeats 2000000
set_option maxRecDepth 8000
section
variable {H : Type} {enc : TypeId × Value → H} {W : World} {base : Nat} {held : Bool}
theorem hint_arg {r : Reach} {b0 : Nat} {v : Value} {d : DataW H} {p : List MemPlace} (hv : Value.okWide Tryd.prog W r b0 23 v) (h : DataW.Trod enc Tryd.prog W base (fun _ => true) held 23 v d p) : ∃ (x0 : Int) (x1 : Int) (x2 : Int) (x3 : Int) (x4 : Int) (x5 : Int), v = .agg #[.int .i64 x0, .int .i64 x1, .int .i64 x2, .int .i64 x3, .int .i64 x4, .int .i64 x5] := by
  obtain ⟨cs, rfl, hsz⟩ := okWide_struct Tryd.underlying23 hv
  have hsN : cs.size = 6 := hsz.trans (by kernel_rfl)
  obtain ⟨fuel, hf⟩ := h
  obtain ⟨ys⟩ := cs
  have hyN : ys.length = 6 := hsN
  match ys, hyN with
  | [u0, u1, u2, u3, u4, u5], _ =>
    obtain ⟨xs0, n0, _, _, _, hlen0, hg0⟩ := DataW.trod_struct Tryd.underlying23 hf
    have hl0 : xs0.length = 6 := hlen0
    match xs0, hl0 with
    | [y0_0, y0_1, y0_2, y0_3, y0_4, y0_5], _ =>
      have g0_0 : DataW.trod enc Tryd.prog W base (fun _ => true) held n0 3 [u0] = some y0_0 := hg0 0 _ rfl
      have g0_1 : DataW.trod enc Tryd.prog W base (fun _ => true) held n0 3 [u1] = some y0_1 := hg0 1 _ rfl
      have g0_2 : DataW.trod enc Tryd.prog W base (fun _ => true) held n0 3 [u2] = some y0_2 := hg0 2 _ rfl
      have g0_3 : DataW.trod enc Tryd.prog W base (fun _ => true) held n0 3 [u3] = some y0_3 := hg0 3 _ rfl
      have g0_4 : DataW.trod enc Tryd.prog W base (fun _ => true) held n0 3 [u4] = some y0_4 := hg0 4 _ rfl
      have g0_5 : DataW.trod enc Tryd.prog W base (fun _ => true) held n0 3 [u5] = some y0_5 := hg0 5 _ rfl
      obtain ⟨x0, e0, _, _⟩ := DataW.trod_int Tryd.underlying3 g0_0
      obtain ⟨x1, e1, _, _⟩ := DataW.trod_int Tryd.underlying3 g0_1
      obtain ⟨x2, e2, _, _⟩ := DataW.trod_int Tryd.underlying3 g0_2
      obtain ⟨x3, e3, _, _⟩ := DataW.trod_int Tryd.underlying3 g0_3
      obtain ⟨x4, e4, _, _⟩ := DataW.trod_int Tryd.underlying3 g0_4
      obtain ⟨x5, e5, _, _⟩ := DataW.trod_int Tryd.underlying3 g0_5
      simp at e0 e1 e2 e3 e4 e5
      subst e0 e1 e2 e3 e4 e5
      exact ⟨x0, x1, x2, x3, x4, x5, rfl⟩
theorem hint_cells {fuel : Nat} {ys : List Value} {y : DataW H × List MemPlace} (hyN : ys.length = 6) (hf : DataW.trod enc Tryd.prog W base (fun _ => true) held fuel 23 ys = some y) : ∃ x : Nat → Int, ys = hnc x := by
  obtain ⟨d, p⟩ := y
  match ys, hyN with
  | [u0, u1, u2, u3, u4, u5], _ =>
    obtain ⟨xs0, n0, _, _, _, hlen0, hg0⟩ := DataW.trod_struct Tryd.underlying23 hf
    have hl0 : xs0.length = 6 := hlen0
    match xs0, hl0 with
    | [y0, y1, y2, y3, y4, y5], _ =>
      have g0 : DataW.trod enc Tryd.prog W base (fun _ => true) held n0 3 [u0] = some y0 := hg0 0 _ rfl
      have g1 : DataW.trod enc Tryd.prog W base (fun _ => true) held n0 3 [u1] = some y1 := hg0 1 _ rfl
      have g2 : DataW.trod enc Tryd.prog W base (fun _ => true) held n0 3 [u2] = some y2 := hg0 2 _ rfl
      have g3 : DataW.trod enc Tryd.prog W base (fun _ => true) held n0 3 [u3] = some y3 := hg0 3 _ rfl
      have g4 : DataW.trod enc Tryd.prog W base (fun _ => true) held n0 3 [u4] = some y4 := hg0 4 _ rfl
      have g5 : DataW.trod enc Tryd.prog W base (fun _ => true) held n0 3 [u5] = some y5 := hg0 5 _ rfl
      obtain ⟨x0, e0, _, _⟩ := DataW.trod_int Tryd.underlying3 g0
      obtain ⟨x1, e1, _, _⟩ := DataW.trod_int Tryd.underlying3 g1
      obtain ⟨x2, e2, _, _⟩ := DataW.trod_int Tryd.underlying3 g2
      obtain ⟨x3, e3, _, _⟩ := DataW.trod_int Tryd.underlying3 g3
      obtain ⟨x4, e4, _, _⟩ := DataW.trod_int Tryd.underlying3 g4
      obtain ⟨x5, e5, _, _⟩ := DataW.trod_int Tryd.underlying3 g5
      simp at e0 e1 e2 e3 e4 e5
      subst e0 e1 e2 e3 e4 e5
      exact ⟨fun i => [x0, x1, x2, x3, x4, x5].getD i 0, rfl⟩
theorem hints_arg {a : Option Addr} {len cap : Nat} {d : DataW H} {p : List MemPlace} (h : DataW.Trod enc Tryd.prog W base (fun _ => true) held 36 (.slice a len cap) d p) : ∃ ps : List (Nat → Int), RdH W (.slice a len cap) ps := by
  obtain ⟨fuel, hfu⟩ := h
  rcases open_slice Tryd.underlying36 hfu with ⟨h0, _⟩ | ⟨ad, l, c, m, n, D, Pl, hcs, _, hl, hm, hmm, _, hi⟩
  · simp [Value.cells] at h0
    obtain ⟨rfl, rfl, rfl⟩ := h0
    exact ⟨[], RdH.nil W⟩
  · simp [Value.cells] at hcs
    obtain ⟨rfl, rfl, rfl⟩ := hcs
    have ce : Tryd.prog.cellsOf 23 = 6 := by kernel_rfl
    have each : ∀ i, i < len → ∃ x : Nat → Int, ∀ j u, (hnc x)[j]? = some u → W.cell? (ad.add (i * 6 + j)) = some u := by
      intro i hil
      obtain ⟨cs', hc, ht'⟩ := hi i (by rw [hmm]; split <;> omega)
      rw [ce] at hc
      obtain ⟨_, hcl, hat⟩ := World.cells?_some hc
      obtain ⟨x, rfl⟩ := hint_cells hcl ht'
      refine ⟨x, fun j u hu => ?_⟩
      have hj : j < 6 := (List.getElem?_eq_some_iff.1 hu).1
      have hcell := hat (i := j) hj
      rw [hu, add_add] at hcell
      exact hcell
    let ps : List (Nat → Int) := (List.range len).map fun i => if hi : i < len then (each i hi).choose else fun _ => 0
    have hlen : ps.length = len := by simp [ps]
    refine ⟨ps, by rw [hlen]; simp [maxLen] at hm; omega, some ad, cap, by rw [hlen], ?_⟩
    by_cases h0 : len = 0
    · left; exact List.length_eq_zero_iff.1 (hlen.trans h0)
    · right
      obtain ⟨b, off, spot⟩ := ad
      have hc0 := (each 0 (by omega)).choose_spec 0 _ rfl
      have hsp : spot = none := by simpa [Addr.add] using World.cell?_spot hc0
      subst hsp
      refine ⟨b, off, rfl, ?_, fun i x hx => ?_⟩
      · rcases Nat.lt_or_ge b W.heap.size with h' | h'
        · exact h'
        · simp [World.cell?, Addr.add, Array.getElem?_eq_none h'] at hc0
      · have hil : i < len := by have := (List.getElem?_eq_some_iff.1 hx).1; omega
        have hxe : x = (each i hil).choose := by
          simp [ps, hil] at hx
          exact hx.symm
        subst hxe
        intro j u hu
        have h9 := (each i hil).choose_spec j u hu
        rw [show off + i * 6 + j = off + (i * 6 + j) by omega, ← addr_add b off (i * 6 + j)]
        exact h9
end
end Go.Proofs.Sky
