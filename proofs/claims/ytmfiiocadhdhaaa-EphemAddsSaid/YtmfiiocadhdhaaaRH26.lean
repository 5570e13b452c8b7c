/-
  lemmas for the theorems of this claim. No conditions beyond those written in the statements.
-/
import Derived.Test.YtmfiiocadhdhaaaM26
import Derived.Test.YtmfiiocadhdhaaaRdAt
import Derived.Deep.Cut
import Derived.Test.YtmfiiocadhdhaaaJ26
set_option linter.unusedVariables false
set_option linter.unusedSimpArgs false
set_option linter.unnecessarySimpa false
namespace Go.Proofs.Sky
open Go Go.RowKit Go.Shelf
set_option maxHeartbeats 4000000
set_option maxRecDepth 8000
theorem RdI.litN (w : World) (cs : Array Value) (t : TypeId) (zs : List Int) (n : Nat) (hn : w.heap.size = n) (h : cs.toList = zs.map (Value.int .i64)) (hl : zs.length ≤ 9223372036854775807) : RdI (w.alloc (.cells cs t)) (.slice (some ⟨n, 0, none⟩) zs.length zs.length) zs := by
  subst hn; exact RdI.lit w cs t zs h hl
/-- which numbers a kind has -/
def kdN (kind : Int) : Nat := if kind = 1 then 0 else if kind = 2 then 1 else 2
def nmV (x : Nat → Int) (k : Nat) : List Int := (LS k).map fun t => x t.2.2
def nmB (k : Nat) : List Int := (LS k).map fun t => t.1
def nmU (k : Nat) : Int := if k = 0 then 4 else 2
def NumP (x : Nat → Int) (k : Nat) (e : Ending) (w' : World) : Prop := ∃ v1 v2, e = .returned (.tuple #[v1, v2, .int .i64 (nmU k)]) ∧ RdI w' v1 (nmV x k) ∧ RdI w' v2 (nmB k) ∧ Capd v1 ∧ Capd v2
theorem rnum_any (x : Nat → Int) (kind : Int) (w : World) : Calls Try.prog 32 #[.agg (eV x), .int .i64 kind] w fun e w' => NumP x (kdN kind) e w' ∧ Bw w w' := by
  have HBW := Lib.hid (Bw.alloc (Bw.refl w) (.cells (eV x) 25))
  have KX := Lib.hid (Blk.new w 25 (eV x))
  obtain ⟨kn, hkn⟩ : ∃ kn, kn = kdN kind := ⟨_, rfl⟩
  rw [← hkn]
  have HK := Lib.hid hkn
  clear hkn
  go_enter Try.func32, Try.ntmps32
  go_upto_region 1 with fail
  obtain ⟨W0, hW0⟩ : ∃ W0, w.alloc (.cells (eV x) 25) = W0 := ⟨_, rfl⟩
  rw [hW0] at HBW KX ⊢
  clear hW0
  have c0 : W0.cell? ⟨w.heap.size, 0, none⟩ = some (.int .i64 (x 0)) := KX.out.cell (eV_at x 0 (by omega))
  have c1 : W0.cell? ⟨w.heap.size, 1, none⟩ = some (.int .i64 (x 1)) := KX.out.cell (eV_at x 1 (by omega))
  have c2 : W0.cell? ⟨w.heap.size, 2, none⟩ = some (.int .i64 (x 2)) := KX.out.cell (eV_at x 2 (by omega))
  have c3 : W0.cell? ⟨w.heap.size, 3, none⟩ = some (.int .i64 (x 3)) := KX.out.cell (eV_at x 3 (by omega))
  have c4 : W0.cell? ⟨w.heap.size, 4, none⟩ = some (.int .i64 (x 4)) := KX.out.cell (eV_at x 4 (by omega))
  have c5 : W0.cell? ⟨w.heap.size, 5, none⟩ = some (.int .i64 (x 5)) := KX.out.cell (eV_at x 5 (by omega))
  have c6 : W0.cell? ⟨w.heap.size, 6, none⟩ = some (.int .i64 (x 6)) := KX.out.cell (eV_at x 6 (by omega))
  have c7 : W0.cell? ⟨w.heap.size, 7, none⟩ = some (.int .i64 (x 7)) := KX.out.cell (eV_at x 7 (by omega))
  have c8 : W0.cell? ⟨w.heap.size, 8, none⟩ = some (.int .i64 (x 8)) := KX.out.cell (eV_at x 8 (by omega))
  have c9 : W0.cell? ⟨w.heap.size, 9, none⟩ = some (.int .i64 (x 9)) := KX.out.cell (eV_at x 9 (by omega))
  have c10 : W0.cell? ⟨w.heap.size, 10, none⟩ = some (.int .i64 (x 10)) := KX.out.cell (eV_at x 10 (by omega))
  have c11 : W0.cell? ⟨w.heap.size, 11, none⟩ = some (.int .i64 (x 11)) := KX.out.cell (eV_at x 11 (by omega))
  have c12 : W0.cell? ⟨w.heap.size, 12, none⟩ = some (.int .i64 (x 12)) := KX.out.cell (eV_at x 12 (by omega))
  have c13 : W0.cell? ⟨w.heap.size, 13, none⟩ = some (.int .i64 (x 13)) := KX.out.cell (eV_at x 13 (by omega))
  have c14 : W0.cell? ⟨w.heap.size, 14, none⟩ = some (.int .i64 (x 14)) := KX.out.cell (eV_at x 14 (by omega))
  have c15 : W0.cell? ⟨w.heap.size, 15, none⟩ = some (.int .i64 (x 15)) := KX.out.cell (eV_at x 15 (by omega))
  have c16 : W0.cell? ⟨w.heap.size, 16, none⟩ = some (.int .i64 (x 16)) := KX.out.cell (eV_at x 16 (by omega))
  have c17 : W0.cell? ⟨w.heap.size, 17, none⟩ = some (.int .i64 (x 17)) := KX.out.cell (eV_at x 17 (by omega))
  have c18 : W0.cell? ⟨w.heap.size, 18, none⟩ = some (.int .i64 (x 18)) := KX.out.cell (eV_at x 18 (by omega))
  by_cases h1 : kind = 1
  · subst h1
    replace HK := Lib.hid (HK.out.trans (show kdN 1 = 0 from rfl))
    go_wp2
    have V1 := RdI.litN W0 #[.int .i64 (x 1), .int .i64 (x 0), .int .i64 (x 2), .int .i64 (x 3), .int .i64 (x 4), .int .i64 (x 5), .int .i64 (x 6)] 3 [x 1, x 0, x 2, x 3, x 4, x 5, x 6] W0.heap.size rfl (by rfl) (by simp)
    have V2 := RdI.litN (W0.alloc (.cells #[.int .i64 (x 1), .int .i64 (x 0), .int .i64 (x 2), .int .i64 (x 3), .int .i64 (x 4), .int .i64 (x 5), .int .i64 (x 6)] 3)) #[.int .i64 8, .int .i64 6, .int .i64 20, .int .i64 16, .int .i64 32, .int .i64 24, .int .i64 16] 3 [8, 6, 20, 16, 32, 24, 16] (W0.heap.size + 1) (by simp [World.size_alloc]) (by rfl) (by simp)
    refine bodyPost_ret (v := .tuple #[.slice (some ⟨W0.heap.size, 0, none⟩) 7 7, .slice (some ⟨W0.heap.size + 1, 0, none⟩) 7 7, .int .i64 4]) ?_ rfl ?_
    · simp [results, Try.results32, go_sem]
    rw [HK.out]
    exact ⟨⟨_, _, rfl, V1.mono (Bw.alloc (Bw.refl _) _), V2, Capd.at ⟨by omega, by omega⟩, Capd.at ⟨by omega, by omega⟩⟩, Bw.alloc (Bw.alloc HBW.out _) _⟩
  · have h1b : (kind == 1) = false := by simpa using h1
    by_cases h2 : kind = 2
    · subst h2
      replace HK := Lib.hid (HK.out.trans (show kdN 2 = 1 from rfl))
      go_wp2
      have V1 := RdI.litN W0 #[.int .i64 (x 1), .int .i64 (x 0), .int .i64 (x 7), .int .i64 (x 8), .int .i64 (x 9), .int .i64 (x 10), .int .i64 (x 11), .int .i64 (x 12)] 3 [x 1, x 0, x 7, x 8, x 9, x 10, x 11, x 12] W0.heap.size rfl (by rfl) (by simp)
      have V2 := RdI.litN (W0.alloc (.cells #[.int .i64 (x 1), .int .i64 (x 0), .int .i64 (x 7), .int .i64 (x 8), .int .i64 (x 9), .int .i64 (x 10), .int .i64 (x 11), .int .i64 (x 12)] 3)) #[.int .i64 8, .int .i64 6, .int .i64 32, .int .i64 24, .int .i64 22, .int .i64 24, .int .i64 32, .int .i64 24] 3 [8, 6, 32, 24, 22, 24, 32, 24] (W0.heap.size + 1) (by simp [World.size_alloc]) (by rfl) (by simp)
      refine bodyPost_ret (v := .tuple #[.slice (some ⟨W0.heap.size, 0, none⟩) 8 8, .slice (some ⟨W0.heap.size + 1, 0, none⟩) 8 8, .int .i64 2]) ?_ rfl ?_
      · simp [results, Try.results32, go_sem]
      rw [HK.out]
      exact ⟨⟨_, _, rfl, V1.mono (Bw.alloc (Bw.refl _) _), V2, Capd.at ⟨by omega, by omega⟩, Capd.at ⟨by omega, by omega⟩⟩, Bw.alloc (Bw.alloc HBW.out _) _⟩
    · have h2b : (kind == 2) = false := by simpa using h2
      replace HK := Lib.hid (HK.out.trans (show kdN kind = 2 by unfold kdN; rw [if_neg h1, if_neg h2]))
      go_wp2
      have V1 := RdI.litN W0 #[.int .i64 (x 1), .int .i64 (x 0), .int .i64 (x 13), .int .i64 (x 14), .int .i64 (x 15), .int .i64 (x 16), .int .i64 (x 17), .int .i64 (x 18)] 3 [x 1, x 0, x 13, x 14, x 15, x 16, x 17, x 18] W0.heap.size rfl (by rfl) (by simp)
      have V2 := RdI.litN (W0.alloc (.cells #[.int .i64 (x 1), .int .i64 (x 0), .int .i64 (x 13), .int .i64 (x 14), .int .i64 (x 15), .int .i64 (x 16), .int .i64 (x 17), .int .i64 (x 18)] 3)) #[.int .i64 8, .int .i64 6, .int .i64 22, .int .i64 24, .int .i64 32, .int .i64 24, .int .i64 22, .int .i64 24] 3 [8, 6, 22, 24, 32, 24, 22, 24] (W0.heap.size + 1) (by simp [World.size_alloc]) (by rfl) (by simp)
      refine bodyPost_ret (v := .tuple #[.slice (some ⟨W0.heap.size, 0, none⟩) 8 8, .slice (some ⟨W0.heap.size + 1, 0, none⟩) 8 8, .int .i64 2]) ?_ rfl ?_
      · simp [results, Try.results32, go_sem]
      rw [HK.out]
      exact ⟨⟨_, _, rfl, V1.mono (Bw.alloc (Bw.refl _) _), V2, Capd.at ⟨by omega, by omega⟩, Capd.at ⟨by omega, by omega⟩⟩, Bw.alloc (Bw.alloc HBW.out _) _⟩
end Go.Proofs.Sky

namespace Go.Proofs.Sky
open Go Go.RowKit Go.Shelf
set_option maxHeartbeats 4000000
set_option maxRecDepth 8000
/-! chapter 26: the reference's within and Check -/
def okZ (b z : Int) : Bool := decide (lowR b true ≤ z ∧ z ≤ highR b true)
theorem okZ_T (x : Nat → Int) (b : Int) (j : Nat) : okT x (b, true, j) = okZ b (x j) := rfl
theorem rwithin26_any (n b : Int) (hb : b = 16 ∨ b = 22 ∨ b = 24 ∨ b = 32) (w : World) : Calls Try.prog 34 #[.int .i64 n, .int .i64 b] w fun e w' => e = .returned (.bool (okZ b n)) ∧ Bw w w' := by
  obtain ⟨O, hO⟩ : ∃ O, O = okZ b n := ⟨_, rfl⟩
  rw [← hO]
  rcases hb with rfl | rfl | rfl | rfl
  · have HO := Lib.hid (hO.trans (show okZ 16 n = decide (-32768 ≤ n ∧ n < 32768) from decide_eq_decide.2 (by rw [show lowR 16 true = -32768 from by decide, show highR 16 true = 32767 from by decide]; omega)))
    clear hO
    by_cases q1 : n < -32768
    · have q1b : decide (-32768 ≤ n) = false := decide_eq_false (by omega)
      have HG := Lib.hid (HO.out.trans (decide_eq_false (by omega)))
      go_enter Try.func34, Try.ntmps34
      go_wp2
      go_ret
      exact ⟨ret_bool HG.out.symm, Bw.refl _⟩
    · have q1b : decide (-32768 ≤ n) = true := decide_eq_true (by omega)
      have HG := Lib.hid (HO.out.trans (show _ = decide (n < 32768) from decide_eq_decide.2 (by omega)))
      go_enter Try.func34, Try.ntmps34
      go_wp2
      go_ret
      exact ⟨ret_bool HG.out.symm, Bw.refl _⟩
  · have HO := Lib.hid (hO.trans (show okZ 22 n = decide (-2097152 ≤ n ∧ n < 2097152) from decide_eq_decide.2 (by rw [show lowR 22 true = -2097152 from by decide, show highR 22 true = 2097151 from by decide]; omega)))
    clear hO
    by_cases q1 : n < -2097152
    · have q1b : decide (-2097152 ≤ n) = false := decide_eq_false (by omega)
      have HG := Lib.hid (HO.out.trans (decide_eq_false (by omega)))
      go_enter Try.func34, Try.ntmps34
      go_wp2
      go_ret
      exact ⟨ret_bool HG.out.symm, Bw.refl _⟩
    · have q1b : decide (-2097152 ≤ n) = true := decide_eq_true (by omega)
      have HG := Lib.hid (HO.out.trans (show _ = decide (n < 2097152) from decide_eq_decide.2 (by omega)))
      go_enter Try.func34, Try.ntmps34
      go_wp2
      go_ret
      exact ⟨ret_bool HG.out.symm, Bw.refl _⟩
  · have HO := Lib.hid (hO.trans (show okZ 24 n = decide (-8388608 ≤ n ∧ n < 8388608) from decide_eq_decide.2 (by rw [show lowR 24 true = -8388608 from by decide, show highR 24 true = 8388607 from by decide]; omega)))
    clear hO
    by_cases q1 : n < -8388608
    · have q1b : decide (-8388608 ≤ n) = false := decide_eq_false (by omega)
      have HG := Lib.hid (HO.out.trans (decide_eq_false (by omega)))
      go_enter Try.func34, Try.ntmps34
      go_wp2
      go_ret
      exact ⟨ret_bool HG.out.symm, Bw.refl _⟩
    · have q1b : decide (-8388608 ≤ n) = true := decide_eq_true (by omega)
      have HG := Lib.hid (HO.out.trans (show _ = decide (n < 8388608) from decide_eq_decide.2 (by omega)))
      go_enter Try.func34, Try.ntmps34
      go_wp2
      go_ret
      exact ⟨ret_bool HG.out.symm, Bw.refl _⟩
  · have HO := Lib.hid (hO.trans (show okZ 32 n = decide (-2147483648 ≤ n ∧ n < 2147483648) from decide_eq_decide.2 (by rw [show lowR 32 true = -2147483648 from by decide, show highR 32 true = 2147483647 from by decide]; omega)))
    clear hO
    by_cases q1 : n < -2147483648
    · have q1b : decide (-2147483648 ≤ n) = false := decide_eq_false (by omega)
      have HG := Lib.hid (HO.out.trans (decide_eq_false (by omega)))
      go_enter Try.func34, Try.ntmps34
      go_wp2
      go_ret
      exact ⟨ret_bool HG.out.symm, Bw.refl _⟩
    · have q1b : decide (-2147483648 ≤ n) = true := decide_eq_true (by omega)
      have HG := Lib.hid (HO.out.trans (show _ = decide (n < 2147483648) from decide_eq_decide.2 (by omega)))
      go_enter Try.func34, Try.ntmps34
      go_wp2
      go_ret
      exact ⟨ret_bool HG.out.symm, Bw.refl _⟩
def clB (i : Nat) : Int := if i = 0 then 32 else if i = 1 then 24 else 16
def axB (i : Nat) : Int := if i = 0 then 32 else if i = 2 then 22 else 24
theorem clB_ok (i : Nat) : clB i = 16 ∨ clB i = 22 ∨ clB i = 24 ∨ clB i = 32 := by unfold clB; split; · simp
                                                                                   split <;> simp
theorem axB_ok (i : Nat) : axB i = 16 ∨ axB i = 22 ∨ axB i = 24 ∨ axB i = 32 := by unfold axB; split; · simp
                                                                                   split <;> simp
theorem errE_cl {x : Nat → Int} {i : Nat} (hi : i < 3) (h : okZ (clB i) (x (4 + i)) = false) : errE x = 2 := by
  match i, hi with
  | 0, _ => exact errE_bad (k := 0) (i := 4) (by decide) (by decide) h
  | 1, _ => exact errE_bad (k := 0) (i := 5) (by decide) (by decide) h
  | 2, _ => exact errE_bad (k := 0) (i := 6) (by decide) (by decide) h
theorem errE_ax {x : Nat → Int} {i : Nat} (hi : i < 4) (h : okZ (axB i) (x (7 + i)) = false ∨ okZ (axB i) (x (11 + i)) = false ∨ okZ (axB i) (x (15 + i)) = false) : errE x = 2 := by
  match i, hi with
  | 0, _ => exact h.elim (errE_bad (k := 1) (i := 2) (by decide) (by decide)) (fun h => h.elim (errE_bad (k := 1) (i := 6) (by decide) (by decide)) (errE_bad (k := 2) (i := 4) (by decide) (by decide)))
  | 1, _ => exact h.elim (errE_bad (k := 1) (i := 3) (by decide) (by decide)) (fun h => h.elim (errE_bad (k := 1) (i := 7) (by decide) (by decide)) (errE_bad (k := 2) (i := 5) (by decide) (by decide)))
  | 2, _ => exact h.elim (errE_bad (k := 1) (i := 4) (by decide) (by decide)) (fun h => h.elim (errE_bad (k := 2) (i := 2) (by decide) (by decide)) (errE_bad (k := 2) (i := 6) (by decide) (by decide)))
  | 3, _ => exact h.elim (errE_bad (k := 1) (i := 5) (by decide) (by decide)) (fun h => h.elim (errE_bad (k := 2) (i := 3) (by decide) (by decide)) (errE_bad (k := 2) (i := 7) (by decide) (by decide)))
def hdE (x : Nat → Int) : Prop := 1 ≤ x 0 ∧ x 0 ≤ 63 ∧ 0 ≤ x 1 ∧ x 1 ≤ 255 ∧ 0 ≤ x 2 ∧ x 2 ≤ 604799 ∧ 0 ≤ x 3 ∧ x 3 ≤ 65535
theorem okT_un {x : Nat → Int} {b hi : Int} {j : Nat} (h : highR b false = hi) : okT x (b, false, j) = decide (0 ≤ x j ∧ x j ≤ hi) := by
  subst h; rfl
theorem errE_yes {x : Nat → Int} (h : hdE x) (h2 : ∀ i, i < 3 → okZ (clB i) (x (4 + i)) = true) (h3 : ∀ i, i < 4 → okZ (axB i) (x (7 + i)) = true ∧ okZ (axB i) (x (11 + i)) = true ∧ okZ (axB i) (x (15 + i)) = true) : errE x = 0 := by
  have u8 : ∀ j, okT x (8, false, j) = decide (0 ≤ x j ∧ x j ≤ 255) := fun j => okT_un (by decide)
  have u6 : ∀ j, okT x (6, false, j) = decide (0 ≤ x j ∧ x j ≤ 63) := fun j => okT_un (by decide)
  have u20 : ∀ j, okT x (20, false, j) = decide (0 ≤ x j ∧ x j ≤ 1048575) := fun j => okT_un (by decide)
  have u16 : ∀ j, okT x (16, false, j) = decide (0 ≤ x j ∧ x j ≤ 65535) := fun j => okT_un (by decide)
  have e0 : (LS 0).all (okT x) = (okT x (8, false, 1) && (okT x (6, false, 0) && (okT x (20, false, 2) && (okT x (16, false, 3) && (okZ 32 (x 4) && (okZ 24 (x 5) && (okZ 16 (x 6) && true))))))) := rfl
  have e1 : (LS 1).all (okT x) = (okT x (8, false, 1) && (okT x (6, false, 0) && (okZ 32 (x 7) && (okZ 24 (x 8) && (okZ 22 (x 9) && (okZ 24 (x 10) && (okZ 32 (x 11) && (okZ 24 (x 12) && true)))))))) := rfl
  have e2 : (LS 2).all (okT x) = (okT x (8, false, 1) && (okT x (6, false, 0) && (okZ 22 (x 13) && (okZ 24 (x 14) && (okZ 32 (x 15) && (okZ 24 (x 16) && (okZ 22 (x 17) && (okZ 24 (x 18) && true)))))))) := rfl
  obtain ⟨a1, a2, a3, a4, a5, a6, a7, a8⟩ := h
  have c0 : okZ 32 (x 4) = true := h2 0 (by omega)
  have c1 : okZ 24 (x 5) = true := h2 1 (by omega)
  have c2 : okZ 16 (x 6) = true := h2 2 (by omega)
  have d0 : okZ 32 (x 7) = true ∧ okZ 32 (x 11) = true ∧ okZ 32 (x 15) = true := h3 0 (by omega)
  have d1 : okZ 24 (x 8) = true ∧ okZ 24 (x 12) = true ∧ okZ 24 (x 16) = true := h3 1 (by omega)
  have d2 : okZ 22 (x 9) = true ∧ okZ 22 (x 13) = true ∧ okZ 22 (x 17) = true := h3 2 (by omega)
  have d3 : okZ 24 (x 10) = true ∧ okZ 24 (x 14) = true ∧ okZ 24 (x 18) = true := h3 3 (by omega)
  unfold errE
  rw [e0, e1, e2, u8, u6, u20, u16, c0, c1, c2, d0.1, d0.2.1, d0.2.2, d1.1, d1.2.1, d1.2.2, d2.1, d2.2.1, d2.2.2, d3.1, d3.2.1, d3.2.2, decide_eq_true (show 0 ≤ x 1 ∧ x 1 ≤ 255 by omega), decide_eq_true (show 0 ≤ x 0 ∧ x 0 ≤ 63 by omega), decide_eq_true (show 0 ≤ x 2 ∧ x 2 ≤ 1048575 by omega), decide_eq_true (show 0 ≤ x 3 ∧ x 3 ≤ 65535 by omega), decide_eq_true (show 1 ≤ x 0 ∧ x 2 < 604800 by omega)]
  rfl
theorem errE_hd {x : Nat → Int} (h : ¬ hdE x) : errE x = 2 := by
  have u8 : ∀ j, okT x (8, false, j) = decide (0 ≤ x j ∧ x j ≤ 255) := fun j => okT_un (by decide)
  have u6 : ∀ j, okT x (6, false, j) = decide (0 ≤ x j ∧ x j ≤ 63) := fun j => okT_un (by decide)
  have u20 : ∀ j, okT x (20, false, j) = decide (0 ≤ x j ∧ x j ≤ 1048575) := fun j => okT_un (by decide)
  have u16 : ∀ j, okT x (16, false, j) = decide (0 ≤ x j ∧ x j ≤ 65535) := fun j => okT_un (by decide)
  have e0 : (LS 0).all (okT x) = (okT x (8, false, 1) && (okT x (6, false, 0) && (okT x (20, false, 2) && (okT x (16, false, 3) && (okZ 32 (x 4) && (okZ 24 (x 5) && (okZ 16 (x 6) && true))))))) := rfl
  unfold errE
  rw [if_neg]
  intro h9
  apply h
  simp only [Bool.and_eq_true] at h9
  rw [e0, u8, u6, u20, u16] at h9
  simp only [Bool.and_eq_true, decide_eq_true_eq] at h9
  obtain ⟨⟨⟨⟨b1, b2, b3, b4, _⟩, _⟩, _⟩, b5⟩ := h9
  unfold hdE
  omega
end Go.Proofs.Sky

namespace Go.Proofs.Sky
open Go Go.RowKit Go.Shelf
set_option maxHeartbeats 4000000
set_option maxRecDepth 8000
/-! chapter 26: the reference's Check -/
theorem rCheck26_any (x : Nat → Int) (w : World) : Calls Try.prog 14 #[.agg (eV x)] w fun e w' => e = .returned (.int .i64 (errE x)) ∧ Bw w w' := by
  have HBW := Lib.hid (Bw.alloc (Bw.refl w) (.cells (eV x) 25))
  have KX := Lib.hid (Blk.new w 25 (eV x))
  have HD := Lib.hid (fun h => errE_hd (x := x) h)
  have HCL := Lib.hid (fun i h h2 => errE_cl (x := x) (i := i) h h2)
  have HAX := Lib.hid (fun i h h2 => errE_ax (x := x) (i := i) h h2)
  have HYES := Lib.hid (fun h h2 h3 => errE_yes (x := x) h h2 h3)
  have RW := Lib.hid (fun n b hb W => rwithin26_any n b hb W)
  generalize errE x = E at HD HCL HAX HYES ⊢
  go_enter Try.func14, Try.ntmps14
  go_upto_region 1 with fail
  obtain ⟨W0, hW0⟩ : ∃ W0, w.alloc (.cells (eV x) 25) = W0 := ⟨_, rfl⟩
  rw [hW0] at HBW KX ⊢
  clear hW0
  have c0 : W0.cell? ⟨w.heap.size, 0, none⟩ = some (.int .i64 (x 0)) := KX.out.cell (eV_at x 0 (by omega))
  have c1 : W0.cell? ⟨w.heap.size, 1, none⟩ = some (.int .i64 (x 1)) := KX.out.cell (eV_at x 1 (by omega))
  have c2 : W0.cell? ⟨w.heap.size, 2, none⟩ = some (.int .i64 (x 2)) := KX.out.cell (eV_at x 2 (by omega))
  have c3 : W0.cell? ⟨w.heap.size, 3, none⟩ = some (.int .i64 (x 3)) := KX.out.cell (eV_at x 3 (by omega))
  by_cases q0 : x 0 < 1
  case pos =>
    have HG := Lib.hid (HD.out (fun h => by unfold hdE at h; omega))
    go_wp2
    go_ret
    exact ⟨ret_int HG.out.symm, HBW.out⟩
  by_cases q1 : 63 < x 0
  case pos =>
    have HG := Lib.hid (HD.out (fun h => by unfold hdE at h; omega))
    go_wp2
    go_ret
    exact ⟨ret_int HG.out.symm, HBW.out⟩
  by_cases q2 : x 1 < 0
  case pos =>
    have HG := Lib.hid (HD.out (fun h => by unfold hdE at h; omega))
    go_wp2
    go_ret
    exact ⟨ret_int HG.out.symm, HBW.out⟩
  by_cases q3 : 255 < x 1
  case pos =>
    have HG := Lib.hid (HD.out (fun h => by unfold hdE at h; omega))
    go_wp2
    go_ret
    exact ⟨ret_int HG.out.symm, HBW.out⟩
  by_cases q4 : x 2 < 0
  case pos =>
    have HG := Lib.hid (HD.out (fun h => by unfold hdE at h; omega))
    go_wp2
    go_ret
    exact ⟨ret_int HG.out.symm, HBW.out⟩
  by_cases q5 : 604799 < x 2
  case pos =>
    have HG := Lib.hid (HD.out (fun h => by unfold hdE at h; omega))
    go_wp2
    go_ret
    exact ⟨ret_int HG.out.symm, HBW.out⟩
  by_cases q6 : x 3 < 0
  case pos =>
    have HG := Lib.hid (HD.out (fun h => by unfold hdE at h; omega))
    go_wp2
    go_ret
    exact ⟨ret_int HG.out.symm, HBW.out⟩
  by_cases q7 : 65535 < x 3
  case pos =>
    have HG := Lib.hid (HD.out (fun h => by unfold hdE at h; omega))
    go_wp2
    go_ret
    exact ⟨ret_int HG.out.symm, HBW.out⟩
  have HH := Lib.hid (show hdE x by unfold hdE; omega)
  go_upto_region 3 with fail
  clear c0 c1 c2 c3 q0 q1 q2 q3 q4 q5 q6 q7
  go_upto_region 4 with fail
  have L1 := RdI.litN W0 #[.int .i64 32, .int .i64 24, .int .i64 16] 3 [32, 24, 16] W0.heap.size rfl (by rfl) (by simp)
  have L2 := RdI.litN (W0.alloc (.cells #[.int .i64 32, .int .i64 24, .int .i64 16] 3)) #[.int .i64 32, .int .i64 24, .int .i64 22, .int .i64 24] 3 [32, 24, 22, 24] (W0.heap.size + 1) (by simp [World.size_alloc]) (by rfl) (by simp)
  obtain ⟨B1, hB1⟩ : ∃ B1, W0.heap.size = B1 := ⟨_, rfl⟩
  have HB1 := Lib.hid hB1
  rw [hB1] at L1 L2
  have KY := Lib.hid ((KX.out.alloc (.cells #[.int .i64 32, .int .i64 24, .int .i64 16] 3)).alloc (.cells #[.int .i64 32, .int .i64 24, .int .i64 22, .int .i64 24] 3))
  have HBY := Lib.hid (Bw.alloc (Bw.alloc HBW.out (.cells #[.int .i64 32, .int .i64 24, .int .i64 16] 3)) (.cells #[.int .i64 32, .int .i64 24, .int .i64 22, .int .i64 24] 3))
  replace L1 := L1.mono (Bw.alloc (Bw.refl _) (.cells #[.int .i64 32, .int .i64 24, .int .i64 22, .int .i64 24] 3))
  rw [hB1]
  obtain ⟨W1, hW1⟩ : ∃ W1, (W0.alloc (.cells #[.int .i64 32, .int .i64 24, .int .i64 16] 3)).alloc (.cells #[.int .i64 32, .int .i64 24, .int .i64 22, .int .i64 24] 3) = W1 := ⟨_, rfl⟩
  rw [hW1] at KY HBY L1 L2 ⊢
  clear hW1 hB1 KX HBW
  have HL1 := Lib.hid (show ∀ i, i < 3 → W1.cell? ⟨B1, i, none⟩ = some (.int .i64 (clB i)) from fun i hi => by
    obtain ⟨b, o, c, hv, _, hc⟩ := L1.at (by decide)
    injection hv with a1 a2 a3
    injection a1 with a1
    injection a1 with a1 a4 a5
    subst a1 a4
    have h9 := hc i hi
    rw [Nat.zero_add] at h9
    match i, hi with
    | 0, _ => exact h9
    | 1, _ => exact h9
    | 2, _ => exact h9)
  have HL2 := Lib.hid (show ∀ i, i < 4 → W1.cell? ⟨B1 + 1, i, none⟩ = some (.int .i64 (axB i)) from fun i hi => by
    obtain ⟨b, o, c, hv, _, hc⟩ := L2.at (by decide)
    injection hv with a1 a2 a3
    injection a1 with a1
    injection a1 with a1 a4 a5
    subst a1 a4
    have h9 := hc i hi
    rw [Nat.zero_add] at h9
    match i, hi with
    | 0, _ => exact h9
    | 1, _ => exact h9
    | 2, _ => exact h9
    | 3, _ => exact h9)
  clear L1 L2
  go_wp2
  go_loopg [5] 3 (fun gg s5 wr => ∃ i : Nat, i ≤ 3 ∧ 3 - i ≤ gg ∧ s5 = .int .i64 i ∧ Hid (Bw W1 wr) ∧ Hid (∀ j, j < i → okZ (clB j) (x (4 + j)) = true))
  case atStart => exact ⟨0, by omega, by omega, rfl, Lib.hid (Bw.refl _), Lib.hid (fun j h => absurd h (by omega))⟩
  case round =>
    obtain ⟨i, hi, hgg, rfl, HW, HI⟩ := hrel
    obtain ⟨wa, rfl⟩ : ∃ wa, wa = wr := ⟨_, rfl⟩
    by_cases hlt : i < 3
    · have hiz : (i : Int) < 3 := by omega
      have hi0 : (0 : Int) ≤ i := by omega
      have cx := (KY.out.bw HW.out).cell (eV_at x (4 + i) (by omega))
      have cb := HW.out.cell' (HL1.out i hlt)
      have RWI := Lib.hid (fun W => RW.out (x (4 + i)) (clB i) (clB_ok i) W)
      have HCI := Lib.hid (HCL.out i hlt)
      have HIN := Lib.hid (fun h => (fun j (hj : j < i + 1) => (by
        rcases Nat.lt_succ_iff_lt_or_eq.1 hj with h9 | rfl
        · exact HI.out j h9
        · exact h) : ∀ j, j < i + 1 → okZ (clB j) (x (4 + j)) = true))
      generalize okZ (clB i) (x (4 + i)) = K at RWI HCI HIN
      generalize clB i = bz at cb RWI
      generalize x (4 + i) = z at cx RWI
      go_upto_region 7 with fail
      have e1 := fun p' : Ext wa => Ext.cell' cx p'
      have e2 := fun p' : Ext wa => Ext.cell' cb p'
      clear cx cb
      cases K with
      | false =>
        have HG := Lib.hid (HCI.out rfl)
        (refine wp_region_quiet_ext (by kernel_rfl) (by kernel_rfl) ?_; (repeat (go_big_quiet_step (((go_at_call 34; exact Calls.ext_of (RWI.out _)))))); refine wpQuiet_nil ?_; rintro wq ⟨⟨_, hbq⟩, rfl⟩; obtain ⟨hccq, hffq⟩ := Bw.cells hbq; have hszq := Bw.size hbq)
        replace HW := Lib.hid (HW.out.trans hbq)
        clear e1 e2
        go_wp2
        go_ret
        exact ⟨ret_int HG.out.symm, HBY.out.trans HW.out⟩
      | true =>
        have HG := Lib.hid (HIN.out rfl)
        (refine wp_region_quiet_ext (by kernel_rfl) (by kernel_rfl) ?_; (repeat (go_big_quiet_step (((go_at_call 34; exact Calls.ext_of (RWI.out _)))))); refine wpQuiet_nil ?_; rintro wq ⟨⟨_, hbq⟩, rfl⟩; obtain ⟨hccq, hffq⟩ := Bw.cells hbq; have hszq := Bw.size hbq)
        replace HW := Lib.hid (HW.out.trans hbq)
        clear e1 e2
        go_wp2
        go_roundg (3 - (i + 1))
        case measure => omega
        case rel => exact ⟨i + 1, by omega, by omega, by go_num, HW, HG⟩
    · obtain rfl : i = 3 := by omega
      have HCY := HI
      go_upto_region 9 with fail
      replace HBY := Lib.hid (HBY.out.trans HW.out)
      replace KY := Lib.hid (KY.out.bw HW.out)
      replace HL2 := Lib.hid (fun i hi => HW.out.cell' (HL2.out i hi))
      clear HW HI HL1 HCL
      go_wp2
      go_loopg [6] 4 (fun gg s6 wr => ∃ i : Nat, i ≤ 4 ∧ 4 - i ≤ gg ∧ s6 = .int .i64 i ∧ Hid (Bw wa wr) ∧ Hid (∀ j, j < i → okZ (axB j) (x (7 + j)) = true ∧ okZ (axB j) (x (11 + j)) = true ∧ okZ (axB j) (x (15 + j)) = true))
      case atStart => exact ⟨0, by omega, by omega, rfl, Lib.hid (Bw.refl _), Lib.hid (fun j h => absurd h (by omega))⟩
      case round =>
        clear hi hgg hlt
        obtain ⟨i, hi, hgg, rfl, HW, HI⟩ := hrel
        obtain ⟨wb, rfl⟩ : ∃ wb, wb = wr := ⟨_, rfl⟩
        by_cases hlt : i < 4
        · have hiz : (i : Int) < 4 := by omega
          have hi0 : (0 : Int) ≤ i := by omega
          have cx := (KY.out.bw HW.out).cell (eV_at x (7 + i) (by omega))
          have cy := (KY.out.bw HW.out).cell (eV_at x (11 + i) (by omega))
          have cz := (KY.out.bw HW.out).cell (eV_at x (15 + i) (by omega))
          have cb := HW.out.cell' (HL2.out i hlt)
          have RX := Lib.hid (fun W => RW.out (x (7 + i)) (axB i) (axB_ok i) W)
          have RY := Lib.hid (fun W => RW.out (x (11 + i)) (axB i) (axB_ok i) W)
          have RZ := Lib.hid (fun W => RW.out (x (15 + i)) (axB i) (axB_ok i) W)
          have HCI := Lib.hid (HAX.out i hlt)
          have HIN := Lib.hid (fun h => (fun j (hj : j < i + 1) => (by
            rcases Nat.lt_succ_iff_lt_or_eq.1 hj with h9 | rfl
            · exact HI.out j h9
            · exact h) : ∀ j, j < i + 1 → okZ (axB j) (x (7 + j)) = true ∧ okZ (axB j) (x (11 + j)) = true ∧ okZ (axB j) (x (15 + j)) = true))
          generalize okZ (axB i) (x (7 + i)) = K1 at RX HCI HIN
          generalize okZ (axB i) (x (11 + i)) = K2 at RY HCI HIN
          generalize okZ (axB i) (x (15 + i)) = K3 at RZ HCI HIN
          generalize axB i = bz at cb RX RY RZ
          generalize x (7 + i) = zx at cx RX
          generalize x (11 + i) = zy at cy RY
          generalize x (15 + i) = zz at cz RZ
          go_upto_region 12 with fail
          have e1 := fun p' : Ext wb => Ext.cell' cx p'
          have e2 := fun p' : Ext wb => Ext.cell' cy p'
          have e3 := fun p' : Ext wb => Ext.cell' cz p'
          have e4 := fun p' : Ext wb => Ext.cell' cb p'
          clear cx cy cz cb
          cases K1 with
          | false =>
            have HG := Lib.hid (HCI.out (.inl rfl))
            (refine wp_region_quiet_ext (by kernel_rfl) (by kernel_rfl) ?_; (repeat (go_big_quiet_step (((go_at_call 34; exact Calls.ext_of (RX.out _)))))); refine wpQuiet_nil ?_; rintro wq ⟨⟨_, hbq⟩, rfl⟩; obtain ⟨hccq, hffq⟩ := Bw.cells hbq; have hszq := Bw.size hbq)
            replace HW := Lib.hid (HW.out.trans hbq)
            clear e1 e2 e3 e4
            go_wp2
            go_ret
            exact ⟨ret_int HG.out.symm, HBY.out.trans HW.out⟩
          | true =>
            cases K2 with
            | false =>
              have HG := Lib.hid (HCI.out (.inr (.inl rfl)))
              (refine wp_region_quiet_ext (by kernel_rfl) (by kernel_rfl) ?_; (repeat (go_big_quiet_step (((go_at_call 34; first | with_reducible exact Calls.ext_of (RX.out _) | with_reducible exact Calls.ext_of (RY.out _)))))); refine wpQuiet_nil ?_; rintro wq ⟨⟨_, hbq⟩, rfl⟩; obtain ⟨hccq, hffq⟩ := Bw.cells hbq; have hszq := Bw.size hbq)
              replace HW := Lib.hid (HW.out.trans hbq)
              clear e1 e2 e3 e4
              go_wp2
              go_ret
              exact ⟨ret_int HG.out.symm, HBY.out.trans HW.out⟩
            | true =>
              cases K3 with
              | false =>
                have HG := Lib.hid (HCI.out (.inr (.inr rfl)))
                (refine wp_region_quiet_ext (by kernel_rfl) (by kernel_rfl) ?_; (repeat (go_big_quiet_step (((go_at_call 34; first | with_reducible exact Calls.ext_of (RX.out _) | with_reducible exact Calls.ext_of (RY.out _) | with_reducible exact Calls.ext_of (RZ.out _)))))); refine wpQuiet_nil ?_; rintro wq ⟨⟨_, hbq⟩, rfl⟩; obtain ⟨hccq, hffq⟩ := Bw.cells hbq; have hszq := Bw.size hbq)
                replace HW := Lib.hid (HW.out.trans hbq)
                clear e1 e2 e3 e4
                go_wp2
                go_ret
                exact ⟨ret_int HG.out.symm, HBY.out.trans HW.out⟩
              | true =>
                have HG := Lib.hid (HIN.out ⟨rfl, rfl, rfl⟩)
                (refine wp_region_quiet_ext (by kernel_rfl) (by kernel_rfl) ?_; (repeat (go_big_quiet_step (((go_at_call 34; first | with_reducible exact Calls.ext_of (RX.out _) | with_reducible exact Calls.ext_of (RY.out _) | with_reducible exact Calls.ext_of (RZ.out _)))))); refine wpQuiet_nil ?_; rintro wq ⟨⟨_, hbq⟩, rfl⟩; obtain ⟨hccq, hffq⟩ := Bw.cells hbq; have hszq := Bw.size hbq)
                replace HW := Lib.hid (HW.out.trans hbq)
                clear e1 e2 e3 e4
                go_wp2
                go_roundg (4 - (i + 1))
                case measure => omega
                case rel => exact ⟨i + 1, by omega, by omega, by go_num, HW, HG⟩
        · obtain rfl : i = 4 := by omega
          have HG := Lib.hid (HYES.out HH.out HCY.out HI.out)
          go_wp2
          go_ret
          exact ⟨ret_int HG.out.symm, HBY.out.trans HW.out⟩
end Go.Proofs.Sky

namespace Go.Proofs.Sky
open Go Go.RowKit Go.Shelf
set_option maxHeartbeats 4000000
set_option maxRecDepth 8000
/-! chapter 26: the reference's Fits -/
theorem RFits_any (x : Nat → Int) (t : Int) (w : World) : Calls Try.prog 10 #[.agg (eV x), .int .i64 t] w fun e w' => e = .returned (.tuple #[.bool (fitE x t), .int .i64 (errFt x t)]) ∧ Bw w w' := by
  have CK := Lib.hid (fun W => rCheck26_any x W)
  have HBW := Lib.hid (Bw.alloc (Bw.refl w) (.cells (eV x) 25))
  have KX := Lib.hid (Blk.new w 25 (eV x))
  by_cases h : errE x = 0
  · have hl := errE_lim h
    rw [h] at CK
    unfold errFt
    rw [if_pos h]
    by_cases ht : 0 ≤ t ∧ t < 604800
    · rw [if_pos ht]
      have HF := Lib.hid (show fitE x t = decide (min ((t - x 2 + 604800) % 604800) (604800 - (t - x 2 + 604800) % 604800) ≤ 7200) by
        unfold fitE; rw [decide_eq_decide]; exact ⟨fun h9 => h9.2.2.2, fun h9 => ⟨h, ht.1, ht.2, h9⟩⟩)
      generalize fitE x t = FT at *
      have hq1 : ¬ t < 0 := by omega
      have hq2 : ¬ 604799 < t := by omega
      go_enter Try.func10, Try.ntmps10
      go_upto_region 1 with fail
      obtain ⟨W0, hW0⟩ : ∃ W0, w.alloc (.cells (eV x) 25) = W0 := ⟨_, rfl⟩
      rw [hW0] at HBW KX ⊢
      clear hW0
      by_cases h5 : t - x 2 < 0
      · by_cases h6 : -(t - x 2) ≤ 7200
        · have HG := Lib.hid (show true = FT by rw [HF.out]; exact (decide_eq_true (by omega)).symm)
          go_wp2_with (first | (go_at_call 14; (with_reducible refine Calls.mono (CK.out _) ?_); rintro e1 w1 ⟨rfl, hb9⟩; replace HBW := Lib.hid (HBW.out.trans hb9); have j2 := (KX.out.bw hb9).cell (eV_at x 2 (by omega)); clear hb9) | ((with_reducible refine at_load 25 (.tmp 2) ?_); refine wpList_load_row rfl 25 _ rfl w.heap.size rfl 25 _ (0, 0) _ KX.out Try.underlying25 rfl (by kernel_rfl) ?_))
          refine bodyPost_ret (v := .tuple #[.bool FT, .int .i64 0]) ?_ rfl ⟨rfl, HBW.out⟩
          simp [results, Try.results10, go_sem, HG.out]
        · have HG := Lib.hid (show decide (604800 - -(t - x 2) ≤ 7200) = FT by rw [HF.out]; exact decide_eq_decide.2 (by omega))
          have h6b : decide (-(t - x 2) ≤ 7200) = false := decide_eq_false h6
          go_wp2_with (first | (go_at_call 14; (with_reducible refine Calls.mono (CK.out _) ?_); rintro e1 w1 ⟨rfl, hb9⟩; replace HBW := Lib.hid (HBW.out.trans hb9); have j2 := (KX.out.bw hb9).cell (eV_at x 2 (by omega)); clear hb9) | ((with_reducible refine at_load 25 (.tmp 2) ?_); refine wpList_load_row rfl 25 _ rfl w.heap.size rfl 25 _ (0, 0) _ KX.out Try.underlying25 rfl (by kernel_rfl) ?_))
          refine bodyPost_ret (v := .tuple #[.bool FT, .int .i64 0]) ?_ rfl ⟨rfl, HBW.out⟩
          simp [results, Try.results10, go_sem, ← HG.out]
      · by_cases h6 : (t - x 2) ≤ 7200
        · have HG := Lib.hid (show true = FT by rw [HF.out]; exact (decide_eq_true (by omega)).symm)
          go_wp2_with (first | (go_at_call 14; (with_reducible refine Calls.mono (CK.out _) ?_); rintro e1 w1 ⟨rfl, hb9⟩; replace HBW := Lib.hid (HBW.out.trans hb9); have j2 := (KX.out.bw hb9).cell (eV_at x 2 (by omega)); clear hb9) | ((with_reducible refine at_load 25 (.tmp 2) ?_); refine wpList_load_row rfl 25 _ rfl w.heap.size rfl 25 _ (0, 0) _ KX.out Try.underlying25 rfl (by kernel_rfl) ?_))
          refine bodyPost_ret (v := .tuple #[.bool FT, .int .i64 0]) ?_ rfl ⟨rfl, HBW.out⟩
          simp [results, Try.results10, go_sem, HG.out]
        · have HG := Lib.hid (show decide (604800 - (t - x 2) ≤ 7200) = FT by rw [HF.out]; exact decide_eq_decide.2 (by omega))
          have h6b : decide ((t - x 2) ≤ 7200) = false := decide_eq_false h6
          go_wp2_with (first | (go_at_call 14; (with_reducible refine Calls.mono (CK.out _) ?_); rintro e1 w1 ⟨rfl, hb9⟩; replace HBW := Lib.hid (HBW.out.trans hb9); have j2 := (KX.out.bw hb9).cell (eV_at x 2 (by omega)); clear hb9) | ((with_reducible refine at_load 25 (.tmp 2) ?_); refine wpList_load_row rfl 25 _ rfl w.heap.size rfl 25 _ (0, 0) _ KX.out Try.underlying25 rfl (by kernel_rfl) ?_))
          refine bodyPost_ret (v := .tuple #[.bool FT, .int .i64 0]) ?_ rfl ⟨rfl, HBW.out⟩
          simp [results, Try.results10, go_sem, ← HG.out]
    · rw [if_neg ht]
      have HF : fitE x t = false := decide_eq_false (fun h9 => ht ⟨h9.2.1, h9.2.2.1⟩)
      rw [HF]
      by_cases ht1 : t < 0
      · skip
        go_enter Try.func10, Try.ntmps10
        go_upto_region 1 with fail
        obtain ⟨W0, hW0⟩ : ∃ W0, w.alloc (.cells (eV x) 25) = W0 := ⟨_, rfl⟩
        rw [hW0] at HBW KX ⊢
        clear hW0
        go_wp2_with (first | (go_at_call 14; (with_reducible refine Calls.mono (CK.out _) ?_); rintro e1 w1 ⟨rfl, hb9⟩; replace HBW := Lib.hid (HBW.out.trans hb9);  clear hb9) | ((with_reducible refine at_load 25 (.tmp 2) ?_); refine wpList_load_row rfl 25 _ rfl w.heap.size rfl 25 _ (0, 0) _ KX.out Try.underlying25 rfl (by kernel_rfl) ?_))
        refine bodyPost_ret (v := .tuple #[.bool false, .int .i64 2]) ?_ rfl ⟨rfl, HBW.out⟩
        simp [results, Try.results10, go_sem]
      · have ht2 : 604799 < t := by omega
        go_enter Try.func10, Try.ntmps10
        go_upto_region 1 with fail
        obtain ⟨W0, hW0⟩ : ∃ W0, w.alloc (.cells (eV x) 25) = W0 := ⟨_, rfl⟩
        rw [hW0] at HBW KX ⊢
        clear hW0
        go_wp2_with (first | (go_at_call 14; (with_reducible refine Calls.mono (CK.out _) ?_); rintro e1 w1 ⟨rfl, hb9⟩; replace HBW := Lib.hid (HBW.out.trans hb9);  clear hb9) | ((with_reducible refine at_load 25 (.tmp 2) ?_); refine wpList_load_row rfl 25 _ rfl w.heap.size rfl 25 _ (0, 0) _ KX.out Try.underlying25 rfl (by kernel_rfl) ?_))
        refine bodyPost_ret (v := .tuple #[.bool false, .int .i64 2]) ?_ rfl ⟨rfl, HBW.out⟩
        simp [results, Try.results10, go_sem]
  · unfold errFt
    rw [if_neg h]
    have HF : fitE x t = false := decide_eq_false (fun h9 => h h9.1)
    rw [HF]
    have hne : (errE x != 0) = true := by simpa using h
    generalize errE x = er at *
    go_enter Try.func10, Try.ntmps10
    go_upto_region 1 with fail
    obtain ⟨W0, hW0⟩ : ∃ W0, w.alloc (.cells (eV x) 25) = W0 := ⟨_, rfl⟩
    rw [hW0] at HBW KX ⊢
    clear hW0
    go_wp2_with (first | (go_at_call 14; (with_reducible refine Calls.mono (CK.out _) ?_); rintro e1 w1 ⟨rfl, hb9⟩; replace HBW := Lib.hid (HBW.out.trans hb9);  clear hb9) | ((with_reducible refine at_load 25 (.tmp 2) ?_); refine wpList_load_row rfl 25 _ rfl w.heap.size rfl 25 _ (0, 0) _ KX.out Try.underlying25 rfl (by kernel_rfl) ?_))
    refine bodyPost_ret (v := .tuple #[.bool false, .int .i64 er]) ?_ rfl ⟨rfl, HBW.out⟩
    simp [results, Try.results10, go_sem]
end Go.Proofs.Sky
