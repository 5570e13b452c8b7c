/-
  lemmas for the theorems of this claim. No conditions beyond those written in the statements.
-/
import Derived.Test.YtmfiiocadhdhaaaRC26
import Derived.Deep.Cut
import Derived.Test.YtmfiiocadhdhaaaJ26
import Derived.Test.YtmfiiocadhdhaaaM26
set_option linter.unusedVariables false
set_option linter.unusedSimpArgs false
set_option linter.unnecessarySimpa false
namespace Go.Proofs.Sky
open Go Go.RowKit Go.Shelf
set_option maxHeartbeats 4000000
set_option maxRecDepth 8000
/-! chapter 26: the reference's within and Check -/
def okZ (b z : Int) : Bool := decide (lowR b true ≤ z ∧ z ≤ highR b true)
theorem okZ_T (x : Nat → Int) (b : Int) (j : Nat) : okT x (b, true, j) = okZ b (x j) := rfl
theorem rwithin26_any (n b : Int) (hb : b = 16 ∨ b = 22 ∨ b = 24 ∨ b = 32) (w : World) : Calls Try.prog 34 #[.int .i64 n, .int .i64 b] w fun e w' => e = .returned (.bool (okZ b n)) ∧ Bw w w' := by
  obtain ⟨O, hO⟩ : ∃ O, O = okZ b n := ⟨_, rfl⟩
  rw [← hO]
  rcases hb with rfl | rfl | rfl | rfl
  · have HO := Lib.hid (hO.trans (show okZ 16 n = decide (-32768 ≤ n ∧ n < 32768) from decide_eq_decide.2 (by rw [show lowR 16 true = -32768 from by decide, show highR 16 true = 32767 from by decide]; omega)))
    clear hO
    by_cases q1 : n < -32768
    · have q1b : decide (-32768 ≤ n) = false := decide_eq_false (by omega)
      have HG := Lib.hid (HO.out.trans (decide_eq_false (by omega)))
      go_enter Try.func34, Try.ntmps34
      go_wp2
      go_ret
      exact ⟨ret_bool HG.out.symm, Bw.refl _⟩
    · have q1b : decide (-32768 ≤ n) = true := decide_eq_true (by omega)
      have HG := Lib.hid (HO.out.trans (show _ = decide (n < 32768) from decide_eq_decide.2 (by omega)))
      go_enter Try.func34, Try.ntmps34
      go_wp2
      go_ret
      exact ⟨ret_bool HG.out.symm, Bw.refl _⟩
  · have HO := Lib.hid (hO.trans (show okZ 22 n = decide (-2097152 ≤ n ∧ n < 2097152) from decide_eq_decide.2 (by rw [show lowR 22 true = -2097152 from by decide, show highR 22 true = 2097151 from by decide]; omega)))
    clear hO
    by_cases q1 : n < -2097152
    · have q1b : decide (-2097152 ≤ n) = false := decide_eq_false (by omega)
      have HG := Lib.hid (HO.out.trans (decide_eq_false (by omega)))
      go_enter Try.func34, Try.ntmps34
      go_wp2
      go_ret
      exact ⟨ret_bool HG.out.symm, Bw.refl _⟩
    · have q1b : decide (-2097152 ≤ n) = true := decide_eq_true (by omega)
      have HG := Lib.hid (HO.out.trans (show _ = decide (n < 2097152) from decide_eq_decide.2 (by omega)))
      go_enter Try.func34, Try.ntmps34
      go_wp2
      go_ret
      exact ⟨ret_bool HG.out.symm, Bw.refl _⟩
  · have HO := Lib.hid (hO.trans (show okZ 24 n = decide (-8388608 ≤ n ∧ n < 8388608) from decide_eq_decide.2 (by rw [show lowR 24 true = -8388608 from by decide, show highR 24 true = 8388607 from by decide]; omega)))
    clear hO
    by_cases q1 : n < -8388608
    · have q1b : decide (-8388608 ≤ n) = false := decide_eq_false (by omega)
      have HG := Lib.hid (HO.out.trans (decide_eq_false (by omega)))
      go_enter Try.func34, Try.ntmps34
      go_wp2
      go_ret
      exact ⟨ret_bool HG.out.symm, Bw.refl _⟩
    · have q1b : decide (-8388608 ≤ n) = true := decide_eq_true (by omega)
      have HG := Lib.hid (HO.out.trans (show _ = decide (n < 8388608) from decide_eq_decide.2 (by omega)))
      go_enter Try.func34, Try.ntmps34
      go_wp2
      go_ret
      exact ⟨ret_bool HG.out.symm, Bw.refl _⟩
  · have HO := Lib.hid (hO.trans (show okZ 32 n = decide (-2147483648 ≤ n ∧ n < 2147483648) from decide_eq_decide.2 (by rw [show lowR 32 true = -2147483648 from by decide, show highR 32 true = 2147483647 from by decide]; omega)))
    clear hO
    by_cases q1 : n < -2147483648
    · have q1b : decide (-2147483648 ≤ n) = false := decide_eq_false (by omega)
      have HG := Lib.hid (HO.out.trans (decide_eq_false (by omega)))
      go_enter Try.func34, Try.ntmps34
      go_wp2
      go_ret
      exact ⟨ret_bool HG.out.symm, Bw.refl _⟩
    · have q1b : decide (-2147483648 ≤ n) = true := decide_eq_true (by omega)
      have HG := Lib.hid (HO.out.trans (show _ = decide (n < 2147483648) from decide_eq_decide.2 (by omega)))
      go_enter Try.func34, Try.ntmps34
      go_wp2
      go_ret
      exact ⟨ret_bool HG.out.symm, Bw.refl _⟩
def clB (i : Nat) : Int := if i = 0 then 32 else if i = 1 then 24 else 16
def axB (i : Nat) : Int := if i = 0 then 32 else if i = 2 then 22 else 24
theorem clB_ok (i : Nat) : clB i = 16 ∨ clB i = 22 ∨ clB i = 24 ∨ clB i = 32 := by unfold clB; split; · simp
                                                                                   split <;> simp
theorem axB_ok (i : Nat) : axB i = 16 ∨ axB i = 22 ∨ axB i = 24 ∨ axB i = 32 := by unfold axB; split; · simp
                                                                                   split <;> simp
theorem errE_cl {x : Nat → Int} {i : Nat} (hi : i < 3) (h : okZ (clB i) (x (4 + i)) = false) : errE x = 2 := by
  match i, hi with
  | 0, _ => exact errE_bad (k := 0) (i := 4) (by decide) (by decide) h
  | 1, _ => exact errE_bad (k := 0) (i := 5) (by decide) (by decide) h
  | 2, _ => exact errE_bad (k := 0) (i := 6) (by decide) (by decide) h
theorem errE_ax {x : Nat → Int} {i : Nat} (hi : i < 4) (h : okZ (axB i) (x (7 + i)) = false ∨ okZ (axB i) (x (11 + i)) = false ∨ okZ (axB i) (x (15 + i)) = false) : errE x = 2 := by
  match i, hi with
  | 0, _ => exact h.elim (errE_bad (k := 1) (i := 2) (by decide) (by decide)) (fun h => h.elim (errE_bad (k := 1) (i := 6) (by decide) (by decide)) (errE_bad (k := 2) (i := 4) (by decide) (by decide)))
  | 1, _ => exact h.elim (errE_bad (k := 1) (i := 3) (by decide) (by decide)) (fun h => h.elim (errE_bad (k := 1) (i := 7) (by decide) (by decide)) (errE_bad (k := 2) (i := 5) (by decide) (by decide)))
  | 2, _ => exact h.elim (errE_bad (k := 1) (i := 4) (by decide) (by decide)) (fun h => h.elim (errE_bad (k := 2) (i := 2) (by decide) (by decide)) (errE_bad (k := 2) (i := 6) (by decide) (by decide)))
  | 3, _ => exact h.elim (errE_bad (k := 1) (i := 5) (by decide) (by decide)) (fun h => h.elim (errE_bad (k := 2) (i := 3) (by decide) (by decide)) (errE_bad (k := 2) (i := 7) (by decide) (by decide)))
def hdE (x : Nat → Int) : Prop := 1 ≤ x 0 ∧ x 0 ≤ 63 ∧ 0 ≤ x 1 ∧ x 1 ≤ 255 ∧ 0 ≤ x 2 ∧ x 2 ≤ 604799 ∧ 0 ≤ x 3 ∧ x 3 ≤ 65535
theorem okT_un {x : Nat → Int} {b hi : Int} {j : Nat} (h : highR b false = hi) : okT x (b, false, j) = decide (0 ≤ x j ∧ x j ≤ hi) := by
  subst h; rfl
theorem errE_yes {x : Nat → Int} (h : hdE x) (h2 : ∀ i, i < 3 → okZ (clB i) (x (4 + i)) = true) (h3 : ∀ i, i < 4 → okZ (axB i) (x (7 + i)) = true ∧ okZ (axB i) (x (11 + i)) = true ∧ okZ (axB i) (x (15 + i)) = true) : errE x = 0 := by
  have u8 : ∀ j, okT x (8, false, j) = decide (0 ≤ x j ∧ x j ≤ 255) := fun j => okT_un (by decide)
  have u6 : ∀ j, okT x (6, false, j) = decide (0 ≤ x j ∧ x j ≤ 63) := fun j => okT_un (by decide)
  have u20 : ∀ j, okT x (20, false, j) = decide (0 ≤ x j ∧ x j ≤ 1048575) := fun j => okT_un (by decide)
  have u16 : ∀ j, okT x (16, false, j) = decide (0 ≤ x j ∧ x j ≤ 65535) := fun j => okT_un (by decide)
  have e0 : (LS 0).all (okT x) = (okT x (8, false, 1) && (okT x (6, false, 0) && (okT x (20, false, 2) && (okT x (16, false, 3) && (okZ 32 (x 4) && (okZ 24 (x 5) && (okZ 16 (x 6) && true))))))) := rfl
  have e1 : (LS 1).all (okT x) = (okT x (8, false, 1) && (okT x (6, false, 0) && (okZ 32 (x 7) && (okZ 24 (x 8) && (okZ 22 (x 9) && (okZ 24 (x 10) && (okZ 32 (x 11) && (okZ 24 (x 12) && true)))))))) := rfl
  have e2 : (LS 2).all (okT x) = (okT x (8, false, 1) && (okT x (6, false, 0) && (okZ 22 (x 13) && (okZ 24 (x 14) && (okZ 32 (x 15) && (okZ 24 (x 16) && (okZ 22 (x 17) && (okZ 24 (x 18) && true)))))))) := rfl
  obtain ⟨a1, a2, a3, a4, a5, a6, a7, a8⟩ := h
  have c0 : okZ 32 (x 4) = true := h2 0 (by omega)
  have c1 : okZ 24 (x 5) = true := h2 1 (by omega)
  have c2 : okZ 16 (x 6) = true := h2 2 (by omega)
  have d0 : okZ 32 (x 7) = true ∧ okZ 32 (x 11) = true ∧ okZ 32 (x 15) = true := h3 0 (by omega)
  have d1 : okZ 24 (x 8) = true ∧ okZ 24 (x 12) = true ∧ okZ 24 (x 16) = true := h3 1 (by omega)
  have d2 : okZ 22 (x 9) = true ∧ okZ 22 (x 13) = true ∧ okZ 22 (x 17) = true := h3 2 (by omega)
  have d3 : okZ 24 (x 10) = true ∧ okZ 24 (x 14) = true ∧ okZ 24 (x 18) = true := h3 3 (by omega)
  unfold errE
  rw [e0, e1, e2, u8, u6, u20, u16, c0, c1, c2, d0.1, d0.2.1, d0.2.2, d1.1, d1.2.1, d1.2.2, d2.1, d2.2.1, d2.2.2, d3.1, d3.2.1, d3.2.2, decide_eq_true (show 0 ≤ x 1 ∧ x 1 ≤ 255 by omega), decide_eq_true (show 0 ≤ x 0 ∧ x 0 ≤ 63 by omega), decide_eq_true (show 0 ≤ x 2 ∧ x 2 ≤ 1048575 by omega), decide_eq_true (show 0 ≤ x 3 ∧ x 3 ≤ 65535 by omega), decide_eq_true (show 1 ≤ x 0 ∧ x 2 < 604800 by omega)]
  rfl
theorem errE_hd {x : Nat → Int} (h : ¬ hdE x) : errE x = 2 := by
  have u8 : ∀ j, okT x (8, false, j) = decide (0 ≤ x j ∧ x j ≤ 255) := fun j => okT_un (by decide)
  have u6 : ∀ j, okT x (6, false, j) = decide (0 ≤ x j ∧ x j ≤ 63) := fun j => okT_un (by decide)
  have u20 : ∀ j, okT x (20, false, j) = decide (0 ≤ x j ∧ x j ≤ 1048575) := fun j => okT_un (by decide)
  have u16 : ∀ j, okT x (16, false, j) = decide (0 ≤ x j ∧ x j ≤ 65535) := fun j => okT_un (by decide)
  have e0 : (LS 0).all (okT x) = (okT x (8, false, 1) && (okT x (6, false, 0) && (okT x (20, false, 2) && (okT x (16, false, 3) && (okZ 32 (x 4) && (okZ 24 (x 5) && (okZ 16 (x 6) && true))))))) := rfl
  unfold errE
  rw [if_neg]
  intro h9
  apply h
  simp only [Bool.and_eq_true] at h9
  rw [e0, u8, u6, u20, u16] at h9
  simp only [Bool.and_eq_true, decide_eq_true_eq] at h9
  obtain ⟨⟨⟨⟨b1, b2, b3, b4, _⟩, _⟩, _⟩, b5⟩ := h9
  unfold hdE
  omega
end Go.Proofs.Sky

namespace Go.Proofs.Sky
open Go Go.RowKit Go.Shelf
set_option maxHeartbeats 4000000
set_option maxRecDepth 8000
/-! chapter 26: the reference's Check -/
theorem rCheck26_any (x : Nat → Int) (w : World) : Calls Try.prog 14 #[.agg (eV x)] w fun e w' => e = .returned (.int .i64 (errE x)) ∧ Bw w w' := by
  have HBW := Lib.hid (Bw.alloc (Bw.refl w) (.cells (eV x) 25))
  have KX := Lib.hid (Blk.new w 25 (eV x))
  have HD := Lib.hid (fun h => errE_hd (x := x) h)
  have HCL := Lib.hid (fun i h h2 => errE_cl (x := x) (i := i) h h2)
  have HAX := Lib.hid (fun i h h2 => errE_ax (x := x) (i := i) h h2)
  have HYES := Lib.hid (fun h h2 h3 => errE_yes (x := x) h h2 h3)
  have RW := Lib.hid (fun n b hb W => rwithin26_any n b hb W)
  generalize errE x = E at HD HCL HAX HYES ⊢
  go_enter Try.func14, Try.ntmps14
  go_upto_region 1 with fail
  obtain ⟨W0, hW0⟩ : ∃ W0, w.alloc (.cells (eV x) 25) = W0 := ⟨_, rfl⟩
  rw [hW0] at HBW KX ⊢
  clear hW0
  have c0 : W0.cell? ⟨w.heap.size, 0, none⟩ = some (.int .i64 (x 0)) := KX.out.cell (eV_at x 0 (by omega))
  have c1 : W0.cell? ⟨w.heap.size, 1, none⟩ = some (.int .i64 (x 1)) := KX.out.cell (eV_at x 1 (by omega))
  have c2 : W0.cell? ⟨w.heap.size, 2, none⟩ = some (.int .i64 (x 2)) := KX.out.cell (eV_at x 2 (by omega))
  have c3 : W0.cell? ⟨w.heap.size, 3, none⟩ = some (.int .i64 (x 3)) := KX.out.cell (eV_at x 3 (by omega))
  by_cases q0 : x 0 < 1
  case pos =>
    have HG := Lib.hid (HD.out (fun h => by unfold hdE at h; omega))
    go_wp2
    go_ret
    exact ⟨ret_int HG.out.symm, HBW.out⟩
  by_cases q1 : 63 < x 0
  case pos =>
    have HG := Lib.hid (HD.out (fun h => by unfold hdE at h; omega))
    go_wp2
    go_ret
    exact ⟨ret_int HG.out.symm, HBW.out⟩
  by_cases q2 : x 1 < 0
  case pos =>
    have HG := Lib.hid (HD.out (fun h => by unfold hdE at h; omega))
    go_wp2
    go_ret
    exact ⟨ret_int HG.out.symm, HBW.out⟩
  by_cases q3 : 255 < x 1
  case pos =>
    have HG := Lib.hid (HD.out (fun h => by unfold hdE at h; omega))
    go_wp2
    go_ret
    exact ⟨ret_int HG.out.symm, HBW.out⟩
  by_cases q4 : x 2 < 0
  case pos =>
    have HG := Lib.hid (HD.out (fun h => by unfold hdE at h; omega))
    go_wp2
    go_ret
    exact ⟨ret_int HG.out.symm, HBW.out⟩
  by_cases q5 : 604799 < x 2
  case pos =>
    have HG := Lib.hid (HD.out (fun h => by unfold hdE at h; omega))
    go_wp2
    go_ret
    exact ⟨ret_int HG.out.symm, HBW.out⟩
  by_cases q6 : x 3 < 0
  case pos =>
    have HG := Lib.hid (HD.out (fun h => by unfold hdE at h; omega))
    go_wp2
    go_ret
    exact ⟨ret_int HG.out.symm, HBW.out⟩
  by_cases q7 : 65535 < x 3
  case pos =>
    have HG := Lib.hid (HD.out (fun h => by unfold hdE at h; omega))
    go_wp2
    go_ret
    exact ⟨ret_int HG.out.symm, HBW.out⟩
  have HH := Lib.hid (show hdE x by unfold hdE; omega)
  go_upto_region 3 with fail
  clear c0 c1 c2 c3 q0 q1 q2 q3 q4 q5 q6 q7
  go_upto_region 4 with fail
  have L1 := RdI.litN W0 #[.int .i64 32, .int .i64 24, .int .i64 16] 3 [32, 24, 16] W0.heap.size rfl (by rfl) (by simp)
  have L2 := RdI.litN (W0.alloc (.cells #[.int .i64 32, .int .i64 24, .int .i64 16] 3)) #[.int .i64 32, .int .i64 24, .int .i64 22, .int .i64 24] 3 [32, 24, 22, 24] (W0.heap.size + 1) (by simp [World.size_alloc]) (by rfl) (by simp)
  obtain ⟨B1, hB1⟩ : ∃ B1, W0.heap.size = B1 := ⟨_, rfl⟩
  have HB1 := Lib.hid hB1
  rw [hB1] at L1 L2
  have KY := Lib.hid ((KX.out.alloc (.cells #[.int .i64 32, .int .i64 24, .int .i64 16] 3)).alloc (.cells #[.int .i64 32, .int .i64 24, .int .i64 22, .int .i64 24] 3))
  have HBY := Lib.hid (Bw.alloc (Bw.alloc HBW.out (.cells #[.int .i64 32, .int .i64 24, .int .i64 16] 3)) (.cells #[.int .i64 32, .int .i64 24, .int .i64 22, .int .i64 24] 3))
  replace L1 := L1.mono (Bw.alloc (Bw.refl _) (.cells #[.int .i64 32, .int .i64 24, .int .i64 22, .int .i64 24] 3))
  rw [hB1]
  obtain ⟨W1, hW1⟩ : ∃ W1, (W0.alloc (.cells #[.int .i64 32, .int .i64 24, .int .i64 16] 3)).alloc (.cells #[.int .i64 32, .int .i64 24, .int .i64 22, .int .i64 24] 3) = W1 := ⟨_, rfl⟩
  rw [hW1] at KY HBY L1 L2 ⊢
  clear hW1 hB1 KX HBW
  have HL1 := Lib.hid (show ∀ i, i < 3 → W1.cell? ⟨B1, i, none⟩ = some (.int .i64 (clB i)) from fun i hi => by
    obtain ⟨b, o, c, hv, _, hc⟩ := L1.at (by decide)
    injection hv with a1 a2 a3
    injection a1 with a1
    injection a1 with a1 a4 a5
    subst a1 a4
    have h9 := hc i hi
    rw [Nat.zero_add] at h9
    match i, hi with
    | 0, _ => exact h9
    | 1, _ => exact h9
    | 2, _ => exact h9)
  have HL2 := Lib.hid (show ∀ i, i < 4 → W1.cell? ⟨B1 + 1, i, none⟩ = some (.int .i64 (axB i)) from fun i hi => by
    obtain ⟨b, o, c, hv, _, hc⟩ := L2.at (by decide)
    injection hv with a1 a2 a3
    injection a1 with a1
    injection a1 with a1 a4 a5
    subst a1 a4
    have h9 := hc i hi
    rw [Nat.zero_add] at h9
    match i, hi with
    | 0, _ => exact h9
    | 1, _ => exact h9
    | 2, _ => exact h9
    | 3, _ => exact h9)
  clear L1 L2
  go_wp2
  go_loopg [5] 3 (fun gg s5 wr => ∃ i : Nat, i ≤ 3 ∧ 3 - i ≤ gg ∧ s5 = .int .i64 i ∧ Hid (Bw W1 wr) ∧ Hid (∀ j, j < i → okZ (clB j) (x (4 + j)) = true))
  case atStart => exact ⟨0, by omega, by omega, rfl, Lib.hid (Bw.refl _), Lib.hid (fun j h => absurd h (by omega))⟩
  case round =>
    obtain ⟨i, hi, hgg, rfl, HW, HI⟩ := hrel
    obtain ⟨wa, rfl⟩ : ∃ wa, wa = wr := ⟨_, rfl⟩
    by_cases hlt : i < 3
    · have hiz : (i : Int) < 3 := by omega
      have hi0 : (0 : Int) ≤ i := by omega
      have cx := (KY.out.bw HW.out).cell (eV_at x (4 + i) (by omega))
      have cb := HW.out.cell' (HL1.out i hlt)
      have RWI := Lib.hid (fun W => RW.out (x (4 + i)) (clB i) (clB_ok i) W)
      have HCI := Lib.hid (HCL.out i hlt)
      have HIN := Lib.hid (fun h => (fun j (hj : j < i + 1) => (by
        rcases Nat.lt_succ_iff_lt_or_eq.1 hj with h9 | rfl
        · exact HI.out j h9
        · exact h) : ∀ j, j < i + 1 → okZ (clB j) (x (4 + j)) = true))
      generalize okZ (clB i) (x (4 + i)) = K at RWI HCI HIN
      generalize clB i = bz at cb RWI
      generalize x (4 + i) = z at cx RWI
      go_upto_region 7 with fail
      have e1 := fun p' : Ext wa => Ext.cell' cx p'
      have e2 := fun p' : Ext wa => Ext.cell' cb p'
      clear cx cb
      cases K with
      | false =>
        have HG := Lib.hid (HCI.out rfl)
        (refine wp_region_quiet_ext (by kernel_rfl) (by kernel_rfl) ?_; (repeat (go_big_quiet_step (((go_at_call 34; exact Calls.ext_of (RWI.out _)))))); refine wpQuiet_nil ?_; rintro wq ⟨⟨_, hbq⟩, rfl⟩; obtain ⟨hccq, hffq⟩ := Bw.cells hbq; have hszq := Bw.size hbq)
        replace HW := Lib.hid (HW.out.trans hbq)
        clear e1 e2
        go_wp2
        go_ret
        exact ⟨ret_int HG.out.symm, HBY.out.trans HW.out⟩
      | true =>
        have HG := Lib.hid (HIN.out rfl)
        (refine wp_region_quiet_ext (by kernel_rfl) (by kernel_rfl) ?_; (repeat (go_big_quiet_step (((go_at_call 34; exact Calls.ext_of (RWI.out _)))))); refine wpQuiet_nil ?_; rintro wq ⟨⟨_, hbq⟩, rfl⟩; obtain ⟨hccq, hffq⟩ := Bw.cells hbq; have hszq := Bw.size hbq)
        replace HW := Lib.hid (HW.out.trans hbq)
        clear e1 e2
        go_wp2
        go_roundg (3 - (i + 1))
        case measure => omega
        case rel => exact ⟨i + 1, by omega, by omega, by go_num, HW, HG⟩
    · obtain rfl : i = 3 := by omega
      have HCY := HI
      go_upto_region 9 with fail
      replace HBY := Lib.hid (HBY.out.trans HW.out)
      replace KY := Lib.hid (KY.out.bw HW.out)
      replace HL2 := Lib.hid (fun i hi => HW.out.cell' (HL2.out i hi))
      clear HW HI HL1 HCL
      go_wp2
      go_loopg [6] 4 (fun gg s6 wr => ∃ i : Nat, i ≤ 4 ∧ 4 - i ≤ gg ∧ s6 = .int .i64 i ∧ Hid (Bw wa wr) ∧ Hid (∀ j, j < i → okZ (axB j) (x (7 + j)) = true ∧ okZ (axB j) (x (11 + j)) = true ∧ okZ (axB j) (x (15 + j)) = true))
      case atStart => exact ⟨0, by omega, by omega, rfl, Lib.hid (Bw.refl _), Lib.hid (fun j h => absurd h (by omega))⟩
      case round =>
        clear hi hgg hlt
        obtain ⟨i, hi, hgg, rfl, HW, HI⟩ := hrel
        obtain ⟨wb, rfl⟩ : ∃ wb, wb = wr := ⟨_, rfl⟩
        by_cases hlt : i < 4
        · have hiz : (i : Int) < 4 := by omega
          have hi0 : (0 : Int) ≤ i := by omega
          have cx := (KY.out.bw HW.out).cell (eV_at x (7 + i) (by omega))
          have cy := (KY.out.bw HW.out).cell (eV_at x (11 + i) (by omega))
          have cz := (KY.out.bw HW.out).cell (eV_at x (15 + i) (by omega))
          have cb := HW.out.cell' (HL2.out i hlt)
          have RX := Lib.hid (fun W => RW.out (x (7 + i)) (axB i) (axB_ok i) W)
          have RY := Lib.hid (fun W => RW.out (x (11 + i)) (axB i) (axB_ok i) W)
          have RZ := Lib.hid (fun W => RW.out (x (15 + i)) (axB i) (axB_ok i) W)
          have HCI := Lib.hid (HAX.out i hlt)
          have HIN := Lib.hid (fun h => (fun j (hj : j < i + 1) => (by
            rcases Nat.lt_succ_iff_lt_or_eq.1 hj with h9 | rfl
            · exact HI.out j h9
            · exact h) : ∀ j, j < i + 1 → okZ (axB j) (x (7 + j)) = true ∧ okZ (axB j) (x (11 + j)) = true ∧ okZ (axB j) (x (15 + j)) = true))
          generalize okZ (axB i) (x (7 + i)) = K1 at RX HCI HIN
          generalize okZ (axB i) (x (11 + i)) = K2 at RY HCI HIN
          generalize okZ (axB i) (x (15 + i)) = K3 at RZ HCI HIN
          generalize axB i = bz at cb RX RY RZ
          generalize x (7 + i) = zx at cx RX
          generalize x (11 + i) = zy at cy RY
          generalize x (15 + i) = zz at cz RZ
          go_upto_region 12 with fail
          have e1 := fun p' : Ext wb => Ext.cell' cx p'
          have e2 := fun p' : Ext wb => Ext.cell' cy p'
          have e3 := fun p' : Ext wb => Ext.cell' cz p'
          have e4 := fun p' : Ext wb => Ext.cell' cb p'
          clear cx cy cz cb
          cases K1 with
          | false =>
            have HG := Lib.hid (HCI.out (.inl rfl))
            (refine wp_region_quiet_ext (by kernel_rfl) (by kernel_rfl) ?_; (repeat (go_big_quiet_step (((go_at_call 34; exact Calls.ext_of (RX.out _)))))); refine wpQuiet_nil ?_; rintro wq ⟨⟨_, hbq⟩, rfl⟩; obtain ⟨hccq, hffq⟩ := Bw.cells hbq; have hszq := Bw.size hbq)
            replace HW := Lib.hid (HW.out.trans hbq)
            clear e1 e2 e3 e4
            go_wp2
            go_ret
            exact ⟨ret_int HG.out.symm, HBY.out.trans HW.out⟩
          | true =>
            cases K2 with
            | false =>
              have HG := Lib.hid (HCI.out (.inr (.inl rfl)))
              (refine wp_region_quiet_ext (by kernel_rfl) (by kernel_rfl) ?_; (repeat (go_big_quiet_step (((go_at_call 34; first | with_reducible exact Calls.ext_of (RX.out _) | with_reducible exact Calls.ext_of (RY.out _)))))); refine wpQuiet_nil ?_; rintro wq ⟨⟨_, hbq⟩, rfl⟩; obtain ⟨hccq, hffq⟩ := Bw.cells hbq; have hszq := Bw.size hbq)
              replace HW := Lib.hid (HW.out.trans hbq)
              clear e1 e2 e3 e4
              go_wp2
              go_ret
              exact ⟨ret_int HG.out.symm, HBY.out.trans HW.out⟩
            | true =>
              cases K3 with
              | false =>
                have HG := Lib.hid (HCI.out (.inr (.inr rfl)))
                (refine wp_region_quiet_ext (by kernel_rfl) (by kernel_rfl) ?_; (repeat (go_big_quiet_step (((go_at_call 34; first | with_reducible exact Calls.ext_of (RX.out _) | with_reducible exact Calls.ext_of (RY.out _) | with_reducible exact Calls.ext_of (RZ.out _)))))); refine wpQuiet_nil ?_; rintro wq ⟨⟨_, hbq⟩, rfl⟩; obtain ⟨hccq, hffq⟩ := Bw.cells hbq; have hszq := Bw.size hbq)
                replace HW := Lib.hid (HW.out.trans hbq)
                clear e1 e2 e3 e4
                go_wp2
                go_ret
                exact ⟨ret_int HG.out.symm, HBY.out.trans HW.out⟩
              | true =>
                have HG := Lib.hid (HIN.out ⟨rfl, rfl, rfl⟩)
                (refine wp_region_quiet_ext (by kernel_rfl) (by kernel_rfl) ?_; (repeat (go_big_quiet_step (((go_at_call 34; first | with_reducible exact Calls.ext_of (RX.out _) | with_reducible exact Calls.ext_of (RY.out _) | with_reducible exact Calls.ext_of (RZ.out _)))))); refine wpQuiet_nil ?_; rintro wq ⟨⟨_, hbq⟩, rfl⟩; obtain ⟨hccq, hffq⟩ := Bw.cells hbq; have hszq := Bw.size hbq)
                replace HW := Lib.hid (HW.out.trans hbq)
                clear e1 e2 e3 e4
                go_wp2
                go_roundg (4 - (i + 1))
                case measure => omega
                case rel => exact ⟨i + 1, by omega, by omega, by go_num, HW, HG⟩
        · obtain rfl : i = 4 := by omega
          have HG := Lib.hid (HYES.out HH.out HCY.out HI.out)
          go_wp2
          go_ret
          exact ⟨ret_int HG.out.symm, HBY.out.trans HW.out⟩
end Go.Proofs.Sky

namespace Go.Proofs.Sky
open Go Go.RowKit Go.Shelf
set_option maxHeartbeats 4000000
set_option maxRecDepth 8000
/-! chapter 26: the reference's Fits -/
theorem RFits_any (x : Nat → Int) (t : Int) (w : World) : Calls Try.prog 10 #[.agg (eV x), .int .i64 t] w fun e w' => e = .returned (.tuple #[.bool (fitE x t), .int .i64 (errFt x t)]) ∧ Bw w w' := by
  have CK := Lib.hid (fun W => rCheck26_any x W)
  have HBW := Lib.hid (Bw.alloc (Bw.refl w) (.cells (eV x) 25))
  have KX := Lib.hid (Blk.new w 25 (eV x))
  by_cases h : errE x = 0
  · have hl := errE_lim h
    rw [h] at CK
    unfold errFt
    rw [if_pos h]
    by_cases ht : 0 ≤ t ∧ t < 604800
    · rw [if_pos ht]
      have HF := Lib.hid (show fitE x t = decide (min ((t - x 2 + 604800) % 604800) (604800 - (t - x 2 + 604800) % 604800) ≤ 7200) by
        unfold fitE; rw [decide_eq_decide]; exact ⟨fun h9 => h9.2.2.2, fun h9 => ⟨h, ht.1, ht.2, h9⟩⟩)
      generalize fitE x t = FT at *
      have hq1 : ¬ t < 0 := by omega
      have hq2 : ¬ 604799 < t := by omega
      go_enter Try.func10, Try.ntmps10
      go_upto_region 1 with fail
      obtain ⟨W0, hW0⟩ : ∃ W0, w.alloc (.cells (eV x) 25) = W0 := ⟨_, rfl⟩
      rw [hW0] at HBW KX ⊢
      clear hW0
      by_cases h5 : t - x 2 < 0
      · by_cases h6 : -(t - x 2) ≤ 7200
        · have HG := Lib.hid (show true = FT by rw [HF.out]; exact (decide_eq_true (by omega)).symm)
          go_wp2_with (first | (go_at_call 14; (with_reducible refine Calls.mono (CK.out _) ?_); rintro e1 w1 ⟨rfl, hb9⟩; replace HBW := Lib.hid (HBW.out.trans hb9); have j2 := (KX.out.bw hb9).cell (eV_at x 2 (by omega)); clear hb9) | ((with_reducible refine at_load 25 (.tmp 2) ?_); refine wpList_load_row rfl 25 _ rfl w.heap.size rfl 25 _ (0, 0) _ KX.out Try.underlying25 rfl (by kernel_rfl) ?_))
          refine bodyPost_ret (v := .tuple #[.bool FT, .int .i64 0]) ?_ rfl ⟨rfl, HBW.out⟩
          simp [results, Try.results10, go_sem, HG.out]
        · have HG := Lib.hid (show decide (604800 - -(t - x 2) ≤ 7200) = FT by rw [HF.out]; exact decide_eq_decide.2 (by omega))
          have h6b : decide (-(t - x 2) ≤ 7200) = false := decide_eq_false h6
          go_wp2_with (first | (go_at_call 14; (with_reducible refine Calls.mono (CK.out _) ?_); rintro e1 w1 ⟨rfl, hb9⟩; replace HBW := Lib.hid (HBW.out.trans hb9); have j2 := (KX.out.bw hb9).cell (eV_at x 2 (by omega)); clear hb9) | ((with_reducible refine at_load 25 (.tmp 2) ?_); refine wpList_load_row rfl 25 _ rfl w.heap.size rfl 25 _ (0, 0) _ KX.out Try.underlying25 rfl (by kernel_rfl) ?_))
          refine bodyPost_ret (v := .tuple #[.bool FT, .int .i64 0]) ?_ rfl ⟨rfl, HBW.out⟩
          simp [results, Try.results10, go_sem, ← HG.out]
      · by_cases h6 : (t - x 2) ≤ 7200
        · have HG := Lib.hid (show true = FT by rw [HF.out]; exact (decide_eq_true (by omega)).symm)
          go_wp2_with (first | (go_at_call 14; (with_reducible refine Calls.mono (CK.out _) ?_); rintro e1 w1 ⟨rfl, hb9⟩; replace HBW := Lib.hid (HBW.out.trans hb9); have j2 := (KX.out.bw hb9).cell (eV_at x 2 (by omega)); clear hb9) | ((with_reducible refine at_load 25 (.tmp 2) ?_); refine wpList_load_row rfl 25 _ rfl w.heap.size rfl 25 _ (0, 0) _ KX.out Try.underlying25 rfl (by kernel_rfl) ?_))
          refine bodyPost_ret (v := .tuple #[.bool FT, .int .i64 0]) ?_ rfl ⟨rfl, HBW.out⟩
          simp [results, Try.results10, go_sem, HG.out]
        · have HG := Lib.hid (show decide (604800 - (t - x 2) ≤ 7200) = FT by rw [HF.out]; exact decide_eq_decide.2 (by omega))
          have h6b : decide ((t - x 2) ≤ 7200) = false := decide_eq_false h6
          go_wp2_with (first | (go_at_call 14; (with_reducible refine Calls.mono (CK.out _) ?_); rintro e1 w1 ⟨rfl, hb9⟩; replace HBW := Lib.hid (HBW.out.trans hb9); have j2 := (KX.out.bw hb9).cell (eV_at x 2 (by omega)); clear hb9) | ((with_reducible refine at_load 25 (.tmp 2) ?_); refine wpList_load_row rfl 25 _ rfl w.heap.size rfl 25 _ (0, 0) _ KX.out Try.underlying25 rfl (by kernel_rfl) ?_))
          refine bodyPost_ret (v := .tuple #[.bool FT, .int .i64 0]) ?_ rfl ⟨rfl, HBW.out⟩
          simp [results, Try.results10, go_sem, ← HG.out]
    · rw [if_neg ht]
      have HF : fitE x t = false := decide_eq_false (fun h9 => ht ⟨h9.2.1, h9.2.2.1⟩)
      rw [HF]
      by_cases ht1 : t < 0
      · skip
        go_enter Try.func10, Try.ntmps10
        go_upto_region 1 with fail
        obtain ⟨W0, hW0⟩ : ∃ W0, w.alloc (.cells (eV x) 25) = W0 := ⟨_, rfl⟩
        rw [hW0] at HBW KX ⊢
        clear hW0
        go_wp2_with (first | (go_at_call 14; (with_reducible refine Calls.mono (CK.out _) ?_); rintro e1 w1 ⟨rfl, hb9⟩; replace HBW := Lib.hid (HBW.out.trans hb9);  clear hb9) | ((with_reducible refine at_load 25 (.tmp 2) ?_); refine wpList_load_row rfl 25 _ rfl w.heap.size rfl 25 _ (0, 0) _ KX.out Try.underlying25 rfl (by kernel_rfl) ?_))
        refine bodyPost_ret (v := .tuple #[.bool false, .int .i64 2]) ?_ rfl ⟨rfl, HBW.out⟩
        simp [results, Try.results10, go_sem]
      · have ht2 : 604799 < t := by omega
        go_enter Try.func10, Try.ntmps10
        go_upto_region 1 with fail
        obtain ⟨W0, hW0⟩ : ∃ W0, w.alloc (.cells (eV x) 25) = W0 := ⟨_, rfl⟩
        rw [hW0] at HBW KX ⊢
        clear hW0
        go_wp2_with (first | (go_at_call 14; (with_reducible refine Calls.mono (CK.out _) ?_); rintro e1 w1 ⟨rfl, hb9⟩; replace HBW := Lib.hid (HBW.out.trans hb9);  clear hb9) | ((with_reducible refine at_load 25 (.tmp 2) ?_); refine wpList_load_row rfl 25 _ rfl w.heap.size rfl 25 _ (0, 0) _ KX.out Try.underlying25 rfl (by kernel_rfl) ?_))
        refine bodyPost_ret (v := .tuple #[.bool false, .int .i64 2]) ?_ rfl ⟨rfl, HBW.out⟩
        simp [results, Try.results10, go_sem]
  · unfold errFt
    rw [if_neg h]
    have HF : fitE x t = false := decide_eq_false (fun h9 => h h9.1)
    rw [HF]
    have hne : (errE x != 0) = true := by simpa using h
    generalize errE x = er at *
    go_enter Try.func10, Try.ntmps10
    go_upto_region 1 with fail
    obtain ⟨W0, hW0⟩ : ∃ W0, w.alloc (.cells (eV x) 25) = W0 := ⟨_, rfl⟩
    rw [hW0] at HBW KX ⊢
    clear hW0
    go_wp2_with (first | (go_at_call 14; (with_reducible refine Calls.mono (CK.out _) ?_); rintro e1 w1 ⟨rfl, hb9⟩; replace HBW := Lib.hid (HBW.out.trans hb9);  clear hb9) | ((with_reducible refine at_load 25 (.tmp 2) ?_); refine wpList_load_row rfl 25 _ rfl w.heap.size rfl 25 _ (0, 0) _ KX.out Try.underlying25 rfl (by kernel_rfl) ?_))
    refine bodyPost_ret (v := .tuple #[.bool false, .int .i64 er]) ?_ rfl ⟨rfl, HBW.out⟩
    simp [results, Try.results10, go_sem]
end Go.Proofs.Sky

namespace Go.Proofs.Sky
open Go Go.RowKit Go.Shelf
set_option maxHeartbeats 4000000
set_option maxRecDepth 8000
/-! chapter 26: the reference's Frames -/
theorem take_next (L : List Int) (p : Nat) (h : p < L.length) : L.take (p + 1) = L.take p ++ [L.getD p 0] := by
  rw [List.take_add_one, List.getElem?_eq_getElem h, List.getD_eq_getElem?_getD, List.getElem?_eq_getElem h]; rfl
def RowN (w : World) (v : Value) (n : Nat) (f : Nat → Int) : Prop := ∃ b o c, v = .slice (some ⟨b, o, none⟩) n c ∧ ∀ i, i < n → w.cell? ⟨b, o + i, none⟩ = some (.int .i64 (f i))
theorem RowN.of {w : World} {v : Value} {zs : List Int} (h : RdI w v zs) (h0 : 0 < zs.length) : RowN w v zs.length (fun i => zs.getD i 0) := by
  obtain ⟨b, o, c, hv, _, hc⟩ := h.at h0
  exact ⟨b, o, c, hv, hc⟩
theorem RowN.mono {w w' : World} {v : Value} {n : Nat} {f : Nat → Int} (h : RowN w v n f) (hb : Bw w w') : RowN w' v n f := by
  obtain ⟨b, o, c, hv, hc⟩ := h
  exact ⟨b, o, c, hv, fun i hi => hb.cell' (hc i hi)⟩
theorem RowN.congr {w : World} {v : Value} {n : Nat} {f g : Nat → Int} (h : RowN w v n f) (hfg : ∀ i, i < n → f i = g i) : RowN w v n g := by
  obtain ⟨b, o, c, hv, hc⟩ := h
  exact ⟨b, o, c, hv, fun i hi => by rw [← hfg i hi]; exact hc i hi⟩
theorem kdN_of (k : Nat) (hk : k < 3) : kdN ((k : Int) + 1) = k := by
  match k, hk with
  | 0, _ => rfl
  | 1, _ => rfl
  | 2, _ => rfl
theorem rnum_rows (x : Nat → Int) (k : Nat) (hk : k < 3) (w : World) : Calls Try.prog 32 #[.agg (eV x), .int .i64 ((k : Int) + 1)] w fun e w' => (∃ v1 v2 u, e = .returned (.tuple #[v1, v2, .int .i64 u]) ∧ RowN w' v1 (LS k).length (fun i => x ((LS k).getD i (0, false, 0)).2.2) ∧ RowN w' v2 (LS k).length (fun i => (nN k i : Int))) ∧ Bw w w' := by
  have h9 := rnum_any x ((k : Int) + 1) w
  rw [kdN_of k hk] at h9
  refine Calls.mono h9 ?_
  rintro e w' ⟨⟨v1, v2, rfl, h1, h2, _, _⟩, hb⟩
  have l1 : (nmV x k).length = (LS k).length := by unfold nmV; rw [List.length_map]
  have l2 : (nmB k).length = (LS k).length := by unfold nmB; rw [List.length_map]
  have h0 := (ls_len k hk).2.1
  have r1 := RowN.of h1 (by omega)
  have r2 := RowN.of h2 (by omega)
  rw [l1] at r1
  rw [l2] at r2
  refine ⟨⟨v1, v2, _, rfl, r1.congr (fun i hi => ?_), r2.congr (fun i hi => (ls_facts k hk i hi).2.2.2.2.1)⟩, hb⟩
  show (nmV x k).getD i 0 = _
  unfold nmV
  rw [List.getD_eq_getElem?_getD, List.getElem?_map, List.getElem?_eq_getElem hi, List.getD_eq_getElem?_getD, List.getElem?_eq_getElem hi]
  rfl
theorem RFrames_bad (x : Nat → Int) (tow : Int) (w : World) (h : errE x ≠ 0) : Calls Try.prog 12 #[.agg (eV x), .int .i64 tow] w fun e w' => FrsP w.heap.size [] (errE x) e w' ∧ Bw w w' := by
  have CK := Lib.hid (fun W => rCheck26_any x W)
  have HBW := Lib.hid (Bw.alloc (Bw.refl w) (.cells (eV x) 25))
  have KX := Lib.hid (Blk.new w 25 (eV x))
  have hne : (errE x != 0) = true := by simpa using h
  generalize errE x = er at *
  go_enter Try.func12, Try.ntmps12
  go_upto_region 1 with fail
  obtain ⟨W0, hW0⟩ : ∃ W0, w.alloc (.cells (eV x) 25) = W0 := ⟨_, rfl⟩
  rw [hW0] at HBW KX ⊢
  clear hW0
  go_wp2_with (first | (go_at_call 14; (with_reducible refine Calls.mono (CK.out _) ?_); rintro e1 w1 ⟨rfl, hb9⟩; replace HBW := Lib.hid (HBW.out.trans hb9); replace KX := Lib.hid (KX.out.bw hb9); clear hb9) | ((with_reducible refine at_load 25 (.tmp 2) ?_); refine wpList_load_row rfl 25 _ rfl w.heap.size rfl 25 _ (0, 0) _ KX.out Try.underlying25 rfl (by kernel_rfl) ?_))
  refine bodyPost_ret (v := .tuple #[.slice none 0 0, .int .i64 er]) ?_ rfl ⟨⟨_, [], rfl, OwFr.nil _ _, rfl⟩, HBW.out⟩
  simp [results, Try.results12, go_sem]
theorem RFrames_range (x : Nat → Int) (tow : Int) (w : World) (h : errE x = 0) (hr : ¬ (0 ≤ tow ∧ tow < 131072)) : Calls Try.prog 12 #[.agg (eV x), .int .i64 tow] w fun e w' => FrsP w.heap.size [] 2 e w' ∧ Bw w w' := by
  have CK := Lib.hid (fun W => rCheck26_any x W)
  have HBW := Lib.hid (Bw.alloc (Bw.refl w) (.cells (eV x) 25))
  have KX := Lib.hid (Blk.new w 25 (eV x))
  rw [h] at CK
  by_cases q1 : tow < 0
  · clear hr
    go_enter Try.func12, Try.ntmps12
    go_upto_region 1 with fail
    obtain ⟨W0, hW0⟩ : ∃ W0, w.alloc (.cells (eV x) 25) = W0 := ⟨_, rfl⟩
    rw [hW0] at HBW KX ⊢
    clear hW0
    go_wp2_with (first | (go_at_call 14; (with_reducible refine Calls.mono (CK.out _) ?_); rintro e1 w1 ⟨rfl, hb9⟩; replace HBW := Lib.hid (HBW.out.trans hb9); replace KX := Lib.hid (KX.out.bw hb9); clear hb9) | ((with_reducible refine at_load 25 (.tmp 2) ?_); refine wpList_load_row rfl 25 _ rfl w.heap.size rfl 25 _ (0, 0) _ KX.out Try.underlying25 rfl (by kernel_rfl) ?_))
    refine bodyPost_ret (v := .tuple #[.slice none 0 0, .int .i64 2]) ?_ rfl ⟨⟨_, [], rfl, OwFr.nil _ _, rfl⟩, HBW.out⟩
    simp [results, Try.results12, go_sem]
  · have q2 : 131071 < tow := by omega
    clear hr
    go_enter Try.func12, Try.ntmps12
    go_upto_region 1 with fail
    obtain ⟨W0, hW0⟩ : ∃ W0, w.alloc (.cells (eV x) 25) = W0 := ⟨_, rfl⟩
    rw [hW0] at HBW KX ⊢
    clear hW0
    go_wp2_with (first | (go_at_call 14; (with_reducible refine Calls.mono (CK.out _) ?_); rintro e1 w1 ⟨rfl, hb9⟩; replace HBW := Lib.hid (HBW.out.trans hb9); replace KX := Lib.hid (KX.out.bw hb9); clear hb9) | ((with_reducible refine at_load 25 (.tmp 2) ?_); refine wpList_load_row rfl 25 _ rfl w.heap.size rfl 25 _ (0, 0) _ KX.out Try.underlying25 rfl (by kernel_rfl) ?_))
    refine bodyPost_ret (v := .tuple #[.slice none 0 0, .int .i64 2]) ?_ rfl ⟨⟨_, [], rfl, OwFr.nil _ _, rfl⟩, HBW.out⟩
    simp [results, Try.results12, go_sem]
theorem RFrames_ok (x : Nat → Int) (tow : Int) (w : World) (h : errE x = 0) (hr : 0 ≤ tow ∧ tow < 131072) : Calls Try.prog 12 #[.agg (eV x), .int .i64 tow] w fun e w' => FrsP w.heap.size ((List.range 3).map (frK x tow)) 0 e w' ∧ Bw w w' := by
  have CK := Lib.hid (fun W => rCheck26_any x W)
  have HBW := Lib.hid (Bw.alloc (Bw.refl w) (.cells (eV x) 25))
  have KX := Lib.hid (Blk.new w 25 (eV x))
  have PK := Lib.hid (fun k hk => packedE h k hk)
  rw [h] at CK
  have NM := Lib.hid (fun k hk W => rnum_rows x k hk W)
  have hq1 : ¬ tow < 0 := by omega
  have hq2 : ¬ 131071 < tow := by omega
  go_enter Try.func12, Try.ntmps12
  go_upto_region 1 with fail
  obtain ⟨W0, hW0⟩ : ∃ W0, w.alloc (.cells (eV x) 25) = W0 := ⟨_, rfl⟩
  rw [hW0] at HBW KX ⊢
  clear hW0
  go_wp2_with (first | (go_at_call 14; (with_reducible refine Calls.mono (CK.out _) ?_); rintro e1 w1 ⟨rfl, hb9⟩; replace HBW := Lib.hid (HBW.out.trans hb9); replace KX := Lib.hid (KX.out.bw hb9); clear hb9) | ((with_reducible refine at_load 25 (.tmp 2) ?_); refine wpList_load_row rfl 25 _ rfl w.heap.size rfl 25 _ (0, 0) _ KX.out Try.underlying25 rfl (by kernel_rfl) ?_))
  obtain ⟨BB, hBB⟩ : ∃ BB, w1.heap.size = BB := ⟨_, rfl⟩
  have HB := Lib.hid hBB
  have HB2 := Lib.hid (show w.heap.size < BB by have := KX.out.lt; omega)
  clear hBB
  go_loopg [7, 8] 3 (fun gg s7 s8 wr => ∃ k : Nat, k ≤ 3 ∧ 3 - k ≤ gg ∧ s8 = .int .i64 ((k : Int) + 1) ∧ Hid (Bw w1 wr) ∧ ∃ fs, Hid (OwFr wr BB s7 fs) ∧ Hid (fs.map (fun f => (f.t, f.k, f.l)) = (List.range k).map (frK x tow)))
  case atStart => exact ⟨0, by omega, by omega, rfl, Lib.hid (Bw.refl _), [], Lib.hid (OwFr.nil _ _), Lib.hid rfl⟩
  case round =>
    obtain ⟨k, hk, hgg, rfl, HW, fs, OF, HS⟩ := hrel
    obtain ⟨wa, rfl⟩ : ∃ wa, wa = wr := ⟨_, rfl⟩
    have HFL := Lib.hid (show fs.length = k by have h9 := congrArg List.length HS.out; simpa using h9)
    by_cases hlt : k < 3
    · have hkz : (k : Int) + 1 ≤ 3 := by omega
      have NMK := Lib.hid (fun W => NM.out k hlt W)
      obtain ⟨p1, _, _, p4, p5, _⟩ := PK.out k hlt
      have HL := Lib.hid p1
      have HA0 : atN k 0 = 0 := rfl
      have HAN := Lib.hid (show ∀ i, i < (LS k).length → (1 ≤ nN k i ∧ nN k i ≤ 32 ∧ atN k i + nN k i ≤ 206 ∧ atN k (i + 1) = atN k i + nN k i) from fun i hi => by have h9 := ls_facts k hlt i hi; exact ⟨h9.1, h9.2.1, h9.2.2.1, h9.2.2.2.1⟩)
      have HGI := Lib.hid (show ∀ i, i < (LS k).length → ∀ j, j < nN k i → (FrE x k).getD (atN k i + j) 0 = x ((LS k).getD i (0, false, 0)).2.2 / 2 ^ (nN k i - 1 - j) % 2 from p4)
      have HZ := Lib.hid (show ∀ q, atN k (LS k).length ≤ q → (FrE x k).getD q 0 = 0 from p5)
      have HN8 := Lib.hid (ls_len k hlt)
      have HFK := Lib.hid (show frK x tow k = ((tow + k) % 131072, (k : Int) + 1, FrE x k) from rfl)
      have HTN := Lib.hid (fun p => take_next (FrE x k) p)
      have HTA := Lib.hid (show (FrE x k).take 206 = FrE x k by rw [← p1]; exact List.take_length)
      have HLT := Lib.hid (show ∀ p, p ≤ 206 → ((FrE x k).take p).length = p from fun p hp => by rw [List.length_take]; omega)
      replace HN8 := Lib.hid (show (LS k).length ≤ 8 ∧ atN k (LS k).length ≤ 206 from ⟨HN8.out.2.2.1, HN8.out.2.2.2⟩)
      clear p1 p4 p5
      obtain ⟨X, hX⟩ : ∃ X : Nat → Int, X = fun i => x ((LS k).getD i (0, false, 0)).2.2 := ⟨_, rfl⟩
      replace HGI := Lib.hid (show ∀ i, i < (LS k).length → ∀ j, j < nN k i → (FrE x k).getD (atN k i + j) 0 = X i / 2 ^ (nN k i - 1 - j) % 2 from fun i hi j hj => by rw [hX]; exact HGI.out i hi j hj)
      rw [← hX] at NMK
      clear hX
      obtain ⟨N, hN⟩ : ∃ N : Nat → Nat, N = nN k := ⟨_, rfl⟩
      rw [← hN] at NMK HAN HGI
      clear hN
      obtain ⟨A, hA⟩ : ∃ A : Nat → Nat, A = atN k := ⟨_, rfl⟩
      rw [← hA] at HA0 HAN HGI HZ HN8
      clear hA
      generalize FrE x k = F at *
      generalize (LS k).length = n at *
      have hn8 := HN8.out.1
      obtain ⟨av, cv, hvv⟩ := own_form2 OF.out.own
      subst hvv
      replace KX := Lib.hid (KX.out.bw HW.out)
      go_wp2_with (first | ((with_reducible refine at_load 25 (.tmp 2) ?_); refine wpList_load_row rfl 25 _ rfl w.heap.size rfl 25 _ (0, 0) _ KX.out Try.underlying25 rfl (by kernel_rfl) ?_) | (go_at_call 32; (with_reducible refine Calls.mono (NMK.out _) ?_); rintro e2 w2 ⟨⟨v1, v2, u, rfl, ⟨b1, o1, c1, rfl, hc1⟩, ⟨b2, o2, c2, rfl, hc2⟩⟩, hb9⟩; have HC1 := Lib.hid hc1; have HC2 := Lib.hid hc2; replace HW := Lib.hid (HW.out.trans hb9); replace OF := Lib.hid (OF.out.bw hb9); replace KX := Lib.hid (KX.out.bw hb9); clear hc1 hc2 hb9))
      obtain ⟨VB, hVB⟩ : ∃ VB, w2.heap.size = VB := ⟨_, rfl⟩
      have HVB := Lib.hid hVB
      have HVB2 := Lib.hid (show BB ≤ VB by have := HW.out.size; have := HB.out; omega)
      clear hVB
      go_loopg [12, 13] n (fun gg s12 s13 wr => ∃ i : Nat, i ≤ n ∧ n - i ≤ gg ∧ s13 = .int .i64 i ∧ Hid (Bw w2 wr) ∧ Hid (wr.ownsRow VB 3 1 s12 (F.take (A i)).length ((F.take (A i)).map (Value.int .i64))))
      case atStart => exact ⟨0, by omega, by omega, rfl, Lib.hid (Bw.refl _), Lib.hid (by rw [HA0]; exact World.ownsRow_nil _ _ _ _)⟩
      case round =>
        obtain ⟨i, hi, hgg2, rfl, HX, O1⟩ := hrel
        obtain ⟨wb, rfl⟩ : ∃ wb, wb = wr := ⟨_, rfl⟩
        by_cases hil : i < n
        · have hiz : (i : Int) < n := by omega
          have hi0 : (0 : Int) ≤ i := by omega
          have HANI := Lib.hid (HAN.out i hil)
          have HGII := Lib.hid (HGI.out i hil)
          have k1 := HX.out.cell' (HC1.out i hil)
          have k2 := HX.out.cell' (HC2.out i hil)
          generalize hXz : X i = z at k1 HGII
          generalize N i = M at k2 HANI HGII
          have hM := And.intro HANI.out.1 HANI.out.2.1
          generalize hAi : A i = Ai at *
          go_wp2
          go_loopg [12, 14] 32 (fun gg s12 s14 wr => ∃ r : Nat, r ≤ M ∧ r ≤ gg ∧ s14 = .int .i64 ((r : Int) - 1) ∧ Hid (Bw w2 wr) ∧ Hid (wr.ownsRow VB 3 1 s12 (F.take (Ai + (M - r))).length ((F.take (Ai + (M - r))).map (Value.int .i64))))
          case atStart => exact ⟨M, Nat.le_refl _, HANI.out.2.1, rfl, HX, Lib.hid (by rw [Nat.sub_self, Nat.add_zero]; exact O1.out)⟩
          case round =>
            clear HX O1
            obtain ⟨r, hr9, hgg3, rfl, HX, O1⟩ := hrel
            obtain ⟨wx, rfl⟩ : ∃ wx, wx = wr := ⟨_, rfl⟩
            by_cases hr0 : r = 0
            · subst hr0
              have hneg : ¬ (0 : Int) ≤ ((0 : Nat) : Int) - 1 := by omega
              go_wp2
              go_roundg (n - (i + 1))
              case measure => omega
              case rel => exact ⟨i + 1, by omega, by omega, by go_num, HX, Lib.hid (by rw [show A (i + 1) = Ai + (M - 0) from HANI.out.2.2.2]; exact O1.out)⟩
            · obtain ⟨m, rfl⟩ : ∃ m, r = m + 1 := ⟨r - 1, by omega⟩
              have hmz : ((m + 1 : Nat) : Int) - 1 = (m : Int) := by omega
              rw [hmz]
              clear hmz
              have hm0 : (0 : Int) ≤ m := by omega
              have hm64 : m < 64 := by omega
              have hA1 := and1 (z / 2 ^ m)
              have d1 := HX.out.cell' (HC1.out i hil)
              have hXi : X i = z := by assumption
              rw [hXi] at d1
              clear hXi
              have HT := Lib.hid (show F.take (Ai + (M - m)) = F.take (Ai + (M - (m + 1))) ++ [z / 2 ^ m % 2] by
                have h9 := HGII.out (M - (m + 1)) (by omega)
                rw [show M - 1 - (M - (m + 1)) = m by omega] at h9
                rw [show Ai + (M - m) = Ai + (M - (m + 1)) + 1 by omega, HTN.out _ (by have := HL.out; have := HANI.out; omega), h9])
              have HLN := Lib.hid (HLT.out (Ai + (M - (m + 1))) (by have := HANI.out; omega))
              have HLN2 := Lib.hid (HANI.out.2.2.1)
              generalize F.take (Ai + (M - (m + 1))) = l1 at O1 HT HLN
              go_wp2_with (at_builtin; have hba := Bw.alloc (Bw.refl wx) (.cells #[.int .i64 (z / 2 ^ m % 2)] 3); replace O1 := Lib.hid (own_bw O1.out hba); replace HX := Lib.hid (HX.out.trans hba); clear hba; refine wpList_append_int1 rfl (.tmp 52) (.tmp 61) _ rfl VB 3 Try.underlying40 infoInt _ l1 (z / 2 ^ m % 2) rfl O1.out _ rfl (by simp [go_sem]) (by have := HLN.out; have := HLN2.out; omega) (by have := HX.out.size; have := HVB.out; simp only [World.size_alloc] at *; omega) ?_; intro v8 w8 hown hgr; replace HX := Lib.hid (bw_grownN HVB.out HX.out O1.out hgr); replace O1 := Lib.hid hown; clear hown hgr)
              go_roundg m
              case measure => omega
              case rel => exact ⟨m, by omega, by omega, by go_num, HX, Lib.hid (by rw [HT.out]; exact O1.out)⟩
        · obtain rfl : i = n := by omega
          have hiz : ¬ (i : Int) < i := by omega
          go_wp2
          go_loopg [12] 206 (fun gg s12 wr => ∃ p : Nat, A i ≤ p ∧ p ≤ 206 ∧ 206 - p ≤ gg ∧ Hid (Bw w2 wr) ∧ Hid (wr.ownsRow VB 3 1 s12 (F.take p).length ((F.take p).map (Value.int .i64))))
          case atStart => exact ⟨A i, by omega, HN8.out.2, by omega, HX, O1⟩
          case round =>
            clear HX O1
            obtain ⟨p, hp1, hp2, hgg3, HX, O1⟩ := hrel
            obtain ⟨wx, rfl⟩ : ∃ wx, wx = wr := ⟨_, rfl⟩
            have hlp := HLT.out p hp2
            obtain ⟨a8, c8, hv8⟩ := own_form2 O1.out
            subst hv8
            by_cases hp9 : p < 206
            · have hpz : ((F.take p).length : Int) < 206 := by omega
              have HT := Lib.hid (show F.take (p + 1) = F.take p ++ [0] by rw [HTN.out p (by have := HL.out; omega), HZ.out p hp1])
              have HLN := Lib.hid hlp
              clear hlp
              generalize F.take p = l1 at O1 HT HLN hpz
              go_wp2_with (at_builtin; have hba := Bw.alloc (Bw.refl wx) (.cells #[.int .i64 0] 3); replace O1 := Lib.hid (own_bw O1.out hba); replace HX := Lib.hid (HX.out.trans hba); clear hba; refine wpList_append_int1 rfl (.tmp 66) (.tmp 67) _ rfl VB 3 Try.underlying40 infoInt _ l1 0 rfl O1.out _ rfl (by simp [go_sem]) (by have := HLN.out; omega) (by have := HX.out.size; have := HVB.out; simp only [World.size_alloc] at *; omega) ?_; intro v8 w8 hown hgr; replace HX := Lib.hid (bw_grownN HVB.out HX.out O1.out hgr); replace O1 := Lib.hid hown; clear hown hgr)
              go_roundg (206 - (p + 1))
              case measure => omega
              case rel => exact ⟨p + 1, by omega, by omega, by omega, HX, Lib.hid (by rw [HT.out]; exact O1.out)⟩
            · obtain rfl : p = 206 := by omega
              have hpz : ¬ ((F.take 206).length : Int) < 206 := by omega
              rw [HTA.out] at O1 hpz ⊢
              clear hlp
              have HRV := Lib.hid (own_rd O1.out (by have := HL.out; omega))
              have HCV := Lib.hid (own_capd O1.out)
              have HOB := Lib.hid O1.out.lt
              replace HW := Lib.hid (HW.out.trans HX.out)
              have HSO := Lib.hid OF.out.own.lt
              replace OF := Lib.hid (OF.out.bw HX.out)
              replace KX := Lib.hid (KX.out.bw HX.out)
              have HSX := Lib.hid HX.out.size
              clear HX O1
              have htm : (tow + ((k : Int) + 1) - 1).tmod 131072 = (tow + k) % 131072 := by rw [show tow + ((k : Int) + 1) - 1 = tow + k by omega]; exact Int.tmod_eq_emod_of_nonneg (by omega)
              have HBL := Lib.hid (show ∀ b, (Value.slice a8 F.length c8).ownBlock = some b → b < wx.heap.size from fun b e => (HOB.out b e).2)
              have HAP := Lib.hid (show ∀ b, (Value.slice a8 F.length c8).ownBlock = some b → (Value.slice av fs.length cv).ownBlock ≠ some b from fun b e e' => by have h1 := HRV.out.2 b e; have h2 := (HSO.out b e').2; have := HVB.out; omega)
              go_wp2_with (at_builtin; have hba := Bw.alloc (Bw.refl wx) (.cells #[.int .i64 ((tow + k) % 131072), .int .i64 ((k : Int) + 1), .slice a8 F.length c8] 47); have NB := Lib.hid (Blk.new wx 47 #[.int .i64 ((tow + k) % 131072), .int .i64 ((k : Int) + 1), .slice a8 F.length c8]); replace OF := Lib.hid (OF.out.bw hba); replace HW := Lib.hid (HW.out.trans hba); replace KX := Lib.hid (KX.out.bw hba); have HRD := Lib.hid (HRV.out.1.mono hba); refine wpList_append_fr rfl (.tmp 69) (.tmp 78) _ rfl BB Try.underlying29 _ fs ⟨(tow + k) % 131072, (k : Int) + 1, .slice a8 F.length c8, F⟩ rfl OF.out _ 47 rfl NB.out HRD.out HCV.out (HRV.out.2.mono HVB2.out) (fun b e => ⟨HAP.out b e, by have h1 := HBL.out b e; simp only [World.size_alloc]; omega⟩) (by have := HFL.out; omega) (by have := HW.out.size; have := HB.out; simp only [World.size_alloc] at *; omega) ?_; intro v8 w8 hown hgr; replace HW := Lib.hid (bw_grownP HB.out HW.out OF.out.own hgr); replace OF := Lib.hid hown; clear hown hgr hba NB)
              go_roundg (3 - (k + 1))
              case measure => omega
              case rel => exact ⟨k + 1, by omega, by omega, by go_num, HW, _, OF, Lib.hid (by rw [List.map_append, HS.out, List.range_succ, List.map_append]; simp only [List.map_cons, List.map_nil]; rw [HFK.out])⟩
    · obtain rfl : k = 3 := by omega
      have hkz : ¬ ((3 : Nat) : Int) + 1 ≤ 3 := by omega
      obtain ⟨av, cv, hvv⟩ := own_form2 OF.out.own
      subst hvv
      go_wp2
      refine bodyPost_ret (v := .tuple #[.slice av fs.length cv, .int .i64 0]) ?_ rfl ⟨⟨_, fs, rfl, ?_, HS.out⟩, HBW.out.trans HW.out⟩
      · simp [results, Try.results12, go_sem]
      · exact ⟨own_down OF.out.own (Nat.le_of_lt HB2.out), fun f hf => ⟨(OF.out.rd f hf).1, (OF.out.rd f hf).2.1, (OF.out.rd f hf).2.2.1.mono (Nat.le_of_lt HB2.out), (OF.out.rd f hf).2.2.2⟩⟩
end Go.Proofs.Sky

namespace Go.Proofs.Sky
open Go Go.RowKit Go.Shelf
set_option maxHeartbeats 4000000
set_option maxRecDepth 100000
theorem plE_ok : errE (plE 7) = 0 := by decide
theorem plE_fits : fitE (plE 7) 7301 = false ∧ errFt (plE 7) 7301 = 0 := by decide
def pF (d : Value) (k : Nat) : Fr := ⟨(131071 + k) % 131072, (k : Int) + 1, d, FrE (plE 7) k⟩
theorem read_pl2 (a b c : Value) : (readR [pF a 2, pF b 0, pF c 1]).2 = 0 := by kernel_rfl
theorem read_pl1 (a b c : Value) : eV (readR [pF a 2, pF b 0, pF c 1]).1 = eV (plE 7) := by kernel_rfl
theorem own_base {w : World} {b b' k n : Nat} {T : TypeId} {v : Value} {cs : List Value} (h : w.ownsRow b T k v n cs) (hb : b' ≤ b) : w.ownsRow b' T k v n cs := by
  refine ⟨h.1, ?_⟩
  rcases h.2 with h9 | ⟨g, cap, cur, e, hg, r⟩
  · exact .inl h9
  · exact .inr ⟨g, cap, cur, e, Nat.le_trans hb hg, r⟩
theorem frames_any (x : Nat → Int) (tow : Int) (w : World) (h : errE x = 0) (hr : 0 ≤ tow ∧ tow < 131072) : Calls Try.prog 25 #[.agg (eV x), .int .i64 tow] w fun e w' => (∃ v fs, e = .returned (.tuple #[v, .bool true]) ∧ OwFr w' w.heap.size v fs ∧ fs.map (fun f => (f.t, f.k, f.l)) = (List.range 3).map (frK x tow)) ∧ Bw w w' := by
  have FR := Lib.hid (fun W => Frames_ok x tow W h hr)
  unfold FrsP at FR
  have HBW := Lib.hid (Bw.alloc (Bw.refl w) (.cells (eV x) 25))
  have KX := Lib.hid (Blk.new w 25 (eV x))
  have HL : Hid (w.heap.size ≤ (w.alloc (.cells (eV x) 25)).heap.size) := Lib.hid (Bw.size HBW.out)
  generalize hS : (List.range 3).map (frK x tow) = S at *
  have HSL := Lib.hid (show S.length = 3 by rw [← hS]; simp)
  clear hS h
  go_enter Try.func25, Try.ntmps25
  go_upto_region 1 with fail
  obtain ⟨W0, hW0⟩ : ∃ W0, w.alloc (.cells (eV x) 25) = W0 := ⟨_, rfl⟩
  rw [hW0] at HBW KX HL ⊢
  clear hW0
  go_upto_region 2 with (first | ((with_reducible refine at_load 25 (.tmp 2) ?_); refine wpList_load_row rfl 25 _ rfl w.heap.size rfl 25 _ (0, 0) _ KX.out Try.underlying25 rfl (by kernel_rfl) ?_) | (go_at_call 11; (with_reducible refine Calls.mono (FR.out _) ?_); rintro e1 w1 ⟨⟨v, fs, rfl, hO, hM⟩, hb9⟩; have HO := Lib.hid hO; have HM := Lib.hid hM; clear hO hM; replace HBW := Lib.hid (HBW.out.trans hb9); clear hb9))
  have h3 : fs.length = 3 := by have h9 := congrArg List.length HM.out; rw [List.length_map, HSL.out] at h9; exact h9
  obtain ⟨a, c, rfl⟩ := (HO.out.rdFr (by omega)).1.form
  obtain ⟨n, hn⟩ : ∃ n, n = fs.length := ⟨_, rfl⟩
  rw [← hn] at HO h3 ⊢
  subst h3
  clear hn
  go_wp2
  refine bodyPost_ret (v := .tuple #[.slice a 3 c, .bool true]) ?_ rfl ⟨⟨_, fs, rfl, ?_, HM.out⟩, HBW.out⟩
  · simp [results, Try.results25, go_sem]
  · have h9 := HO.out
    exact ⟨own_base h9.own HL.out, fun f hf => ⟨(h9.rd f hf).1, (h9.rd f hf).2.1, Fresh.mono (h9.rd f hf).2.2.1 HL.out, (h9.rd f hf).2.2.2⟩⟩
end Go.Proofs.Sky
