/-
  lemmas for the theorems of this claim. No conditions beyond those written in the statements.
-/
import Derived.Test.YtgeojbmhkmmedaaDoorBA28
import Derived.Test.YtgeojbmhkmmedaaDoorH28
import Derived.Deep.Cut
set_option linter.unusedVariables false
set_option linter.unusedSimpArgs false
set_option linter.unnecessarySimpa false
namespace Go.Proofs.Sky
open Go Go.RowKit Go.Shelf
set_option maxHeartbeats 4000000
set_option maxRecDepth 8000
/-! the almanac: the reference's Check -/
theorem rwithin27_any (n b : Int) (hb : b = 12 ∨ b = 14 ∨ b = 20) (w : World) : Calls Tryd.prog 53 #[.int .i64 n, .int .i64 b] w fun e w' => e = .returned (.bool (okZ b n)) ∧ Bw w w' := by
  obtain ⟨O, hO⟩ : ∃ O, O = okZ b n := ⟨_, rfl⟩
  rw [← hO]
  rcases hb with rfl | rfl | rfl
  · have HO := Lib.hid (hO.trans (show okZ 12 n = decide (-2048 ≤ n ∧ n < 2048) from decide_eq_decide.2 (by rw [show lowR 12 true = -2048 from by decide, show highR 12 true = 2047 from by decide]; omega)))
    clear hO
    by_cases q1 : n < -2048
    · have q1b : decide (-2048 ≤ n) = false := decide_eq_false (by omega)
      have HG := Lib.hid (HO.out.trans (decide_eq_false (by omega)))
      go_enter Tryd.func53, Tryd.ntmps53
      go_wp2
      go_ret
      exact ⟨ret_bool HG.out.symm, Bw.refl _⟩
    · have q1b : decide (-2048 ≤ n) = true := decide_eq_true (by omega)
      have HG := Lib.hid (HO.out.trans (show _ = decide (n < 2048) from decide_eq_decide.2 (by omega)))
      go_enter Tryd.func53, Tryd.ntmps53
      go_wp2
      go_ret
      exact ⟨ret_bool HG.out.symm, Bw.refl _⟩
  · have HO := Lib.hid (hO.trans (show okZ 14 n = decide (-8192 ≤ n ∧ n < 8192) from decide_eq_decide.2 (by rw [show lowR 14 true = -8192 from by decide, show highR 14 true = 8191 from by decide]; omega)))
    clear hO
    by_cases q1 : n < -8192
    · have q1b : decide (-8192 ≤ n) = false := decide_eq_false (by omega)
      have HG := Lib.hid (HO.out.trans (decide_eq_false (by omega)))
      go_enter Tryd.func53, Tryd.ntmps53
      go_wp2
      go_ret
      exact ⟨ret_bool HG.out.symm, Bw.refl _⟩
    · have q1b : decide (-8192 ≤ n) = true := decide_eq_true (by omega)
      have HG := Lib.hid (HO.out.trans (show _ = decide (n < 8192) from decide_eq_decide.2 (by omega)))
      go_enter Tryd.func53, Tryd.ntmps53
      go_wp2
      go_ret
      exact ⟨ret_bool HG.out.symm, Bw.refl _⟩
  · have HO := Lib.hid (hO.trans (show okZ 20 n = decide (-524288 ≤ n ∧ n < 524288) from decide_eq_decide.2 (by rw [show lowR 20 true = -524288 from by decide, show highR 20 true = 524287 from by decide]; omega)))
    clear hO
    by_cases q1 : n < -524288
    · have q1b : decide (-524288 ≤ n) = false := decide_eq_false (by omega)
      have HG := Lib.hid (HO.out.trans (decide_eq_false (by omega)))
      go_enter Tryd.func53, Tryd.ntmps53
      go_wp2
      go_ret
      exact ⟨ret_bool HG.out.symm, Bw.refl _⟩
    · have q1b : decide (-524288 ≤ n) = true := decide_eq_true (by omega)
      have HG := Lib.hid (HO.out.trans (show _ = decide (n < 524288) from decide_eq_decide.2 (by omega)))
      go_enter Tryd.func53, Tryd.ntmps53
      go_wp2
      go_ret
      exact ⟨ret_bool HG.out.symm, Bw.refl _⟩
def pgB (i : Nat) : Int := if i = 0 then 20 else if i = 1 then 14 else 12
theorem pgB_ok (i : Nat) : pgB i = 12 ∨ pgB i = 14 ∨ pgB i = 20 := by unfold pgB; split; · simp
                                                                      split <;> simp
def hdP (x : Nat → Int) : Prop := 1 ≤ x 0 ∧ x 0 ≤ 63 ∧ 0 ≤ x 1 ∧ x 1 ≤ 604799 ∧ 0 ≤ x 2 ∧ x 2 ≤ 65535 ∧ 0 ≤ x 3 ∧ x 3 ≤ 1048575
theorem inPg_eq (x : Nat → Int) : inPg x = (okT x (6, false, 0) && (okT x (20, false, 1) && (okT x (16, false, 2) && (okT x (20, false, 3) && (okZ 20 (x 4) && (okZ 14 (x 5) && (okZ 12 (x 6) && (okZ 20 (x 7) && (okZ 14 (x 8) && (okZ 12 (x 9) && (okZ 20 (x 10) && (okZ 14 (x 11) && (okZ 12 (x 12) && true))))))))))))) := rfl
theorem errPg_iff (x : Nat → Int) : errPg x = 0 ↔ hdP x ∧ ∀ i, i < 3 → okZ (pgB i) (x (4 + i)) = true ∧ okZ (pgB i) (x (7 + i)) = true ∧ okZ (pgB i) (x (10 + i)) = true := by
  have u6 : okT x (6, false, 0) = decide (0 ≤ x 0 ∧ x 0 ≤ 63) := okT_un (by decide)
  have u20 : ∀ j, okT x (20, false, j) = decide (0 ≤ x j ∧ x j ≤ 1048575) := fun j => okT_un (by decide)
  have u16 : okT x (16, false, 2) = decide (0 ≤ x 2 ∧ x 2 ≤ 65535) := okT_un (by decide)
  have e0 : errPg x = 0 ↔ (inPg x = true ∧ 1 ≤ x 0 ∧ x 1 < 604800) := by unfold errPg; split <;> simp_all
  rw [e0, inPg_eq, u6, u20, u20, u16]
  simp only [Bool.and_eq_true, decide_eq_true_eq]
  constructor
  · rintro ⟨⟨a0, a1, a2, a3, b0, b1, b2, b3, b4, b5, b6, b7, b8, _⟩, h1, h2⟩
    refine ⟨by unfold hdP; omega, fun i hi => ?_⟩
    match i, hi with
    | 0, _ => exact ⟨b0, b3, b6⟩
    | 1, _ => exact ⟨b1, b4, b7⟩
    | 2, _ => exact ⟨b2, b5, b8⟩
  · rintro ⟨h, h3⟩
    unfold hdP at h
    obtain ⟨b0, b3, b6⟩ := h3 0 (by omega)
    obtain ⟨b1, b4, b7⟩ := h3 1 (by omega)
    obtain ⟨b2, b5, b8⟩ := h3 2 (by omega)
    exact ⟨⟨by omega, by omega, by omega, by omega, b0, b1, b2, b3, b4, b5, b6, b7, b8, trivial⟩, by omega, by omega⟩
theorem errPg_two (x : Nat → Int) : errPg x = 0 ∨ errPg x = 2 := by unfold errPg; split <;> simp
theorem errPg_hd {x : Nat → Int} (h : ¬ hdP x) : errPg x = 2 := (errPg_two x).resolve_left (fun e => h ((errPg_iff x).1 e).1)
theorem errPg_ax {x : Nat → Int} {i : Nat} (hi : i < 3) (h : okZ (pgB i) (x (4 + i)) = false ∨ okZ (pgB i) (x (7 + i)) = false ∨ okZ (pgB i) (x (10 + i)) = false) : errPg x = 2 := by
  refine (errPg_two x).resolve_left (fun e => ?_)
  have h9 := ((errPg_iff x).1 e).2 i hi
  rw [h9.1, h9.2.1, h9.2.2] at h
  simp at h
theorem errPg_yes {x : Nat → Int} (h : hdP x) (h3 : ∀ i, i < 3 → okZ (pgB i) (x (4 + i)) = true ∧ okZ (pgB i) (x (7 + i)) = true ∧ okZ (pgB i) (x (10 + i)) = true) : errPg x = 0 := (errPg_iff x).2 ⟨h, h3⟩
theorem rPgCheck_any (x : Nat → Int) (w : World) : Calls Tryd.prog 33 #[.agg (pgV x)] w fun e w' => e = .returned (.int .i64 (errPg x)) ∧ Bw w w' := by
  have HBW := Lib.hid (Bw.alloc (Bw.refl w) (.cells (pgV x) 32))
  have KX := Lib.hid (Blk.new w 32 (pgV x))
  have HD := Lib.hid (fun h => errPg_hd (x := x) h)
  have HAX := Lib.hid (fun i h h2 => errPg_ax (x := x) (i := i) h h2)
  have HYES := Lib.hid (fun h h3 => errPg_yes (x := x) h h3)
  have RW := Lib.hid (fun n b hb W => rwithin27_any n b hb W)
  generalize errPg x = E at HD HAX HYES ⊢
  go_enter Tryd.func33, Tryd.ntmps33
  go_upto_region 1 with fail
  obtain ⟨W0, hW0⟩ : ∃ W0, w.alloc (.cells (pgV x) 32) = W0 := ⟨_, rfl⟩
  rw [hW0] at HBW KX ⊢
  clear hW0
  have c0 : W0.cell? ⟨w.heap.size, 0, none⟩ = some (.int .i64 (x 0)) := KX.out.cell (pgV_at x 0 (by omega))
  have c1 : W0.cell? ⟨w.heap.size, 1, none⟩ = some (.int .i64 (x 1)) := KX.out.cell (pgV_at x 1 (by omega))
  have c2 : W0.cell? ⟨w.heap.size, 2, none⟩ = some (.int .i64 (x 2)) := KX.out.cell (pgV_at x 2 (by omega))
  have c3 : W0.cell? ⟨w.heap.size, 3, none⟩ = some (.int .i64 (x 3)) := KX.out.cell (pgV_at x 3 (by omega))
  by_cases q0 : x 0 < 1
  case pos =>
    have HG := Lib.hid (HD.out (fun h => by unfold hdP at h; omega))
    go_wp2
    go_ret
    exact ⟨ret_int HG.out.symm, HBW.out⟩
  by_cases q1 : 63 < x 0
  case pos =>
    have HG := Lib.hid (HD.out (fun h => by unfold hdP at h; omega))
    go_wp2
    go_ret
    exact ⟨ret_int HG.out.symm, HBW.out⟩
  by_cases q2 : x 1 < 0
  case pos =>
    have HG := Lib.hid (HD.out (fun h => by unfold hdP at h; omega))
    go_wp2
    go_ret
    exact ⟨ret_int HG.out.symm, HBW.out⟩
  by_cases q3 : 604800 ≤ x 1
  case pos =>
    have HG := Lib.hid (HD.out (fun h => by unfold hdP at h; omega))
    go_wp2
    go_ret
    exact ⟨ret_int HG.out.symm, HBW.out⟩
  by_cases q4 : x 2 < 0
  case pos =>
    have HG := Lib.hid (HD.out (fun h => by unfold hdP at h; omega))
    go_wp2
    go_ret
    exact ⟨ret_int HG.out.symm, HBW.out⟩
  by_cases q5 : 65535 < x 2
  case pos =>
    have HG := Lib.hid (HD.out (fun h => by unfold hdP at h; omega))
    go_wp2
    go_ret
    exact ⟨ret_int HG.out.symm, HBW.out⟩
  by_cases q6 : x 3 < 0
  case pos =>
    have HG := Lib.hid (HD.out (fun h => by unfold hdP at h; omega))
    go_wp2
    go_ret
    exact ⟨ret_int HG.out.symm, HBW.out⟩
  by_cases q7 : 1048575 < x 3
  case pos =>
    have HG := Lib.hid (HD.out (fun h => by unfold hdP at h; omega))
    go_wp2
    go_ret
    exact ⟨ret_int HG.out.symm, HBW.out⟩
  have HH := Lib.hid (show hdP x by unfold hdP; omega)
  go_upto_region 3 with fail
  clear c0 c1 c2 c3 q0 q1 q2 q3 q4 q5 q6 q7
  have L1 := RdI.litN W0 #[.int .i64 20, .int .i64 14, .int .i64 12] 3 [20, 14, 12] W0.heap.size rfl (by rfl) (by simp)
  obtain ⟨B1, hB1⟩ : ∃ B1, W0.heap.size = B1 := ⟨_, rfl⟩
  have HB1 := Lib.hid hB1
  have KY := Lib.hid (KX.out.alloc (.cells #[.int .i64 20, .int .i64 14, .int .i64 12] 3))
  have HBY := Lib.hid (Bw.alloc HBW.out (.cells #[.int .i64 20, .int .i64 14, .int .i64 12] 3))
  go_upto_region 4 with fail
  rw [hB1] at L1
  obtain ⟨W1, hW1⟩ : ∃ W1, W0.alloc (.cells #[.int .i64 20, .int .i64 14, .int .i64 12] 3) = W1 := ⟨_, rfl⟩
  rw [hW1] at KY HBY L1 ⊢
  clear hW1 hB1 KX HBW
  have HL2 := Lib.hid (show ∀ i, i < 3 → W1.cell? ⟨B1, i, none⟩ = some (.int .i64 (pgB i)) from fun i hi => by
    obtain ⟨b, o, c, hv, _, hc⟩ := L1.at (by decide)
    injection hv with a1 a2 a3
    injection a1 with a1
    injection a1 with a1 a4 a5
    subst a1 a4
    have h9 := hc i hi
    rw [Nat.zero_add] at h9
    match i, hi with
    | 0, _ => exact h9
    | 1, _ => exact h9
    | 2, _ => exact h9)
  clear L1
  go_wp2
  go_loopg [4] 3 (fun gg s6 wr => ∃ i : Nat, i ≤ 3 ∧ 3 - i ≤ gg ∧ s6 = .int .i64 i ∧ Hid (Bw W1 wr) ∧ Hid (∀ j, j < i → okZ (pgB j) (x (4 + j)) = true ∧ okZ (pgB j) (x (7 + j)) = true ∧ okZ (pgB j) (x (10 + j)) = true))
  case atStart => exact ⟨0, by omega, by omega, rfl, Lib.hid (Bw.refl _), Lib.hid (fun j h => absurd h (by omega))⟩
  case round =>
    obtain ⟨i, hi, hgg, rfl, HW, HI⟩ := hrel
    obtain ⟨wb, rfl⟩ : ∃ wb, wb = wr := ⟨_, rfl⟩
    by_cases hlt : i < 3
    · have hiz : (i : Int) < 3 := by omega
      have hi0 : (0 : Int) ≤ i := by omega
      have cx := (KY.out.bw HW.out).cell (pgV_at x (4 + i) (by omega))
      have cy := (KY.out.bw HW.out).cell (pgV_at x (7 + i) (by omega))
      have cz := (KY.out.bw HW.out).cell (pgV_at x (10 + i) (by omega))
      have cb := HW.out.cell' (HL2.out i hlt)
      have RX := Lib.hid (fun W => RW.out (x (4 + i)) (pgB i) (pgB_ok i) W)
      have RY := Lib.hid (fun W => RW.out (x (7 + i)) (pgB i) (pgB_ok i) W)
      have RZ := Lib.hid (fun W => RW.out (x (10 + i)) (pgB i) (pgB_ok i) W)
      have HCI := Lib.hid (HAX.out i hlt)
      have HIN := Lib.hid (fun h => (fun j (hj : j < i + 1) => (by
        rcases Nat.lt_succ_iff_lt_or_eq.1 hj with h9 | rfl
        · exact HI.out j h9
        · exact h) : ∀ j, j < i + 1 → okZ (pgB j) (x (4 + j)) = true ∧ okZ (pgB j) (x (7 + j)) = true ∧ okZ (pgB j) (x (10 + j)) = true))
      generalize okZ (pgB i) (x (4 + i)) = K1 at RX HCI HIN
      generalize okZ (pgB i) (x (7 + i)) = K2 at RY HCI HIN
      generalize okZ (pgB i) (x (10 + i)) = K3 at RZ HCI HIN
      generalize pgB i = bz at cb RX RY RZ
      generalize x (4 + i) = zx at cx RX
      generalize x (7 + i) = zy at cy RY
      generalize x (10 + i) = zz at cz RZ
      go_upto_region 7 with fail
      have e1 := fun p' : Ext wb => Ext.cell' cx p'
      have e2 := fun p' : Ext wb => Ext.cell' cy p'
      have e3 := fun p' : Ext wb => Ext.cell' cz p'
      have e4 := fun p' : Ext wb => Ext.cell' cb p'
      clear cx cy cz cb
      cases K1 with
      | false =>
        have HG := Lib.hid (HCI.out (.inl rfl))
        (refine wp_region_quiet_ext (by kernel_rfl) (by kernel_rfl) ?_; (repeat (go_big_quiet_step (((go_at_call 53; exact Calls.ext_of (RX.out _)))))); refine wpQuiet_nil ?_; rintro wq ⟨⟨_, hbq⟩, rfl⟩; obtain ⟨hccq, hffq⟩ := Bw.cells hbq; have hszq := Bw.size hbq)
        replace HW := Lib.hid (HW.out.trans hbq)
        clear e1 e2 e3 e4
        go_wp2
        go_ret
        exact ⟨ret_int HG.out.symm, HBY.out.trans HW.out⟩
      | true =>
        cases K2 with
        | false =>
          have HG := Lib.hid (HCI.out (.inr (.inl rfl)))
          (refine wp_region_quiet_ext (by kernel_rfl) (by kernel_rfl) ?_; (repeat (go_big_quiet_step (((go_at_call 53; first | with_reducible exact Calls.ext_of (RX.out _) | with_reducible exact Calls.ext_of (RY.out _)))))); refine wpQuiet_nil ?_; rintro wq ⟨⟨_, hbq⟩, rfl⟩; obtain ⟨hccq, hffq⟩ := Bw.cells hbq; have hszq := Bw.size hbq)
          replace HW := Lib.hid (HW.out.trans hbq)
          clear e1 e2 e3 e4
          go_wp2
          go_ret
          exact ⟨ret_int HG.out.symm, HBY.out.trans HW.out⟩
        | true =>
          cases K3 with
          | false =>
            have HG := Lib.hid (HCI.out (.inr (.inr rfl)))
            (refine wp_region_quiet_ext (by kernel_rfl) (by kernel_rfl) ?_; (repeat (go_big_quiet_step (((go_at_call 53; first | with_reducible exact Calls.ext_of (RX.out _) | with_reducible exact Calls.ext_of (RY.out _) | with_reducible exact Calls.ext_of (RZ.out _)))))); refine wpQuiet_nil ?_; rintro wq ⟨⟨_, hbq⟩, rfl⟩; obtain ⟨hccq, hffq⟩ := Bw.cells hbq; have hszq := Bw.size hbq)
            replace HW := Lib.hid (HW.out.trans hbq)
            clear e1 e2 e3 e4
            go_wp2
            go_ret
            exact ⟨ret_int HG.out.symm, HBY.out.trans HW.out⟩
          | true =>
            have HG := Lib.hid (HIN.out ⟨rfl, rfl, rfl⟩)
            (refine wp_region_quiet_ext (by kernel_rfl) (by kernel_rfl) ?_; (repeat (go_big_quiet_step (((go_at_call 53; first | with_reducible exact Calls.ext_of (RX.out _) | with_reducible exact Calls.ext_of (RY.out _) | with_reducible exact Calls.ext_of (RZ.out _)))))); refine wpQuiet_nil ?_; rintro wq ⟨⟨_, hbq⟩, rfl⟩; obtain ⟨hccq, hffq⟩ := Bw.cells hbq; have hszq := Bw.size hbq)
            replace HW := Lib.hid (HW.out.trans hbq)
            clear e1 e2 e3 e4
            go_wp2
            go_roundg (3 - (i + 1))
            case measure => omega
            case rel => exact ⟨i + 1, by omega, by omega, by go_num, HW, HG⟩
    · obtain rfl : i = 3 := by omega
      have HG := Lib.hid (HYES.out HH.out HI.out)
      go_wp2
      go_ret
      exact ⟨ret_int HG.out.symm, HBY.out.trans HW.out⟩
end Go.Proofs.Sky

namespace Go.Proofs.Sky
open Go Go.RowKit Go.Shelf
set_option maxHeartbeats 4000000
set_option maxRecDepth 8000
/-! chapter 26: the reference's Check -/
theorem rCheck26_any (x : Nat → Int) (w : World) : Calls Tryd.prog 27 #[.agg (eV x)] w fun e w' => e = .returned (.int .i64 (errE x)) ∧ Bw w w' := by
  have HBW := Lib.hid (Bw.alloc (Bw.refl w) (.cells (eV x) 25))
  have KX := Lib.hid (Blk.new w 25 (eV x))
  have HD := Lib.hid (fun h => errE_hd (x := x) h)
  have HCL := Lib.hid (fun i h h2 => errE_cl (x := x) (i := i) h h2)
  have HAX := Lib.hid (fun i h h2 => errE_ax (x := x) (i := i) h h2)
  have HYES := Lib.hid (fun h h2 h3 => errE_yes (x := x) h h2 h3)
  have RW := Lib.hid (fun n b hb W => rwithin26_any n b hb W)
  generalize errE x = E at HD HCL HAX HYES ⊢
  go_enter Tryd.func27, Tryd.ntmps27
  go_upto_region 1 with fail
  obtain ⟨W0, hW0⟩ : ∃ W0, w.alloc (.cells (eV x) 25) = W0 := ⟨_, rfl⟩
  rw [hW0] at HBW KX ⊢
  clear hW0
  have c0 : W0.cell? ⟨w.heap.size, 0, none⟩ = some (.int .i64 (x 0)) := KX.out.cell (eV_at x 0 (by omega))
  have c1 : W0.cell? ⟨w.heap.size, 1, none⟩ = some (.int .i64 (x 1)) := KX.out.cell (eV_at x 1 (by omega))
  have c2 : W0.cell? ⟨w.heap.size, 2, none⟩ = some (.int .i64 (x 2)) := KX.out.cell (eV_at x 2 (by omega))
  have c3 : W0.cell? ⟨w.heap.size, 3, none⟩ = some (.int .i64 (x 3)) := KX.out.cell (eV_at x 3 (by omega))
  by_cases q0 : x 0 < 1
  case pos =>
    have HG := Lib.hid (HD.out (fun h => by unfold hdE at h; omega))
    go_wp2
    go_ret
    exact ⟨ret_int HG.out.symm, HBW.out⟩
  by_cases q1 : 63 < x 0
  case pos =>
    have HG := Lib.hid (HD.out (fun h => by unfold hdE at h; omega))
    go_wp2
    go_ret
    exact ⟨ret_int HG.out.symm, HBW.out⟩
  by_cases q2 : x 1 < 0
  case pos =>
    have HG := Lib.hid (HD.out (fun h => by unfold hdE at h; omega))
    go_wp2
    go_ret
    exact ⟨ret_int HG.out.symm, HBW.out⟩
  by_cases q3 : 255 < x 1
  case pos =>
    have HG := Lib.hid (HD.out (fun h => by unfold hdE at h; omega))
    go_wp2
    go_ret
    exact ⟨ret_int HG.out.symm, HBW.out⟩
  by_cases q4 : x 2 < 0
  case pos =>
    have HG := Lib.hid (HD.out (fun h => by unfold hdE at h; omega))
    go_wp2
    go_ret
    exact ⟨ret_int HG.out.symm, HBW.out⟩
  by_cases q5 : 604799 < x 2
  case pos =>
    have HG := Lib.hid (HD.out (fun h => by unfold hdE at h; omega))
    go_wp2
    go_ret
    exact ⟨ret_int HG.out.symm, HBW.out⟩
  by_cases q6 : x 3 < 0
  case pos =>
    have HG := Lib.hid (HD.out (fun h => by unfold hdE at h; omega))
    go_wp2
    go_ret
    exact ⟨ret_int HG.out.symm, HBW.out⟩
  by_cases q7 : 65535 < x 3
  case pos =>
    have HG := Lib.hid (HD.out (fun h => by unfold hdE at h; omega))
    go_wp2
    go_ret
    exact ⟨ret_int HG.out.symm, HBW.out⟩
  have HH := Lib.hid (show hdE x by unfold hdE; omega)
  go_upto_region 3 with fail
  clear c0 c1 c2 c3 q0 q1 q2 q3 q4 q5 q6 q7
  go_upto_region 4 with fail
  have L1 := RdI.litN W0 #[.int .i64 32, .int .i64 24, .int .i64 16] 3 [32, 24, 16] W0.heap.size rfl (by rfl) (by simp)
  have L2 := RdI.litN (W0.alloc (.cells #[.int .i64 32, .int .i64 24, .int .i64 16] 3)) #[.int .i64 32, .int .i64 24, .int .i64 22, .int .i64 24] 3 [32, 24, 22, 24] (W0.heap.size + 1) (by simp [World.size_alloc]) (by rfl) (by simp)
  obtain ⟨B1, hB1⟩ : ∃ B1, W0.heap.size = B1 := ⟨_, rfl⟩
  have HB1 := Lib.hid hB1
  rw [hB1] at L1 L2
  have KY := Lib.hid ((KX.out.alloc (.cells #[.int .i64 32, .int .i64 24, .int .i64 16] 3)).alloc (.cells #[.int .i64 32, .int .i64 24, .int .i64 22, .int .i64 24] 3))
  have HBY := Lib.hid (Bw.alloc (Bw.alloc HBW.out (.cells #[.int .i64 32, .int .i64 24, .int .i64 16] 3)) (.cells #[.int .i64 32, .int .i64 24, .int .i64 22, .int .i64 24] 3))
  replace L1 := L1.mono (Bw.alloc (Bw.refl _) (.cells #[.int .i64 32, .int .i64 24, .int .i64 22, .int .i64 24] 3))
  rw [hB1]
  obtain ⟨W1, hW1⟩ : ∃ W1, (W0.alloc (.cells #[.int .i64 32, .int .i64 24, .int .i64 16] 3)).alloc (.cells #[.int .i64 32, .int .i64 24, .int .i64 22, .int .i64 24] 3) = W1 := ⟨_, rfl⟩
  rw [hW1] at KY HBY L1 L2 ⊢
  clear hW1 hB1 KX HBW
  have HL1 := Lib.hid (show ∀ i, i < 3 → W1.cell? ⟨B1, i, none⟩ = some (.int .i64 (clB i)) from fun i hi => by
    obtain ⟨b, o, c, hv, _, hc⟩ := L1.at (by decide)
    injection hv with a1 a2 a3
    injection a1 with a1
    injection a1 with a1 a4 a5
    subst a1 a4
    have h9 := hc i hi
    rw [Nat.zero_add] at h9
    match i, hi with
    | 0, _ => exact h9
    | 1, _ => exact h9
    | 2, _ => exact h9)
  have HL2 := Lib.hid (show ∀ i, i < 4 → W1.cell? ⟨B1 + 1, i, none⟩ = some (.int .i64 (axB i)) from fun i hi => by
    obtain ⟨b, o, c, hv, _, hc⟩ := L2.at (by decide)
    injection hv with a1 a2 a3
    injection a1 with a1
    injection a1 with a1 a4 a5
    subst a1 a4
    have h9 := hc i hi
    rw [Nat.zero_add] at h9
    match i, hi with
    | 0, _ => exact h9
    | 1, _ => exact h9
    | 2, _ => exact h9
    | 3, _ => exact h9)
  clear L1 L2
  go_wp2
  go_loopg [5] 3 (fun gg s5 wr => ∃ i : Nat, i ≤ 3 ∧ 3 - i ≤ gg ∧ s5 = .int .i64 i ∧ Hid (Bw W1 wr) ∧ Hid (∀ j, j < i → okZ (clB j) (x (4 + j)) = true))
  case atStart => exact ⟨0, by omega, by omega, rfl, Lib.hid (Bw.refl _), Lib.hid (fun j h => absurd h (by omega))⟩
  case round =>
    obtain ⟨i, hi, hgg, rfl, HW, HI⟩ := hrel
    obtain ⟨wa, rfl⟩ : ∃ wa, wa = wr := ⟨_, rfl⟩
    by_cases hlt : i < 3
    · have hiz : (i : Int) < 3 := by omega
      have hi0 : (0 : Int) ≤ i := by omega
      have cx := (KY.out.bw HW.out).cell (eV_at x (4 + i) (by omega))
      have cb := HW.out.cell' (HL1.out i hlt)
      have RWI := Lib.hid (fun W => RW.out (x (4 + i)) (clB i) (clB_ok i) W)
      have HCI := Lib.hid (HCL.out i hlt)
      have HIN := Lib.hid (fun h => (fun j (hj : j < i + 1) => (by
        rcases Nat.lt_succ_iff_lt_or_eq.1 hj with h9 | rfl
        · exact HI.out j h9
        · exact h) : ∀ j, j < i + 1 → okZ (clB j) (x (4 + j)) = true))
      generalize okZ (clB i) (x (4 + i)) = K at RWI HCI HIN
      generalize clB i = bz at cb RWI
      generalize x (4 + i) = z at cx RWI
      go_upto_region 7 with fail
      have e1 := fun p' : Ext wa => Ext.cell' cx p'
      have e2 := fun p' : Ext wa => Ext.cell' cb p'
      clear cx cb
      cases K with
      | false =>
        have HG := Lib.hid (HCI.out rfl)
        (refine wp_region_quiet_ext (by kernel_rfl) (by kernel_rfl) ?_; (repeat (go_big_quiet_step (((go_at_call 49; exact Calls.ext_of (RWI.out _)))))); refine wpQuiet_nil ?_; rintro wq ⟨⟨_, hbq⟩, rfl⟩; obtain ⟨hccq, hffq⟩ := Bw.cells hbq; have hszq := Bw.size hbq)
        replace HW := Lib.hid (HW.out.trans hbq)
        clear e1 e2
        go_wp2
        go_ret
        exact ⟨ret_int HG.out.symm, HBY.out.trans HW.out⟩
      | true =>
        have HG := Lib.hid (HIN.out rfl)
        (refine wp_region_quiet_ext (by kernel_rfl) (by kernel_rfl) ?_; (repeat (go_big_quiet_step (((go_at_call 49; exact Calls.ext_of (RWI.out _)))))); refine wpQuiet_nil ?_; rintro wq ⟨⟨_, hbq⟩, rfl⟩; obtain ⟨hccq, hffq⟩ := Bw.cells hbq; have hszq := Bw.size hbq)
        replace HW := Lib.hid (HW.out.trans hbq)
        clear e1 e2
        go_wp2
        go_roundg (3 - (i + 1))
        case measure => omega
        case rel => exact ⟨i + 1, by omega, by omega, by go_num, HW, HG⟩
    · obtain rfl : i = 3 := by omega
      have HCY := HI
      go_upto_region 9 with fail
      replace HBY := Lib.hid (HBY.out.trans HW.out)
      replace KY := Lib.hid (KY.out.bw HW.out)
      replace HL2 := Lib.hid (fun i hi => HW.out.cell' (HL2.out i hi))
      clear HW HI HL1 HCL
      go_wp2
      go_loopg [6] 4 (fun gg s6 wr => ∃ i : Nat, i ≤ 4 ∧ 4 - i ≤ gg ∧ s6 = .int .i64 i ∧ Hid (Bw wa wr) ∧ Hid (∀ j, j < i → okZ (axB j) (x (7 + j)) = true ∧ okZ (axB j) (x (11 + j)) = true ∧ okZ (axB j) (x (15 + j)) = true))
      case atStart => exact ⟨0, by omega, by omega, rfl, Lib.hid (Bw.refl _), Lib.hid (fun j h => absurd h (by omega))⟩
      case round =>
        clear hi hgg hlt
        obtain ⟨i, hi, hgg, rfl, HW, HI⟩ := hrel
        obtain ⟨wb, rfl⟩ : ∃ wb, wb = wr := ⟨_, rfl⟩
        by_cases hlt : i < 4
        · have hiz : (i : Int) < 4 := by omega
          have hi0 : (0 : Int) ≤ i := by omega
          have cx := (KY.out.bw HW.out).cell (eV_at x (7 + i) (by omega))
          have cy := (KY.out.bw HW.out).cell (eV_at x (11 + i) (by omega))
          have cz := (KY.out.bw HW.out).cell (eV_at x (15 + i) (by omega))
          have cb := HW.out.cell' (HL2.out i hlt)
          have RX := Lib.hid (fun W => RW.out (x (7 + i)) (axB i) (axB_ok i) W)
          have RY := Lib.hid (fun W => RW.out (x (11 + i)) (axB i) (axB_ok i) W)
          have RZ := Lib.hid (fun W => RW.out (x (15 + i)) (axB i) (axB_ok i) W)
          have HCI := Lib.hid (HAX.out i hlt)
          have HIN := Lib.hid (fun h => (fun j (hj : j < i + 1) => (by
            rcases Nat.lt_succ_iff_lt_or_eq.1 hj with h9 | rfl
            · exact HI.out j h9
            · exact h) : ∀ j, j < i + 1 → okZ (axB j) (x (7 + j)) = true ∧ okZ (axB j) (x (11 + j)) = true ∧ okZ (axB j) (x (15 + j)) = true))
          generalize okZ (axB i) (x (7 + i)) = K1 at RX HCI HIN
          generalize okZ (axB i) (x (11 + i)) = K2 at RY HCI HIN
          generalize okZ (axB i) (x (15 + i)) = K3 at RZ HCI HIN
          generalize axB i = bz at cb RX RY RZ
          generalize x (7 + i) = zx at cx RX
          generalize x (11 + i) = zy at cy RY
          generalize x (15 + i) = zz at cz RZ
          go_upto_region 12 with fail
          have e1 := fun p' : Ext wb => Ext.cell' cx p'
          have e2 := fun p' : Ext wb => Ext.cell' cy p'
          have e3 := fun p' : Ext wb => Ext.cell' cz p'
          have e4 := fun p' : Ext wb => Ext.cell' cb p'
          clear cx cy cz cb
          cases K1 with
          | false =>
            have HG := Lib.hid (HCI.out (.inl rfl))
            (refine wp_region_quiet_ext (by kernel_rfl) (by kernel_rfl) ?_; (repeat (go_big_quiet_step (((go_at_call 49; exact Calls.ext_of (RX.out _)))))); refine wpQuiet_nil ?_; rintro wq ⟨⟨_, hbq⟩, rfl⟩; obtain ⟨hccq, hffq⟩ := Bw.cells hbq; have hszq := Bw.size hbq)
            replace HW := Lib.hid (HW.out.trans hbq)
            clear e1 e2 e3 e4
            go_wp2
            go_ret
            exact ⟨ret_int HG.out.symm, HBY.out.trans HW.out⟩
          | true =>
            cases K2 with
            | false =>
              have HG := Lib.hid (HCI.out (.inr (.inl rfl)))
              (refine wp_region_quiet_ext (by kernel_rfl) (by kernel_rfl) ?_; (repeat (go_big_quiet_step (((go_at_call 49; first | with_reducible exact Calls.ext_of (RX.out _) | with_reducible exact Calls.ext_of (RY.out _)))))); refine wpQuiet_nil ?_; rintro wq ⟨⟨_, hbq⟩, rfl⟩; obtain ⟨hccq, hffq⟩ := Bw.cells hbq; have hszq := Bw.size hbq)
              replace HW := Lib.hid (HW.out.trans hbq)
              clear e1 e2 e3 e4
              go_wp2
              go_ret
              exact ⟨ret_int HG.out.symm, HBY.out.trans HW.out⟩
            | true =>
              cases K3 with
              | false =>
                have HG := Lib.hid (HCI.out (.inr (.inr rfl)))
                (refine wp_region_quiet_ext (by kernel_rfl) (by kernel_rfl) ?_; (repeat (go_big_quiet_step (((go_at_call 49; first | with_reducible exact Calls.ext_of (RX.out _) | with_reducible exact Calls.ext_of (RY.out _) | with_reducible exact Calls.ext_of (RZ.out _)))))); refine wpQuiet_nil ?_; rintro wq ⟨⟨_, hbq⟩, rfl⟩; obtain ⟨hccq, hffq⟩ := Bw.cells hbq; have hszq := Bw.size hbq)
                replace HW := Lib.hid (HW.out.trans hbq)
                clear e1 e2 e3 e4
                go_wp2
                go_ret
                exact ⟨ret_int HG.out.symm, HBY.out.trans HW.out⟩
              | true =>
                have HG := Lib.hid (HIN.out ⟨rfl, rfl, rfl⟩)
                (refine wp_region_quiet_ext (by kernel_rfl) (by kernel_rfl) ?_; (repeat (go_big_quiet_step (((go_at_call 49; first | with_reducible exact Calls.ext_of (RX.out _) | with_reducible exact Calls.ext_of (RY.out _) | with_reducible exact Calls.ext_of (RZ.out _)))))); refine wpQuiet_nil ?_; rintro wq ⟨⟨_, hbq⟩, rfl⟩; obtain ⟨hccq, hffq⟩ := Bw.cells hbq; have hszq := Bw.size hbq)
                replace HW := Lib.hid (HW.out.trans hbq)
                clear e1 e2 e3 e4
                go_wp2
                go_roundg (4 - (i + 1))
                case measure => omega
                case rel => exact ⟨i + 1, by omega, by omega, by go_num, HW, HG⟩
        · obtain rfl : i = 4 := by omega
          have HG := Lib.hid (HYES.out HH.out HCY.out HI.out)
          go_wp2
          go_ret
          exact ⟨ret_int HG.out.symm, HBY.out.trans HW.out⟩
end Go.Proofs.Sky

namespace Go.Proofs.Sky
open Go Go.RowKit Go.Shelf
set_option maxHeartbeats 4000000
set_option maxRecDepth 8000
/-! chapter 28's cards: the reference's bound, coarse, Speed -/
theorem run_load_ax {o : Oper} {ρ : Operand → Value} (x : Operand) (ho : o.op = .load 23 x) {w : World} (g b : Nat) (hx : ρ x = .pointer (some ⟨g, b, none⟩)) {x0 x1 x2 x3 : Int} (hB : w.rangeAt g b [.int .i64 x0, .int .i64 x1, .int .i64 x2, .int .i64 x3]) : (execOp ρ o).run Tryd.prog w = .ok (.value (.agg #[.int .i64 x0, .int .i64 x1, .int .i64 x2, .int .i64 x3])) w := by
  have h9 : (Instr.loadAt 23 (.pointer (some ⟨g, b, none⟩))).run Tryd.prog w = .ok (.agg #[.int .i64 x0, .int .i64 x1, .int .i64 x2, .int .i64 x3]) w := run_loadAt_mid w g b 23 _ _ hB Tryd.underlying23 rfl (by kernel_rfl)
  unfold execOp
  simp only [ho, hx, Sem.run_bind, Sem.run_pure, Result.andThen_ok, h9]
theorem ax_r7 {W : World} {g : Nat} {T : TypeId} {X : Nat → Int} (hB : Blk W g T (eV X)) : W.rangeAt g 7 [.int .i64 (X 7), .int .i64 (X 8), .int .i64 (X 9), .int .i64 (X 10)] := by
  intro j v h
  have hj : j < 4 := (List.getElem?_eq_some_iff.1 h).1
  refine hB.cell ?_
  rw [← h]
  match j, hj with
  | 0, _ => rfl
  | 1, _ => rfl
  | 2, _ => rfl
  | 3, _ => rfl
theorem ax_r11 {W : World} {g : Nat} {T : TypeId} {X : Nat → Int} (hB : Blk W g T (eV X)) : W.rangeAt g 11 [.int .i64 (X 11), .int .i64 (X 12), .int .i64 (X 13), .int .i64 (X 14)] := by
  intro j v h
  have hj : j < 4 := (List.getElem?_eq_some_iff.1 h).1
  refine hB.cell ?_
  rw [← h]
  match j, hj with
  | 0, _ => rfl
  | 1, _ => rfl
  | 2, _ => rfl
  | 3, _ => rfl
theorem ax_r15 {W : World} {g : Nat} {T : TypeId} {X : Nat → Int} (hB : Blk W g T (eV X)) : W.rangeAt g 15 [.int .i64 (X 15), .int .i64 (X 16), .int .i64 (X 17), .int .i64 (X 18)] := by
  intro j v h
  have hj : j < 4 := (List.getElem?_eq_some_iff.1 h).1
  refine hB.cell ?_
  rw [← h]
  match j, hj with
  | 0, _ => rfl
  | 1, _ => rfl
  | 2, _ => rfl
  | 3, _ => rfl
theorem rbound28_any (x0 x1 x2 x3 : Int) (h1 : x1.natAbs ≤ 8388608) (h2 : x2.natAbs ≤ 2097152) (h3 : x3.natAbs ≤ 8388608) (w : World) : Calls Tryd.prog 28 #[.agg #[.int .i64 x0, .int .i64 x1, .int .i64 x2, .int .i64 x3]] w fun e w' => e = .returned (.int .i64 (spQ x1 x2 x3)) ∧ Bw w w' := by
  have A1 := Lib.hid (fun W => abs28_any x1 (by omega) W)
  have A2 := Lib.hid (fun W => abs28_any x2 (by omega) W)
  have A3 := Lib.hid (fun W => abs28_any x3 (by omega) W)
  have KX := Lib.hid (Blk.new w 23 #[.int .i64 x0, .int .i64 x1, .int .i64 x2, .int .i64 x3])
  have HW := Lib.hid (Bw.alloc (Bw.refl w) (.cells #[.int .i64 x0, .int .i64 x1, .int .i64 x2, .int .i64 x3] 23))
  obtain ⟨n1, hn1⟩ : ∃ n1, n1 = x1.natAbs := ⟨_, rfl⟩
  obtain ⟨n2, hn2⟩ : ∃ n2, n2 = x2.natAbs := ⟨_, rfl⟩
  obtain ⟨n3, hn3⟩ : ∃ n3, n3 = x3.natAbs := ⟨_, rfl⟩
  have HR := Lib.hid (show spQ x1 x2 x3 = ((n1 : Int) * 67108864 + 2 * (n2 : Int) * 7200 * 65536 + 3 * (n3 : Int) * 7200 * 7200 + 67108864 - 1) / 67108864 from by rw [hn1, hn2, hn3]; rfl)
  rw [← hn1] at A1 h1
  rw [← hn2] at A2 h2
  rw [← hn3] at A3 h3
  clear hn1 hn2 hn3
  have b1 : (0 : Int) ≤ n1 ∧ (n1 : Int) ≤ 8388608 := by omega
  have b2 : (0 : Int) ≤ n2 ∧ (n2 : Int) ≤ 2097152 := by omega
  have b3 : (0 : Int) ≤ n3 ∧ (n3 : Int) ≤ 8388608 := by omega
  clear h1 h2 h3
  go_enter Tryd.func28, Tryd.ntmps28
  go_upto_region 1 with fail
  obtain ⟨W0, hW0⟩ : ∃ W0, w.alloc (.cells #[.int .i64 x0, .int .i64 x1, .int .i64 x2, .int .i64 x3] 23) = W0 := ⟨_, rfl⟩
  rw [hW0] at KX HW ⊢
  clear hW0
  have e1 := fun p' : Ext W0 => Ext.cell' (KX.out.cell (rfl : (#[.int .i64 x0, .int .i64 x1, .int .i64 x2, .int .i64 x3] : Array Value)[1]? = _)) p'
  have e2 := fun p' : Ext W0 => Ext.cell' (KX.out.cell (rfl : (#[.int .i64 x0, .int .i64 x1, .int .i64 x2, .int .i64 x3] : Array Value)[2]? = _)) p'
  have e3 := fun p' : Ext W0 => Ext.cell' (KX.out.cell (rfl : (#[.int .i64 x0, .int .i64 x1, .int .i64 x2, .int .i64 x3] : Array Value)[3]? = _)) p'
  (refine wp_region_quiet_ext (by kernel_rfl) (by kernel_rfl) ?_; (repeat (go_big_quiet_step (((go_at_call 31; first | with_reducible exact Calls.ext_of (A1.out _) | with_reducible exact Calls.ext_of (A2.out _) | with_reducible exact Calls.ext_of (A3.out _)))))); refine wpQuiet_nil ?_; rintro wq ⟨⟨_, hbq⟩, rfl⟩; obtain ⟨hccq, hffq⟩ := Bw.cells hbq; have hszq := Bw.size hbq)
  replace HW := Lib.hid (HW.out.trans hbq)
  clear e1 e2 e3
  go_wp2
  go_ret
  exact ⟨ret_int (by rw [HR.out]), HW.out⟩
/-- the coefficients of an axis of a page -/
def crV (c0 c1 c2 : Int) : Array Value := #[.int .i64 (rn c0 4000), .int .i64 (rn c1 1000), .int .i64 (rn c2 1000)]
theorem rn16 (c : Int) : rn (c * 16) 64000 = rn c 4000 := by
  unfold rn
  by_cases h : c < 0
  · rw [if_pos (by omega), if_pos h]
    have : (2 * (-(c * 16)) + 64000) / (2 * 64000) = (2 * (-c) + 4000) / (2 * 4000) := by omega
    rw [this]
  · rw [if_neg (by omega), if_neg h]
    omega
theorem rcoarse28_any (x0 x1 x2 x3 : Int) (h0 : x0.natAbs ≤ 2147483648) (h1 : x1.natAbs ≤ 8388608) (h2 : x2.natAbs ≤ 2097152) (w : World) : Calls Tryd.prog 32 #[.agg #[.int .i64 x0, .int .i64 x1, .int .i64 x2, .int .i64 x3]] w fun e w' => e = .returned (.agg (crV x0 x1 x2)) ∧ Bw w w' := by
  have C0 := Lib.hid (fun W => nearest28_any (x0 * 16) 64000 (by omega) (by omega) W)
  have C1 := Lib.hid (fun W => nearest28_any x1 1000 (by omega) (by omega) W)
  have C2 := Lib.hid (fun W => nearest28_any x2 1000 (by omega) (by omega) W)
  have b0 : -2147483648 ≤ x0 ∧ x0 ≤ 2147483648 := by omega
  rw [rn16] at C0
  have HR := Lib.hid (show crV x0 x1 x2 = #[.int .i64 (rn x0 4000), .int .i64 (rn x1 1000), .int .i64 (rn x2 1000)] from rfl)
  generalize crV x0 x1 x2 = cr at *
  generalize rn x0 4000 = p0 at *
  generalize rn x1 1000 = p1 at *
  generalize rn x2 1000 = p2 at *
  have KX := Lib.hid ((Blk.new w 23 #[.int .i64 x0, .int .i64 x1, .int .i64 x2, .int .i64 x3]).alloc (.cells #[.int .i64 0, .int .i64 0, .int .i64 0] 22))
  have KP := Lib.hid (show Blk ((w.alloc (.cells #[.int .i64 x0, .int .i64 x1, .int .i64 x2, .int .i64 x3] 23)).alloc (.cells #[.int .i64 0, .int .i64 0, .int .i64 0] 22)) (w.heap.size + 1) 22 #[.int .i64 0, .int .i64 0, .int .i64 0] from by have h9 := Blk.new (w.alloc (.cells #[.int .i64 x0, .int .i64 x1, .int .i64 x2, .int .i64 x3] 23)) 22 #[.int .i64 0, .int .i64 0, .int .i64 0]; simp only [World.size_alloc] at h9; exact h9)
  have HW := Lib.hid (Bw.alloc (Bw.alloc (Bw.refl w) (.cells #[.int .i64 x0, .int .i64 x1, .int .i64 x2, .int .i64 x3] 23)) (.cells #[.int .i64 0, .int .i64 0, .int .i64 0] 22))
  clear h0 h1 h2
  go_enter Tryd.func32, Tryd.ntmps32
  go_upto_region 1 with fail
  obtain ⟨W0, hW0⟩ : ∃ W0, (w.alloc (.cells #[.int .i64 x0, .int .i64 x1, .int .i64 x2, .int .i64 x3] 23)).alloc (.cells #[.int .i64 0, .int .i64 0, .int .i64 0] 22) = W0 := ⟨_, rfl⟩
  rw [hW0] at KX KP HW ⊢
  clear hW0
  refine wp_region_held_drew (S := Kx (w.heap.size + 1) W0) (by kernel_rfl) (Kx.of_bw (Bw.drew (Bw.refl _)) (Nat.le_of_lt KP.out.lt)) (fun hS => ?_)
  replace KP := Lib.hid (KP.out.bw (Bw.drew (Bw.refl _)))
  generalize World.drew _ = wd at hS KP ⊢
  refine take1 (i := 0) (some 3) rfl rfl (by kernel_rfl) (by kernel_rfl) (by kernel_rfl) (fun _ _ _ _ h => h) rfl hS ?_
  apply Exists.intro
  apply And.intro
  · intro W9 hW9; have y0 := (hW9.blk KX.out (by omega)).cell (rfl : (#[.int .i64 x0, .int .i64 x1, .int .i64 x2, .int .i64 x3] : Array Value)[0]? = _); have y1 := (hW9.blk KX.out (by omega)).cell (rfl : (#[.int .i64 x0, .int .i64 x1, .int .i64 x2, .int .i64 x3] : Array Value)[1]? = _); have y2 := (hW9.blk KX.out (by omega)).cell (rfl : (#[.int .i64 x0, .int .i64 x1, .int .i64 x2, .int .i64 x3] : Array Value)[2]? = _); go_simp; try with_reducible rfl
  simp only [Act.put, List.setIfInBounds_toArray, List.set_cons_zero, List.set_cons_succ]
  refine take1 (i := 1) (some 4) rfl rfl (by kernel_rfl) (by kernel_rfl) (by kernel_rfl) (fun _ _ _ _ h => h) rfl hS ?_
  refine Exists.intro (.int .i64 x0) ?_
  apply And.intro
  · intro W9 hW9; have y0 := (hW9.blk KX.out (by omega)).cell (rfl : (#[.int .i64 x0, .int .i64 x1, .int .i64 x2, .int .i64 x3] : Array Value)[0]? = _); have y1 := (hW9.blk KX.out (by omega)).cell (rfl : (#[.int .i64 x0, .int .i64 x1, .int .i64 x2, .int .i64 x3] : Array Value)[1]? = _); have y2 := (hW9.blk KX.out (by omega)).cell (rfl : (#[.int .i64 x0, .int .i64 x1, .int .i64 x2, .int .i64 x3] : Array Value)[2]? = _); go_simp; (try go_bits); (try with_reducible rfl); (try trivial)
  simp only [Act.put, List.setIfInBounds_toArray, List.set_cons_zero, List.set_cons_succ]
  refine take1 (i := 2) (some 5) rfl rfl (by kernel_rfl) (by kernel_rfl) (by kernel_rfl) (fun _ _ _ _ h => h) rfl hS ?_
  refine Exists.intro (.int .i64 (x0 * 16)) ?_
  apply And.intro
  · intro W9 hW9; have y0 := (hW9.blk KX.out (by omega)).cell (rfl : (#[.int .i64 x0, .int .i64 x1, .int .i64 x2, .int .i64 x3] : Array Value)[0]? = _); have y1 := (hW9.blk KX.out (by omega)).cell (rfl : (#[.int .i64 x0, .int .i64 x1, .int .i64 x2, .int .i64 x3] : Array Value)[1]? = _); have y2 := (hW9.blk KX.out (by omega)).cell (rfl : (#[.int .i64 x0, .int .i64 x1, .int .i64 x2, .int .i64 x3] : Array Value)[2]? = _); go_simp; (try go_bits); (try with_reducible rfl); (try trivial)
  simp only [Act.put, List.setIfInBounds_toArray, List.set_cons_zero, List.set_cons_succ]
  refine take1 (i := 4) (some 7) rfl rfl (by kernel_rfl) (by kernel_rfl) (by kernel_rfl) (fun _ _ _ _ h => h) rfl hS ?_
  apply Exists.intro
  apply And.intro
  · intro W9 hW9; have y0 := (hW9.blk KX.out (by omega)).cell (rfl : (#[.int .i64 x0, .int .i64 x1, .int .i64 x2, .int .i64 x3] : Array Value)[0]? = _); have y1 := (hW9.blk KX.out (by omega)).cell (rfl : (#[.int .i64 x0, .int .i64 x1, .int .i64 x2, .int .i64 x3] : Array Value)[1]? = _); have y2 := (hW9.blk KX.out (by omega)).cell (rfl : (#[.int .i64 x0, .int .i64 x1, .int .i64 x2, .int .i64 x3] : Array Value)[2]? = _); go_simp; try with_reducible rfl
  simp only [Act.put, List.setIfInBounds_toArray, List.set_cons_zero, List.set_cons_succ]
  refine take1 (i := 5) (some 8) rfl rfl (by kernel_rfl) (by kernel_rfl) (by kernel_rfl) (fun _ _ _ _ h => h) rfl hS ?_
  refine Exists.intro (.int .i64 x1) ?_
  apply And.intro
  · intro W9 hW9; have y0 := (hW9.blk KX.out (by omega)).cell (rfl : (#[.int .i64 x0, .int .i64 x1, .int .i64 x2, .int .i64 x3] : Array Value)[0]? = _); have y1 := (hW9.blk KX.out (by omega)).cell (rfl : (#[.int .i64 x0, .int .i64 x1, .int .i64 x2, .int .i64 x3] : Array Value)[1]? = _); have y2 := (hW9.blk KX.out (by omega)).cell (rfl : (#[.int .i64 x0, .int .i64 x1, .int .i64 x2, .int .i64 x3] : Array Value)[2]? = _); go_simp; (try go_bits); (try with_reducible rfl); (try trivial)
  simp only [Act.put, List.setIfInBounds_toArray, List.set_cons_zero, List.set_cons_succ]
  refine take1 (i := 7) (some 10) rfl rfl (by kernel_rfl) (by kernel_rfl) (by kernel_rfl) (fun _ _ _ _ h => h) rfl hS ?_
  apply Exists.intro
  apply And.intro
  · intro W9 hW9; have y0 := (hW9.blk KX.out (by omega)).cell (rfl : (#[.int .i64 x0, .int .i64 x1, .int .i64 x2, .int .i64 x3] : Array Value)[0]? = _); have y1 := (hW9.blk KX.out (by omega)).cell (rfl : (#[.int .i64 x0, .int .i64 x1, .int .i64 x2, .int .i64 x3] : Array Value)[1]? = _); have y2 := (hW9.blk KX.out (by omega)).cell (rfl : (#[.int .i64 x0, .int .i64 x1, .int .i64 x2, .int .i64 x3] : Array Value)[2]? = _); go_simp; try with_reducible rfl
  simp only [Act.put, List.setIfInBounds_toArray, List.set_cons_zero, List.set_cons_succ]
  refine take1 (i := 8) (some 11) rfl rfl (by kernel_rfl) (by kernel_rfl) (by kernel_rfl) (fun _ _ _ _ h => h) rfl hS ?_
  refine Exists.intro (.int .i64 x2) ?_
  apply And.intro
  · intro W9 hW9; have y0 := (hW9.blk KX.out (by omega)).cell (rfl : (#[.int .i64 x0, .int .i64 x1, .int .i64 x2, .int .i64 x3] : Array Value)[0]? = _); have y1 := (hW9.blk KX.out (by omega)).cell (rfl : (#[.int .i64 x0, .int .i64 x1, .int .i64 x2, .int .i64 x3] : Array Value)[1]? = _); have y2 := (hW9.blk KX.out (by omega)).cell (rfl : (#[.int .i64 x0, .int .i64 x1, .int .i64 x2, .int .i64 x3] : Array Value)[2]? = _); go_simp; (try go_bits); (try with_reducible rfl); (try trivial)
  simp only [Act.put, List.setIfInBounds_toArray, List.set_cons_zero, List.set_cons_succ]
  refine wpAnyH_ready (rs := [3]) (by kernel_rfl) (by simp) ?_
  refine AllReadyH.cons rfl (fun K hK => ?_) ?_
  go_simp
  go_wp2_with (go_at_call 52; (with_reducible refine Calls.mono (C0.out _) ?_); rintro e1 wd ⟨rfl, hb13⟩)
  have hle := Nat.le_of_lt KP.out.lt
  replace KP := Lib.hid (KP.out.bw hb13)
  refine hK.out _ _ (hS.trans (Kx.of_bw hb13 hle)) (fun hS => ?_)
  clear hK K
  clear hb13 hle
  refine wpAnyH_ready (rs := [6]) (by kernel_rfl) (by simp) ?_
  refine AllReadyH.cons rfl (fun K hK => ?_) ?_
  go_simp
  go_wp2_with (go_at_call 52; (with_reducible refine Calls.mono (C1.out _) ?_); rintro e1 wd ⟨rfl, hb13⟩)
  have hle := Nat.le_of_lt KP.out.lt
  replace KP := Lib.hid (KP.out.bw hb13)
  refine hK.out _ _ (hS.trans (Kx.of_bw hb13 hle)) (fun hS => ?_)
  clear hK K
  clear hb13 hle
  refine wpAnyH_ready (rs := [9]) (by kernel_rfl) (by simp) ?_
  refine AllReadyH.cons rfl (fun K hK => ?_) ?_
  go_simp
  go_wp2_with (go_at_call 52; (with_reducible refine Calls.mono (C2.out _) ?_); rintro e1 wd ⟨rfl, hb13⟩)
  have hle := Nat.le_of_lt KP.out.lt
  replace KP := Lib.hid (KP.out.bw hb13)
  refine hK.out _ _ (hS.trans (Kx.of_bw hb13 hle)) (fun hS => ?_)
  clear hK K
  clear hb13 hle
  refine take1 (i := 10) (some 13) rfl rfl (by kernel_rfl) (by kernel_rfl) (by kernel_rfl) (fun _ _ _ _ h => h) rfl hS ?_
  apply Exists.intro
  apply And.intro
  · intro W9 hW9; have y0 := (hW9.blk KX.out (by omega)).cell (rfl : (#[.int .i64 x0, .int .i64 x1, .int .i64 x2, .int .i64 x3] : Array Value)[0]? = _); have y1 := (hW9.blk KX.out (by omega)).cell (rfl : (#[.int .i64 x0, .int .i64 x1, .int .i64 x2, .int .i64 x3] : Array Value)[1]? = _); have y2 := (hW9.blk KX.out (by omega)).cell (rfl : (#[.int .i64 x0, .int .i64 x1, .int .i64 x2, .int .i64 x3] : Array Value)[2]? = _); go_simp; try with_reducible rfl
  simp only [Act.put, List.setIfInBounds_toArray, List.set_cons_zero, List.set_cons_succ]
  refine wpAnyH_ready (rs := [11]) (by kernel_rfl) (by simp) ?_
  refine AllReadyH.cons rfl (fun K hK => ?_) ?_
  rw [if_pos (by rfl)]
  have hst := Kx.row KP.out.lt #[.int .i64 p0, .int .i64 p1, .int .i64 p2]
  refine wp_store_row0 22 _ _ rfl rfl (w.heap.size + 1) #[.int .i64 p0, .int .i64 p1, .int .i64 p2] rfl rfl 22 _ KP.out (by kernel_rfl) (by simp) (by simp [Value.oneCell']) ?_
  replace KP := Lib.hid (KP.out.row #[.int .i64 p0, .int .i64 p1, .int .i64 p2])
  refine hK.out _ _ (hS.trans hst) (fun hS => ?_)
  clear hK K
  clear hst
  refine wpAnyH_done (by kernel_rfl) ?_ _
  rotate_left
  exact AllReadyH.nil
  exact AllReadyH.nil
  exact AllReadyH.nil
  exact AllReadyH.nil
  all_goals
    go_wp2
    refine bodyPost_ret (v := .agg #[.int .i64 p0, .int .i64 p1, .int .i64 p2]) ?_ rfl ⟨by rw [HR.out], hS.bw HW.out (by omega)⟩
    exact results_cell_row (p := 2) rfl _ _ (w.heap.size + 1) _ _ (0, 0) _ rfl KP.out Tryd.underlying22 rfl (by kernel_rfl)
theorem RSpeed28_any (X : Nat → Int) (w : World) : Calls Tryd.prog 7 #[.agg (eV X)] w fun e w' => e = .returned (.tuple #[.agg (l3V (spE X)), .int .i64 (errE X)]) ∧ Bw w w' := by
  have CK := Lib.hid (fun W => rCheck26_any X W)
  have KX := Lib.hid ((Blk.new w 25 (eV X)).alloc (.cells #[.int .i64 0, .int .i64 0, .int .i64 0] 27))
  have KP := Lib.hid (show Blk ((w.alloc (.cells (eV X) 25)).alloc (.cells #[.int .i64 0, .int .i64 0, .int .i64 0] 27)) (w.heap.size + 1) 27 #[.int .i64 0, .int .i64 0, .int .i64 0] from by have h9 := Blk.new (w.alloc (.cells (eV X) 25)) 27 #[.int .i64 0, .int .i64 0, .int .i64 0]; simp only [World.size_alloc] at h9; exact h9)
  have HW := Lib.hid (Bw.alloc (Bw.alloc (Bw.refl w) (.cells (eV X) 25)) (.cells #[.int .i64 0, .int .i64 0, .int .i64 0] 27))
  have HSZ : Hid ((Tryd.prog.info? 25).map (·.size) = some (eV X).size) := Lib.hid (by kernel_rfl)
  have R0 := Lib.hid (fun W (hB : Blk W w.heap.size 25 (eV X)) => ax_r7 hB)
  have R1 := Lib.hid (fun W (hB : Blk W w.heap.size 25 (eV X)) => ax_r11 hB)
  have R2 := Lib.hid (fun W (hB : Blk W w.heap.size 25 (eV X)) => ax_r15 hB)
  obtain ⟨g, hg⟩ : ∃ g, w.heap.size = g := ⟨_, rfl⟩
  rw [hg] at KX KP R0 R1 R2
  have HG := Lib.hid hg
  have HBD := Lib.hid (fun (h : errE X = 0) j hj => ax_bd h j hj)
  have HPS := Lib.hid (show ∀ j, spE X j = if errE X = 0 then spQ (X (7 + 4 * j + 1)) (X (7 + 4 * j + 2)) (X (7 + 4 * j + 3)) else 0 from fun j => rfl)
  generalize spE X = PSF at *
  generalize errE X = er at *
  have HCX := Lib.hid (fun i (hi : i < 19) => eV_at X i hi)
  obtain ⟨A, hA⟩ : ∃ A, A = eV X := ⟨_, rfl⟩
  rw [← hA] at CK KX KP HW HSZ R0 R1 R2 HCX ⊢
  clear hA
  go_enter Tryd.func7, Tryd.ntmps7
  go_upto_region 1 with fail
  obtain ⟨W0, hW0⟩ : ∃ W0, (w.alloc (.cells A 25)).alloc (.cells #[.int .i64 0, .int .i64 0, .int .i64 0] 27) = W0 := ⟨_, rfl⟩
  rw [hW0] at KX KP HW ⊢
  clear hW0 hg
  go_upto_region 2 with (first | ((with_reducible refine at_load 25 (.tmp 1) ?_); refine wpList_load_row rfl 25 _ rfl g rfl 25 A (0, 0) _ KX.out Tryd.underlying25 rfl HSZ.out ?_) | (go_at_call 27; (with_reducible refine Calls.mono (CK.out _) ?_); rintro e1 w1 ⟨rfl, hb1⟩; replace KX := Lib.hid (KX.out.bw hb1); replace KP := Lib.hid (KP.out.bw hb1); replace HW := Lib.hid (HW.out.trans hb1); clear hb1))
  by_cases c1 : er = 0
  case neg =>
    have c1z : (er != 0) = true := by simpa using c1
    have HR := Lib.hid (show l3V PSF = #[.int .i64 0, .int .i64 0, .int .i64 0] from l3V_congr (y := fun _ => 0) (fun j hj => by rw [HPS.out j, if_neg c1]))
    clear c1
    go_wp2_with ((with_reducible refine at_store 27 (.tmp 2) (.tmp 9) ?_); refine wpList_store_row rfl 27 (.tmp 2) (.tmp 9) rfl (g + 1) #[.int .i64 0, .int .i64 0, .int .i64 0] rfl rfl 27 _ KP.out (by kernel_rfl) rfl (by simp [Value.oneCell', l3V]) ?_)
    have F9 := KP.out.row #[.int .i64 0, .int .i64 0, .int .i64 0]
    have B9 := Bw.setRow HW.out (show w.heap.size ≤ g + 1 by have := HG.out; omega) #[.int .i64 0, .int .i64 0, .int .i64 0]
    refine bodyPost_ret (v := .tuple #[.agg #[.int .i64 0, .int .i64 0, .int .i64 0], .int .i64 er]) ?_ rfl ⟨by rw [HR.out], B9⟩
    exact results_two_row (p := 2) (u := 3) rfl _ _ (g + 1) _ rfl (run_loadVar_row _ (g + 1) 27 27 #[.int .i64 0, .int .i64 0, .int .i64 0] (0, 0) _ F9 Tryd.underlying27 rfl (by kernel_rfl))
  have HBX := Lib.hid (HBD.out c1)
  subst c1
  have HPJ := Lib.hid (show ∀ j, PSF j = spQ (X (7 + 4 * j + 1)) (X (7 + 4 * j + 2)) (X (7 + 4 * j + 3)) from fun j => by rw [HPS.out j, if_pos rfl])
  clear HBD HPS CK
  obtain ⟨a0, a1, a2, a3⟩ := HBX.out 0 (by omega)
  obtain ⟨b0, b1, b2, b3⟩ := HBX.out 1 (by omega)
  obtain ⟨c0, c1, c2, c3⟩ := HBX.out 2 (by omega)
  simp only [Nat.mul_zero, Nat.add_zero, Nat.mul_one, show 7 + 4 * 2 = 15 from rfl, show 7 + 4 = 11 from rfl, show 7 + 1 = 8 from rfl, show 7 + 2 = 9 from rfl, show 7 + 3 = 10 from rfl, show 11 + 1 = 12 from rfl, show 11 + 2 = 13 from rfl, show 11 + 3 = 14 from rfl, show 15 + 1 = 16 from rfl, show 15 + 2 = 17 from rfl, show 15 + 3 = 18 from rfl] at a0 a1 a2 a3 b0 b1 b2 b3 c0 c1 c2 c3
  have C0 := Lib.hid (fun W => rbound28_any (X 7) (X 8) (X 9) (X 10) a1 a2 a3 W)
  have C1 := Lib.hid (fun W => rbound28_any (X 11) (X 12) (X 13) (X 14) b1 b2 b3 W)
  have C2 := Lib.hid (fun W => rbound28_any (X 15) (X 16) (X 17) (X 18) c1 c2 c3 W)
  have HR3 := Lib.hid (show l3V PSF = #[.int .i64 (spQ (X 8) (X 9) (X 10)), .int .i64 (spQ (X 12) (X 13) (X 14)), .int .i64 (spQ (X 16) (X 17) (X 18))] by unfold l3V; rw [HPJ.out 0, HPJ.out 1, HPJ.out 2])
  clear a0 a1 a2 a3 b0 b1 b2 b3 c0 c1 c2 c3 HPJ HBX HCX
  generalize spQ (X 8) (X 9) (X 10) = p0 at *
  generalize spQ (X 12) (X 13) (X 14) = p1 at *
  generalize spQ (X 16) (X 17) (X 18) = p2 at *
  generalize X 7 = y00 at *
  generalize X 8 = y01 at *
  generalize X 9 = y02 at *
  generalize X 10 = y03 at *
  generalize X 11 = y10 at *
  generalize X 12 = y11 at *
  generalize X 13 = y12 at *
  generalize X 14 = y13 at *
  generalize X 15 = y20 at *
  generalize X 16 = y21 at *
  generalize X 17 = y22 at *
  generalize X 18 = y23 at *
  go_upto_region 4 with fail
  refine wp_region_held_drew (S := Kx (g + 1) w1) (by kernel_rfl) (Kx.of_bw (Bw.drew (Bw.refl _)) (Nat.le_of_lt KP.out.lt)) (fun hS => ?_)
  replace KP := Lib.hid (KP.out.bw (Bw.drew (Bw.refl _)))
  generalize World.drew _ = wd at hS KP ⊢
  refine take1 (i := 0) (some 11) rfl rfl (by kernel_rfl) (by kernel_rfl) (by kernel_rfl) (fun _ _ _ _ h => h) rfl hS ?_
  apply Exists.intro
  apply And.intro
  · intro W9 hW9; skip; go_simp; try with_reducible rfl
  simp only [Act.put, List.setIfInBounds_toArray, List.set_cons_zero, List.set_cons_succ]
  refine take1 (i := 1) (some 12) rfl rfl (by kernel_rfl) (by kernel_rfl) (by kernel_rfl) (fun _ _ _ _ h => h) rfl hS ?_
  refine Exists.intro (.agg #[.int .i64 y00, .int .i64 y01, .int .i64 y02, .int .i64 y03]) ?_
  apply And.intro
  · intro W9 hW9; skip; exact run_load_ax _ rfl g 7 rfl (R0.out _ (hW9.blk KX.out (by omega)))
  simp only [Act.put, List.setIfInBounds_toArray, List.set_cons_zero, List.set_cons_succ]
  refine take1 (i := 3) (some 14) rfl rfl (by kernel_rfl) (by kernel_rfl) (by kernel_rfl) (fun _ _ _ _ h => h) rfl hS ?_
  apply Exists.intro
  apply And.intro
  · intro W9 hW9; skip; go_simp; try with_reducible rfl
  simp only [Act.put, List.setIfInBounds_toArray, List.set_cons_zero, List.set_cons_succ]
  refine take1 (i := 4) (some 15) rfl rfl (by kernel_rfl) (by kernel_rfl) (by kernel_rfl) (fun _ _ _ _ h => h) rfl hS ?_
  refine Exists.intro (.agg #[.int .i64 y10, .int .i64 y11, .int .i64 y12, .int .i64 y13]) ?_
  apply And.intro
  · intro W9 hW9; skip; exact run_load_ax _ rfl g 11 rfl (R1.out _ (hW9.blk KX.out (by omega)))
  simp only [Act.put, List.setIfInBounds_toArray, List.set_cons_zero, List.set_cons_succ]
  refine take1 (i := 6) (some 17) rfl rfl (by kernel_rfl) (by kernel_rfl) (by kernel_rfl) (fun _ _ _ _ h => h) rfl hS ?_
  apply Exists.intro
  apply And.intro
  · intro W9 hW9; skip; go_simp; try with_reducible rfl
  simp only [Act.put, List.setIfInBounds_toArray, List.set_cons_zero, List.set_cons_succ]
  refine take1 (i := 7) (some 18) rfl rfl (by kernel_rfl) (by kernel_rfl) (by kernel_rfl) (fun _ _ _ _ h => h) rfl hS ?_
  refine Exists.intro (.agg #[.int .i64 y20, .int .i64 y21, .int .i64 y22, .int .i64 y23]) ?_
  apply And.intro
  · intro W9 hW9; skip; exact run_load_ax _ rfl g 15 rfl (R2.out _ (hW9.blk KX.out (by omega)))
  simp only [Act.put, List.setIfInBounds_toArray, List.set_cons_zero, List.set_cons_succ]
  refine wpAnyH_ready (rs := [2]) (by kernel_rfl) (by simp) ?_
  refine AllReadyH.cons rfl (fun K hK => ?_) ?_
  go_simp
  go_wp2_with (go_at_call 28; (with_reducible refine Calls.mono (C0.out _) ?_); rintro e1 wd ⟨rfl, hb13⟩)
  have hle := Nat.le_of_lt KP.out.lt
  replace KP := Lib.hid (KP.out.bw hb13)
  refine hK.out _ _ (hS.trans (Kx.of_bw hb13 hle)) (fun hS => ?_)
  clear hK K
  clear hb13 hle
  refine wpAnyH_ready (rs := [5]) (by kernel_rfl) (by simp) ?_
  refine AllReadyH.cons rfl (fun K hK => ?_) ?_
  go_simp
  go_wp2_with (go_at_call 28; (with_reducible refine Calls.mono (C1.out _) ?_); rintro e1 wd ⟨rfl, hb13⟩)
  have hle := Nat.le_of_lt KP.out.lt
  replace KP := Lib.hid (KP.out.bw hb13)
  refine hK.out _ _ (hS.trans (Kx.of_bw hb13 hle)) (fun hS => ?_)
  clear hK K
  clear hb13 hle
  refine wpAnyH_ready (rs := [8]) (by kernel_rfl) (by simp) ?_
  refine AllReadyH.cons rfl (fun K hK => ?_) ?_
  go_simp
  go_wp2_with (go_at_call 28; (with_reducible refine Calls.mono (C2.out _) ?_); rintro e1 wd ⟨rfl, hb13⟩)
  have hle := Nat.le_of_lt KP.out.lt
  replace KP := Lib.hid (KP.out.bw hb13)
  refine hK.out _ _ (hS.trans (Kx.of_bw hb13 hle)) (fun hS => ?_)
  clear hK K
  clear hb13 hle
  refine take1 (i := 9) (some 20) rfl rfl (by kernel_rfl) (by kernel_rfl) (by kernel_rfl) (fun _ _ _ _ h => h) rfl hS ?_
  apply Exists.intro
  apply And.intro
  · intro W9 hW9; skip; go_simp; try with_reducible rfl
  simp only [Act.put, List.setIfInBounds_toArray, List.set_cons_zero, List.set_cons_succ]
  refine wpAnyH_ready (rs := [10]) (by kernel_rfl) (by simp) ?_
  refine AllReadyH.cons rfl (fun K hK => ?_) ?_
  rw [if_pos (by rfl)]
  have hst := Kx.row KP.out.lt #[.int .i64 p0, .int .i64 p1, .int .i64 p2]
  refine wp_store_row0 27 _ _ rfl rfl (g + 1) #[.int .i64 p0, .int .i64 p1, .int .i64 p2] rfl rfl 27 _ KP.out (by kernel_rfl) (by simp) (by simp [Value.oneCell']) ?_
  replace KP := Lib.hid (KP.out.row #[.int .i64 p0, .int .i64 p1, .int .i64 p2])
  refine hK.out _ _ (hS.trans hst) (fun hS => ?_)
  clear hK K
  clear hst
  refine take1 (i := 11) (some 3) rfl rfl (by kernel_rfl) (by kernel_rfl) (by kernel_rfl) (fun _ _ _ _ h => h) rfl hS ?_
  apply Exists.intro
  apply And.intro
  · intro W9 hW9; skip; go_simp; try with_reducible rfl
  simp only [Act.put, List.setIfInBounds_toArray, List.set_cons_zero, List.set_cons_succ]
  refine wpAnyH_done (by kernel_rfl) ?_ _
  rotate_left
  exact AllReadyH.nil
  exact AllReadyH.nil
  exact AllReadyH.nil
  exact AllReadyH.nil
  all_goals
    go_wp2
    refine bodyPost_ret (v := .tuple #[.agg #[.int .i64 p0, .int .i64 p1, .int .i64 p2], .int .i64 0]) ?_ rfl ⟨by rw [HR3.out], hS.bw HW.out (by have := HG.out; omega)⟩
    exact results_two_row (p := 2) (u := 3) rfl _ _ (g + 1) _ rfl (run_loadVar_row _ (g + 1) 27 27 #[.int .i64 p0, .int .i64 p1, .int .i64 p2] (0, 0) _ KP.out Tryd.underlying27 rfl (by kernel_rfl))
end Go.Proofs.Sky

namespace Go.Proofs.Sky
open Go Go.RowKit Go.Shelf
set_option maxHeartbeats 4000000
set_option maxRecDepth 8000
/-! chapter 28's cards: what Coarse returns -/
/-- the greatest of the last coefficients of so many axes -/
def mK (X : Nat → Int) : Nat → Int
  | 0 => 0
  | k + 1 => mx28 (mK X k) ((X (7 + 4 * k + 3)).natAbs : Int)
def grQ (h m : Int) : Int := (1801 * 67108864000 + 3600 * (3600 * h) * 1000 * 32768 + 3600 * m * (3600 * h) * (3600 * h) + 67108864000 - 1) / 67108864000
def pgF (X : Nat → Int) (h : Int) : Nat → Int := fun i => [X 0, X 2, 33 + (X 3 + 999) / 1000, grQ h (mK X 3), rn (X 7) 4000, rn (X 8) 1000, rn (X 9) 1000, rn (X 11) 4000, rn (X 12) 1000, rn (X 13) 1000, rn (X 15) 4000, rn (X 16) 1000, rn (X 17) 1000].getD i 0
def cgE (X : Nat → Int) (h : Int) : Int := if errE X = 0 then (if h = 1 ∨ h = 2 then (if errPg (pgF X h) = 0 then 0 else 5) else 2) else errE X
def cgX (X : Nat → Int) (h : Int) : Nat → Int := if cgE X h = 0 then pgF X h else fun _ => 0
/-- a page of which the first k axes are laid, and the growth is not -/
def pgP (c : Nat → Int) (k : Nat) : Nat → Int := fun j => if j = 3 then 0 else if j < 4 + 3 * k then c j else 0
theorem pgP_zero (c : Nat → Int) : pgV (pgP c 0) = #[.int .i64 (c 0), .int .i64 (c 1), .int .i64 (c 2), .int .i64 0, .int .i64 0, .int .i64 0, .int .i64 0, .int .i64 0, .int .i64 0, .int .i64 0, .int .i64 0, .int .i64 0, .int .i64 0] := rfl
theorem pgP_step (c : Nat → Int) (k : Nat) (hk : k < 3) : ((pgV (pgP c k)).toList.take (4 + 3 * k) ++ (#[.int .i64 (c (4 + 3 * k)), .int .i64 (c (4 + 3 * k + 1)), .int .i64 (c (4 + 3 * k + 2))] : Array Value).toList ++ (pgV (pgP c k)).toList.drop (4 + 3 * k + (#[.int .i64 (c (4 + 3 * k)), .int .i64 (c (4 + 3 * k + 1)), .int .i64 (c (4 + 3 * k + 2))] : Array Value).size)).toArray = pgV (pgP c (k + 1)) := by
  match k, hk with
  | 0, _ => rfl
  | 1, _ => rfl
  | 2, _ => rfl
theorem pgP_three (c : Nat → Int) : (pgV (pgP c 3)).setIfInBounds 3 (.int .i64 (c 3)) = pgV c := rfl
theorem zeroPg (w : World) : (zeroValue 32).run Tryd.prog w = .ok (.agg #[.int .i64 0, .int .i64 0, .int .i64 0, .int .i64 0, .int .i64 0, .int .i64 0, .int .i64 0, .int .i64 0, .int .i64 0, .int .i64 0, .int .i64 0, .int .i64 0, .int .i64 0]) w := by kernel_rfl
theorem ix_pg (g i : Nat) (hi : i < 3) (W : World) : (Instr.index 60 (.agg #[.pointer (some ⟨g, 4, none⟩), .pointer (some ⟨g, 7, none⟩), .pointer (some ⟨g, 10, none⟩)]) (.int .i64 (i : Int))).run Tryd.prog W = .ok (.pointer (some ⟨g, 4 + 3 * i, none⟩)) W := by
  match i, hi with
  | 0, _ => exact (show (Instr.index 60 (.agg #[.pointer (some ⟨g, 4, none⟩), .pointer (some ⟨g, 7, none⟩), .pointer (some ⟨g, 10, none⟩)]) (.int .i64 0)).run Tryd.prog W = .ok (.pointer (some ⟨g, 4, none⟩)) W by kernel_rfl)
  | 1, _ => exact (show (Instr.index 60 (.agg #[.pointer (some ⟨g, 4, none⟩), .pointer (some ⟨g, 7, none⟩), .pointer (some ⟨g, 10, none⟩)]) (.int .i64 1)).run Tryd.prog W = .ok (.pointer (some ⟨g, 7, none⟩)) W by kernel_rfl)
  | 2, _ => exact (show (Instr.index 60 (.agg #[.pointer (some ⟨g, 4, none⟩), .pointer (some ⟨g, 7, none⟩), .pointer (some ⟨g, 10, none⟩)]) (.int .i64 2)).run Tryd.prog W = .ok (.pointer (some ⟨g, 10, none⟩)) W by kernel_rfl)
section
variable {P : Program} {o : Oper} {a : Act} {w : World} {K : Act → World → Prop} {Q : Exit → Act → World → Prop}
theorem wp_store_at28 (ty : TypeId) (x y : Operand) (ho : o.op = .store ty x y)
    (g off : Nat) (cells : Array Value) (hx : a.eval x = .pointer (some ⟨g, off, none⟩)) (hy : a.eval y = .agg cells)
    (t : TypeId) (old : Array Value) (hg : Blk w g t old) (hi : (P.info? ty).map (·.size) = some cells.size)
    (hsz : off + cells.size ≤ old.size) (h1 : cells.all (·.oneCell') = true)
    (h : K (a.put o.dst undef) (w.setRow g (old.toList.take off ++ cells.toList ++ old.toList.drop (off + cells.size)).toArray)) : o.wp P a w K Q := by
  have h9 := run_storeCells_at (P := P) g off t cells.toList 0 old w hg (by simpa using hsz) (fun v hv => (Array.all_eq_true_iff_forall_mem.1 h1) v (by simpa using hv))
  have hst : (storeVar ty ⟨g, off, none⟩ (.agg cells)).run P w = .ok () (w.setRow g (old.toList.take off ++ cells.toList ++ old.toList.drop (off + cells.size)).toArray) := by
    cases hq : P.info? ty with
    | none => simp [hq] at hi
    | some i =>
      have hs : cells.size = i.size := by simp [hq] at hi; omega
      simp only [Nat.add_zero, Array.length_toList] at h9
      simp [storeVar, sizeOf, typeInfo, hq, Value.cells, hs, h9]
  unfold Oper.wp execOp
  simp only [ho, hx, hy, Instr.storeAt, Instr.sureAddr, Sem.run_bind, Sem.run_pure, Result.andThen_ok, hst]
  exact h
end
theorem mK_bd {X : Nat → Int} (h : ∀ j, j < 3 → (X (7 + 4 * j + 3)).natAbs ≤ 8388608) (k : Nat) (hk : k ≤ 3) : 0 ≤ mK X k ∧ mK X k ≤ 8388608 := by
  induction k with
  | zero => exact ⟨Int.le_refl _, (by decide : (0 : Int) ≤ 8388608)⟩
  | succ k ih =>
    have h1 := ih (by omega)
    have h2 := h k (by omega)
    show 0 ≤ mx28 _ _ ∧ mx28 _ _ ≤ _
    unfold mx28
    split <;> omega
theorem mK_le {X : Nat → Int} (k j : Nat) (hj : j < k) : ((X (7 + 4 * j + 3)).natAbs : Int) ≤ mK X k := by
  induction k with
  | zero => omega
  | succ k ih =>
    show _ ≤ mx28 _ _
    unfold mx28
    by_cases h : j = k
    · subst h; split <;> omega
    · have := ih (by omega)
      split <;> omega
theorem grQ_bd {h m : Int} (hh : h = 1 ∨ h = 2) (hm : 0 ≤ m ∧ m ≤ 8388608) : 0 ≤ grQ h m ∧ grQ h m ≤ 100000000 := by
  unfold grQ
  rcases hh with rfl | rfl <;> omega
end Go.Proofs.Sky
