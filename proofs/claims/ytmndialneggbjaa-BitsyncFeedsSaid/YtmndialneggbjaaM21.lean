/-
  lemmas for the theorems of this claim. No conditions beyond those written in the statements.
-/
import Derived.Test.YtmndialneggbjaaE21
import Derived.Test.YtmndialneggbjaaRdAt
set_option linter.unusedVariables false
set_option linter.unusedSimpArgs false
set_option linter.unnecessarySimpa false
namespace Go.Proofs.Sky
open Go Go.RowKit Go.Shelf
set_option maxHeartbeats 4000000
theorem amx_spec (ch : List Int) (k : Nat) : amx ch k ≤ k ∧ (∀ j, j ≤ k → ch.getD j 0 ≤ ch.getD (amx ch k) 0) ∧ (∀ j, j < amx ch k → ch.getD j 0 < ch.getD (amx ch k) 0) := by
  induction k with
  | zero =>
    refine ⟨Nat.le_refl _, fun j hj => ?_, fun j hj => absurd hj (Nat.not_lt_zero _)⟩
    have e : j = 0 := Nat.le_zero.1 hj
    rw [e]
    exact Int.le_refl _
  | succ k ih =>
    obtain ⟨h1, h2, h3⟩ := ih
    unfold amx
    split
    · rename_i h
      refine ⟨Nat.le_refl _, fun j hj => ?_, fun j hj => ?_⟩
      · rcases Nat.lt_or_ge k j with h9 | h9
        · obtain rfl : j = k + 1 := by omega
          exact Int.le_refl _
        · have := h2 j h9; omega
      · have := h2 j (by omega); omega
    · rename_i h
      refine ⟨by omega, fun j hj => ?_, h3⟩
      rcases Nat.lt_or_ge k j with h9 | h9
      · obtain rfl : j = k + 1 := by omega
        omega
      · exact h2 j h9
theorem Max_any (zs : List Int) (v : Value) (w : World) (hv : RdI w v zs) (hl : 1 ≤ zs.length) (hl2 : zs.length ≤ 1000) : Calls Try.prog 43 #[v] w fun e w' => e = .returned (.int .i64 (zs.getD (amx zs (zs.length - 1)) 0)) ∧ Bw w w' := by
  obtain ⟨b, off, cap, rfl, hb, hc⟩ := hv.at hl
  obtain ⟨n, hn⟩ : ∃ n, n = zs.length := ⟨_, rfl⟩
  rw [← hn] at hl hl2 hc ⊢
  have HC := Lib.hid hc
  have c0 := hc 0 (by omega)
  rw [Nat.add_zero] at c0
  have h1 : ¬ (n : Int) < 1 := by omega
  have h2 : (0 : Int) < n := by omega
  have HA0 := Lib.hid (show zs.getD (amx zs 0) 0 = zs.getD 0 0 from rfl)
  obtain ⟨z0, hz0⟩ : ∃ z0, z0 = zs.getD 0 0 := ⟨_, rfl⟩
  rw [← hz0] at c0 HA0
  have HN := Lib.hid hn
  clear hc hv hn hz0
  go_enter Try.func43, Try.ntmps43
  go_wp2
  go_loopg [3, 4] 1000 (fun gg s3 s4 wr => ∃ k : Nat, 1 ≤ k ∧ k ≤ n ∧ n - k ≤ gg ∧ s4 = .int .i64 k ∧ s3 = .int .i64 (zs.getD (amx zs (k - 1)) 0) ∧ wr = w)
  case atStart => exact ⟨1, Nat.le_refl _, hl, by omega, rfl, by rw [HA0.out], rfl⟩
  case round =>
    obtain ⟨k, hk1, hk, hgg, rfl, rfl, hwr⟩ := hrel
    replace hwr := hwr.symm
    subst hwr
    by_cases hlt : k < n
    · have hkz : (k : Int) < n := by omega
      have d := HC.out k hlt
      have HX := Lib.hid (show zs.getD (amx zs k) 0 = if zs.getD (amx zs (k - 1)) 0 < zs.getD k 0 then zs.getD k 0 else zs.getD (amx zs (k - 1)) 0 by
        obtain ⟨j, rfl⟩ : ∃ j, k = j + 1 := ⟨k - 1, by omega⟩
        simp only [Nat.add_sub_cancel]
        conv => lhs; unfold amx
        split <;> rfl)
      generalize zs.getD k 0 = z at d HX
      generalize zs.getD (amx zs (k - 1)) 0 = m at HX ⊢
      by_cases hmz : m < z
      · have HX2 := Lib.hid (show zs.getD (amx zs k) 0 = z by rw [HX.out, if_pos hmz])
        have hq : ¬ z < m := by omega
        have hq2 : ¬ z = m := by omega
        have hq3 : ¬ m = z := by omega
        go_wp2
        go_roundg (n - (k + 1))
        case measure => omega
        case rel => exact ⟨k + 1, by omega, by omega, by omega, by go_num, by rw [Nat.add_sub_cancel, HX2.out], rfl⟩
      · have HX2 := Lib.hid (show zs.getD (amx zs k) 0 = m by rw [HX.out, if_neg hmz])
        by_cases hq : z = m
        · subst hq
          go_wp2
          go_roundg (n - (k + 1))
          case measure => omega
          case rel => exact ⟨k + 1, by omega, by omega, by omega, by go_num, by rw [Nat.add_sub_cancel, HX2.out], rfl⟩
        · have hq2 : z < m := by omega
          go_wp2
          go_roundg (n - (k + 1))
          case measure => omega
          case rel => exact ⟨k + 1, by omega, by omega, by omega, by go_num, by rw [Nat.add_sub_cancel, HX2.out], rfl⟩
    · obtain rfl : n = k := by omega
      have hkz : ¬ (n : Int) < n := by omega
      go_wp2
      go_ret
      exact ⟨rfl, Bw.refl _⟩
theorem Index_any (zs : List Int) (v : Value) (x : Int) (a : Nat) (w : World) (hv : RdI w v zs) (ha : a < zs.length) (hx : zs.getD a 0 = x) (hb : ∀ j, j < a → zs.getD j 0 ≠ x) (hl2 : zs.length ≤ 1000) : Calls Try.prog 42 #[v, .int .i64 x] w fun e w' => e = .returned (.int .i64 a) ∧ Bw w w' := by
  obtain ⟨b, off, cap, rfl, hb0, hc⟩ := hv.at (by omega)
  obtain ⟨n, hn⟩ : ∃ n, n = zs.length := ⟨_, rfl⟩
  rw [← hn] at ha hl2 hc ⊢
  have HC := Lib.hid hc
  have HB := Lib.hid hb
  have HX := Lib.hid hx
  clear hc hv hn hb hx
  go_enter Try.func42, Try.ntmps42
  go_wp2
  go_loopg [8] 1000 (fun gg s8 wr => ∃ k : Nat, k ≤ a ∧ a - k ≤ gg ∧ s8 = .int .i64 k ∧ wr = w)
  case atStart => exact ⟨0, Nat.zero_le _, by omega, rfl, rfl⟩
  case round =>
    obtain ⟨k, hk, hgg, rfl, hwr⟩ := hrel
    replace hwr := hwr.symm
    subst hwr
    have hkz : (k : Int) < n := by omega
    have d := HC.out k (by omega)
    by_cases hlt : k < a
    · have hne := HB.out k hlt
      generalize zs.getD k 0 = z at d hne
      have hne2 : ¬ x = z := fun e => hne e.symm
      go_wp2
      go_roundg (a - (k + 1))
      case measure => omega
      case rel => exact ⟨k + 1, by omega, by omega, by go_num, rfl⟩
    · obtain rfl : a = k := by omega
      rw [HX.out] at d
      go_wp2
      go_ret
      exact ⟨rfl, Bw.refl _⟩
theorem greatest_any (zs : List Int) (v : Value) (w : World) (hv : RdI w v zs) (hl : 1 ≤ zs.length) (hl2 : zs.length ≤ 1000) : Calls Try.prog 37 #[v] w fun e w' => e = .returned (.int .i64 (amx zs (zs.length - 1))) ∧ Bw w w' := by
  have HV := Lib.hid hv
  obtain ⟨ad, cap, rfl⟩ := hv.form
  clear hv
  obtain ⟨h1, h2, h3⟩ := amx_spec zs (zs.length - 1)
  have HM := Lib.hid (fun W hW => Max_any zs (.slice ad zs.length cap) W hW hl hl2)
  have HI := Lib.hid (fun W hW => Index_any zs (.slice ad zs.length cap) (zs.getD (amx zs (zs.length - 1)) 0) (amx zs (zs.length - 1)) W hW (by omega) rfl (fun j hj e => by have := h3 j hj; omega) hl2)
  clear h1 h2 h3
  generalize amx zs (zs.length - 1) = at_ at *
  generalize zs.getD at_ 0 = x at *
  go_enter Try.func37, Try.ntmps37
  go_wp2_with (first | (go_at_call 43; (with_reducible refine Calls.mono (HM.out _ HV.out) ?_); rintro e1 w1 ⟨rfl, hb1⟩) | (go_at_call 42; (with_reducible refine Calls.mono (HI.out _ (HV.out.mono hb1)) ?_); rintro e1 w2 ⟨rfl, hb2⟩))
  go_ret
  exact ⟨rfl, hb1.trans hb2⟩
end Go.Proofs.Sky
