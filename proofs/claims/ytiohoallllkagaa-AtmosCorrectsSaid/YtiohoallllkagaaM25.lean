/-
  lemmas for the theorems of this claim. No conditions beyond those written in the statements.
-/
import Derived.Test.YtiohoallllkagaaRdAt
import Derived.Test.YtiohoallllkagaaL25
set_option linter.unusedVariables false
set_option linter.unusedSimpArgs false
set_option linter.unnecessarySimpa false
namespace Go.Proofs.Sky
open Go Go.RowKit Go.Shelf
set_option maxHeartbeats 1000000
theorem list_eq_getD {xs ys : List Int} (hl : xs.length = ys.length) (h : ∀ i, i < xs.length → xs.getD i 0 = ys.getD i 0) : xs = ys := by
  apply List.ext_getElem hl
  intro i h1 h2
  have := h i h1
  simpa [List.getD_eq_getElem?_getD, List.getElem?_eq_getElem h1, List.getElem?_eq_getElem h2] using this
theorem list_ne_getD {xs ys : List Int} (i : Nat) (h : xs.getD i 0 ≠ ys.getD i 0) : ¬ xs = ys := fun e => h (by rw [e])
theorem alike_any (xs ys : List Int) (v1 v2 : Value) (w : World) (h1 : RdI w v1 xs) (h2 : RdI w v2 ys) : Calls Try.prog 22 #[v1, v2] w fun e w' => e = .returned (.bool (decide (xs = ys))) ∧ Bw w w' := by
  have hx := h1.1
  have hy := h2.1
  by_cases hl : xs.length = ys.length
  · by_cases h0 : 0 < xs.length
    · obtain ⟨b1, o1, c1, rfl, hb1, z1⟩ := h1.at h0
      obtain ⟨b2, o2, c2, rfl, hb2, z2⟩ := h2.at (by omega)
      have HL := Lib.hid hl
      rw [← hl] at z2
      rw [← hl]
      obtain ⟨n, hn⟩ : ∃ n, xs.length = n := ⟨_, rfl⟩
      rw [hn] at z1 z2 hx h0 ⊢
      have HN := Lib.hid hn; clear hn hl hy
      have Z1 := Lib.hid z1; clear z1
      have Z2 := Lib.hid z2; clear z2
      clear h1 h2
      go_enter Try.func22, Try.ntmps22
      go_wp2
      go_loopw [5] (fun i wr => ∃ k : Nat, k ≤ n ∧ i = .int .i64 k ∧ Bw w wr ∧ Hid (∀ j, j < k → xs.getD j 0 = ys.getD j 0)) (fun i _ => n - (intOf i).toNat)
      case atStart => exact ⟨0, Nat.zero_le _, rfl, (by repeat (first | exact Bw.refl _ | assumption | refine Bw.alloc ?_ _ | refine Bw.drew ?_ | refine Bw.trans ?_ (by assumption) | refine Bw.setCell ?_ (by simp; try omega) _)), fun j hj => absurd hj (Nat.not_lt_zero _)⟩
      case round =>
        obtain ⟨k, hk, rfl, hbw, HA⟩ := hrel
        by_cases hlt : k < n
        · have d1 := Z1.out k hlt
          have d2 := Z2.out k hlt
          rw [← hbw.cells.1 _ _ hb1] at d1
          rw [← hbw.cells.1 _ _ hb2] at d2
          have HE := Lib.hid (show xs.getD k 0 = ys.getD k 0 → ∀ j, j < k + 1 → xs.getD j 0 = ys.getD j 0 from fun h j hj => by
            rcases Nat.lt_succ_iff_lt_or_eq.1 hj with h' | rfl
            · exact HA.out j h'
            · exact h)
          have HD := Lib.hid (list_ne_getD (xs := xs) (ys := ys) k)
          generalize xs.getD k 0 = p at d1 HE HD
          generalize ys.getD k 0 = q at d2 HE HD
          have e1 := fun p' : Ext wr => Ext.cell' d1 p'
          have e2 := fun p' : Ext wr => Ext.cell' d2 p'
          have hkn : (k : Int) < n := by omega
          by_cases hpq : p = q
          · subst hpq
            go_wp2
            (refine wp_region_quiet_ext (by kernel_rfl) (by kernel_rfl) ?_; (repeat (go_big_quiet_step ((fail)))); refine wpQuiet_nil ?_; rintro wq ⟨⟨_, hbq⟩, rfl⟩; obtain ⟨hccq, hffq⟩ := Bw.cells hbq; have hszq := Bw.size hbq)
            go_wp2
            go_roundw
            case rel => exact ⟨k + 1, by omega, by go_num, Bw.trans hbw hbq, HE.out (by simp)⟩
            case measure => simp [intOf]; omega
          · have hne : (p != q) = true := by simpa using hpq
            have hd : decide (xs = ys) = false := by simpa using HD.out hpq
            have HDD := Lib.hid hd; clear hd
            clear hpq
            go_wp2
            (refine wp_region_quiet_ext (by kernel_rfl) (by kernel_rfl) ?_; (repeat (go_big_quiet_step ((fail)))); refine wpQuiet_nil ?_; rintro wq ⟨⟨_, hbq⟩, rfl⟩; obtain ⟨hccq, hffq⟩ := Bw.cells hbq; have hszq := Bw.size hbq)
            go_wp2
            go_ret
            exact ⟨ret_bool HDD.out.symm, Bw.trans hbw hbq⟩
        · obtain rfl : k = n := by omega
          have hd : decide (xs = ys) = true := by simpa using list_eq_getD HL.out (fun i hi => HA.out i (by have := HN.out; omega))
          have HDD := Lib.hid hd; clear hd
          go_wp2
          go_ret
          exact ⟨ret_bool HDD.out.symm, hbw⟩
    · obtain rfl : xs = [] := List.length_eq_zero_iff.1 (by omega)
      obtain rfl : ys = [] := List.length_eq_zero_iff.1 (by simp at hl; omega)
      obtain ⟨a1, c1, rfl⟩ := h1.form
      obtain ⟨a2, c2, rfl⟩ := h2.form
      clear h1 h2
      go_enter Try.func22, Try.ntmps22
      go_wp2
      go_loopw [5] (fun i wr => i = .int .i64 0 ∧ Bw w wr) (fun i _ => 0)
      case atStart => exact ⟨rfl, (by repeat (first | exact Bw.refl _ | assumption | refine Bw.alloc ?_ _ | refine Bw.drew ?_ | refine Bw.trans ?_ (by assumption) | refine Bw.setCell ?_ (by simp; try omega) _))⟩
      case round =>
        obtain ⟨rfl, hbw⟩ := hrel
        go_wp2
        go_ret
        exact ⟨ret_bool (by simp), hbw⟩
  · obtain ⟨a1, c1, rfl⟩ := h1.form
    obtain ⟨a2, c2, rfl⟩ := h2.form
    clear h1 h2
    have hne : ((xs.length : Int) != ys.length) = true := by simp; omega
    have hd : decide (xs = ys) = false := by simp; intro e; exact hl (by rw [e])
    have HDD := Lib.hid hd; clear hd hl
    go_enter Try.func22, Try.ntmps22
    go_wp2
    go_ret
    exact ⟨ret_bool HDD.out.symm, (by repeat (first | exact Bw.refl _ | assumption | refine Bw.alloc ?_ _ | refine Bw.drew ?_ | refine Bw.trans ?_ (by assumption) | refine Bw.setCell ?_ (by simp; try omega) _))⟩
end Go.Proofs.Sky
