/-
  lemmas for the theorems of this claim. No conditions beyond those written in the statements.
-/
import Derived.Test.YtcbkjfakedngbaaH25
set_option linter.unusedVariables false
set_option linter.unusedSimpArgs false
set_option linter.unnecessarySimpa false
namespace Go.Proofs.Sky
open Go Go.RowKit Go.Shelf
set_option maxHeartbeats 1000000
theorem place_bad (zs : List Int) (ad : Option Addr) (len cap : Nat) (a n : Int) (g : Bool) (u c : Int) (w : World) (h : ¬ fk a n u c) : Calls Try.prog 36 #[.slice ad len cap, .agg #[.int .i64 a, .int .i64 n, .bool g, .int .i64 u, .int .i64 c]] w fun e w' => e = .returned (.int .i64 (errT zs a n u c)) ∧ Bw w w' := by
  have HE := Lib.hid (show errT zs a n u c = 2 by unfold errT; rw [errF_no h]; rfl)
  have HC := Lib.hid (fun w => RCheck_any a n g u c w)
  rw [errF_no h] at HC
  clear h
  go_enter Try.func36, Try.ntmps36
  go_wp2_with (go_at_call 17; refine (HC.out _).mono ?_; rintro e w' ⟨rfl, hb⟩; obtain ⟨hcc, hff⟩ := Bw.cells hb; have hsz := Bw.size hb; try (have hz0 : w.heap.size < w'.heap.size := by (try simp at hsz); omega); try (have hz1 : w.heap.size + 1 < w'.heap.size := by (try simp at hsz); omega); try (have hz2 : w.heap.size + 1 + 1 < w'.heap.size := by (try simp at hsz); omega); try (have hz3 : w.heap.size + 1 + 1 + 1 < w'.heap.size := by (try simp at hsz); omega); try (have hz4 : w.heap.size + 1 + 1 + 1 + 1 < w'.heap.size := by (try simp at hsz); omega); try (have hzr : wr.heap.size < w'.heap.size := by (try simp at hsz); omega); try (have hzr1 : wr.heap.size + 1 < w'.heap.size := by (try simp at hsz); omega))
  go_ret
  exact ⟨ret_int HE.out.symm, (by repeat (first | exact Bw.refl _ | assumption | refine Bw.alloc ?_ _ | refine Bw.drew ?_ | refine Bw.trans ?_ (by assumption) | refine Bw.setCell ?_ (by simp; try omega) _))⟩
theorem place_short (zs : List Int) (v : Value) (a n : Int) (g : Bool) (u c : Int) (w : World) (hv : RdI w v zs) (h : fk a n u c) (hl : (zs.length : Int) < a + n) : Calls Try.prog 36 #[v, .agg #[.int .i64 a, .int .i64 n, .bool g, .int .i64 u, .int .i64 c]] w fun e w' => e = .returned (.int .i64 (errT zs a n u c)) ∧ Bw w w' := by
  have HE := Lib.hid (show errT zs a n u c = 16 by unfold errT; rw [errF_ok h, if_pos rfl, if_pos hl])
  have HC := Lib.hid (fun w => RCheck_any a n g u c w)
  rw [errF_ok h] at HC
  obtain ⟨h2, ad, cap, rfl, h4⟩ := hv
  clear h4
  obtain ⟨h1, h2, h3, h4, h5, h6, h7, h8, h9⟩ := h
  go_enter Try.func36, Try.ntmps36
  go_wp2_with (go_at_call 17; refine (HC.out _).mono ?_; rintro e w' ⟨rfl, hb⟩; obtain ⟨hcc, hff⟩ := Bw.cells hb; have hsz := Bw.size hb; try (have hz0 : w.heap.size < w'.heap.size := by (try simp at hsz); omega); try (have hz1 : w.heap.size + 1 < w'.heap.size := by (try simp at hsz); omega); try (have hz2 : w.heap.size + 1 + 1 < w'.heap.size := by (try simp at hsz); omega); try (have hz3 : w.heap.size + 1 + 1 + 1 < w'.heap.size := by (try simp at hsz); omega); try (have hz4 : w.heap.size + 1 + 1 + 1 + 1 < w'.heap.size := by (try simp at hsz); omega); try (have hzr : wr.heap.size < w'.heap.size := by (try simp at hsz); omega); try (have hzr1 : wr.heap.size + 1 < w'.heap.size := by (try simp at hsz); omega))
  go_ret
  exact ⟨ret_int HE.out.symm, (by repeat (first | exact Bw.refl _ | assumption | refine Bw.alloc ?_ _ | refine Bw.drew ?_ | refine Bw.trans ?_ (by assumption) | refine Bw.setCell ?_ (by simp; try omega) _))⟩
theorem place_ok (zs : List Int) (v : Value) (A N : Nat) (g : Bool) (u c : Int) (w : World) (hv : RdI w v zs) (h : fk A N u c) (hl : A + N ≤ zs.length) : Calls Try.prog 36 #[v, .agg #[.int .i64 A, .int .i64 N, .bool g, .int .i64 u, .int .i64 c]] w fun e w' => e = .returned (.int .i64 (errT zs A N u c)) ∧ Bw w w' := by
  have HE := Lib.hid (show errT zs A N u c = if oksP zs A N then 0 else 3 by unfold errT; rw [errF_ok h, if_pos rfl, if_neg (by omega)]; simp)
  have HC := Lib.hid (fun w => RCheck_any A N g u c w)
  rw [errF_ok h] at HC
  obtain ⟨h2, ad, cap, rfl, h4⟩ := hv
  obtain ⟨h1, h2, h3, h4', h5, h6, h7, h8, h9⟩ := h
  obtain ⟨b, off, rfl, hb, hz⟩ := h4.resolve_left (by intro e; subst e; simp at hl; omega)
  have HZ := Lib.hid hz; clear hz h4
  go_enter Try.func36, Try.ntmps36
  go_wp2_with (go_at_call 17; refine (HC.out _).mono ?_; rintro e w' ⟨rfl, hb⟩; obtain ⟨hcc, hff⟩ := Bw.cells hb; have hsz := Bw.size hb; try (have hz0 : w.heap.size < w'.heap.size := by (try simp at hsz); omega); try (have hz1 : w.heap.size + 1 < w'.heap.size := by (try simp at hsz); omega); try (have hz2 : w.heap.size + 1 + 1 < w'.heap.size := by (try simp at hsz); omega); try (have hz3 : w.heap.size + 1 + 1 + 1 < w'.heap.size := by (try simp at hsz); omega); try (have hz4 : w.heap.size + 1 + 1 + 1 + 1 < w'.heap.size := by (try simp at hsz); omega); try (have hzr : wr.heap.size < w'.heap.size := by (try simp at hsz); omega); try (have hzr1 : wr.heap.size + 1 < w'.heap.size := by (try simp at hsz); omega))
  have hbw : Bw w w' := (by repeat (first | exact Bw.refl _ | assumption | refine Bw.alloc ?_ _ | refine Bw.drew ?_ | refine Bw.trans ?_ (by assumption) | refine Bw.setCell ?_ (by simp; try omega) _))
  have k0 : w'.cell? ⟨w.heap.size, 0, none⟩ = some (.int .i64 A) := by simp [*, go_sem]
  have k1 : w'.cell? ⟨w.heap.size, 1, none⟩ = some (.int .i64 N) := by simp [*, go_sem]
  clear hcc hff hb hsz
  go_loop [6] (fun i => ∃ k : Nat, k ≤ N ∧ i = .int .i64 (A + k : Nat) ∧ Hid (∀ j, j < k → zs.getD (A + j) 0 = 0 ∨ zs.getD (A + j) 0 = 1)) (fun i => A + N - (intOf i).toNat)
  case atStart => exact ⟨0, Nat.zero_le _, by simp, fun j hj => absurd hj (Nat.not_lt_zero _)⟩
  case round =>
    obtain ⟨k, hk, rfl, HA⟩ := hrel
    by_cases hlt : k < N
    · have hcz := HZ.out (A + k) (by omega)
      rw [← hbw.cells.1 _ _ ‹_›] at hcz
      have HN := Lib.hid (oksP_not zs A N k hlt)
      have HP := Lib.hid (show (zs.getD (A + k) 0 = 0 ∨ zs.getD (A + k) 0 = 1) → ∀ j, j < k + 1 → zs.getD (A + j) 0 = 0 ∨ zs.getD (A + j) 0 = 1 from fun h j hj => by
        rcases Nat.lt_succ_iff_lt_or_eq.1 hj with h' | rfl
        · exact HA.out j h'
        · exact h)
      generalize zs.getD (A + k) 0 = z at hcz HN HP
      have hki : (A : Int) + k < A + N := by omega
      have hkl : (A : Int) + k < zs.length := by omega
      have hkt : ((A : Int) + k).toNat = A + k := by omega
      by_cases z0 : z = 0
      · subst z0
        go_wp2
        go_round
        case rel => exact ⟨k + 1, by omega, by go_num, HP.out (by simp)⟩
        case measure => simp [intOf]; omega
      · by_cases z1 : z = 1
        · subst z1
          go_wp2
          go_round
          case rel => exact ⟨k + 1, by omega, by go_num, HP.out (by simp)⟩
          case measure => simp [intOf]; omega
        · have y0 : (z != 0) = true := by simpa using z0
          have y1 : (z != 1) = true := by simpa using z1
          go_wp2
          go_ret
          exact ⟨by rw [HE.out, HN.out z0 z1]; exact ret_int rfl, hbw⟩
    · obtain rfl : k = N := by omega
      have HO := Lib.hid ((oksP_iff zs A k).2 (fun i hi => HA.out i hi)); clear HA
      go_wp2
      go_ret
      exact ⟨by rw [HE.out, HO.out]; exact ret_int rfl, hbw⟩
theorem place_any (zs : List Int) (v : Value) (a n : Int) (g : Bool) (u c : Int) (w : World) (hv : RdI w v zs) : Calls Try.prog 36 #[v, .agg #[.int .i64 a, .int .i64 n, .bool g, .int .i64 u, .int .i64 c]] w fun e w' => e = .returned (.int .i64 (errT zs a n u c)) ∧ Bw w w' := by
  by_cases h : fk a n u c
  · by_cases hl : (zs.length : Int) < a + n
    · exact place_short zs v a n g u c w hv h hl
    · have h' := h
      obtain ⟨h1, _, h3, _⟩ := h'
      obtain ⟨A, rfl⟩ := Int.eq_ofNat_of_zero_le h1
      obtain ⟨N, rfl⟩ := Int.eq_ofNat_of_zero_le (show 0 ≤ n by omega)
      exact place_ok zs v A N g u c w hv h (by omega)
  · obtain ⟨ad, cap, rfl⟩ := hv.form
    exact place_bad zs ad zs.length cap a n g u c w h
end Go.Proofs.Sky
