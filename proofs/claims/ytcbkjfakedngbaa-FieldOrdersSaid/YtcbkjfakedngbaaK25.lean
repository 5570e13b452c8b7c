/-
  lemmas for the theorems of this claim. No conditions beyond those written in the statements.
-/
import Derived.Test.YtcbkjfakedngbaaJ25
set_option linter.unusedVariables false
set_option linter.unusedSimpArgs false
set_option linter.unnecessarySimpa false
namespace Go.Proofs.Sky
open Go Go.RowKit Go.Shelf
set_option maxHeartbeats 1000000
theorem bitN_add (x : Int) (N j : Nat) (h : j < N) : bitN (x + 2 ^ N) j = bitN x j := by
  unfold bitN
  obtain ⟨d, rfl⟩ : ∃ d, N = j + (d + 1) := ⟨N - j - 1, by omega⟩
  have hp := pow_pos' j
  rw [Int.pow_add, Int.add_mul_ediv_left _ _ (by omega), Int.pow_succ]
  omega
theorem bitN_step (x : Int) (k : Nat) : x / 2 ^ k / 2 = x / 2 ^ (k + 1) := by
  have hp := pow_pos' k
  rw [Int.pow_succ]; first | rw [Int.ediv_ediv_of_nonneg (by omega)] | rw [Int.ediv_ediv_eq_ediv_mul _ (by omega)] | exact Int.ediv_ediv_eq_ediv_mul _ (by omega)
theorem write_ok (zs : List Int) (bl cap len : Nat) (A N : Nat) (g : Bool) (u c x : Int) (w : World) (h : fk A N u c) (hl : A + N ≤ len) (hz : zs.length = len) (hlen : len ≤ 9223372036854775807) (hb : bl < w.heap.size) (ho : OwI w bl zs) (x1 : -1099511627776 ≤ x) (x2 : x ≤ 1099511627776) :
    Calls Try.prog 38 #[.slice (some ⟨bl, 0, none⟩) len cap, .agg #[.int .i64 A, .int .i64 N, .bool g, .int .i64 u, .int .i64 c], .int .i64 x] w fun e w' => e = .returned (.tuple #[]) ∧ OwI w' bl (putL zs A N x N) ∧ Gr bl w w' := by
  obtain ⟨h1, h2, h3, h4', h5, h6, h7, h8, h9⟩ := h
  have ⟨p1, p2⟩ := pow40 N (by omega)
  have HZ := Lib.hid hz; clear hz
  have HO0 := Lib.hid ho; clear ho
  obtain ⟨y, hy, HB⟩ : ∃ y : Int, y = (if x < 0 then x + 2 ^ N else x) ∧ Hid (∀ j, j < N → bitN y j = bitN x j) := by
    by_cases hx : x < 0
    · exact ⟨x + 2 ^ N, by rw [if_pos hx], fun j hj => bitN_add x N j hj⟩
    · exact ⟨x, by rw [if_neg hx], fun _ _ => rfl⟩
  have HY := Lib.hid hy; clear hy
  by_cases hx : x < 0
  all_goals
    first | rw [if_pos hx] at HY | rw [if_neg hx] at HY
    go_enter Try.func38, Try.ntmps38
    go_wp2
    go_loopw [2, 6] (fun n i wr => ∃ k : Nat, k ≤ N ∧ i = .int .i64 ((A : Int) + N - 1 - k) ∧ (∃ m : Int, n = .int .i64 m ∧ -1099511627776 ≤ m ∧ m ≤ 2199023255552 ∧ Hid (∀ j, bitN m j = bitN y (k + j))) ∧
        (wr.cell? ⟨w.heap.size, 0, none⟩ = some (.int .i64 A)) ∧ Gr bl w wr ∧ Hid (∃ ws : List Int, ws.length = len ∧ OwI wr bl ws ∧ ∀ i, ws.getD i 0 = if A + N - k ≤ i ∧ i < A + N then bitN x (A + N - 1 - i) else zs.getD i 0)) (fun _ i _ => (1 + intOf i).toNat)
    case atStart =>
      refine ⟨0, Nat.zero_le _, by simp, ⟨_, rfl, by omega, by omega, ?_⟩, by simp [go_sem], Gr.of_bw (by repeat (first | exact Bw.refl _ | assumption | refine Bw.alloc ?_ _ | refine Bw.drew ?_ | refine Bw.trans ?_ (by assumption) | refine Bw.setCell ?_ (by simp; try omega) _)), zs, HZ.out, HO0.out.bw (by repeat (first | exact Bw.refl _ | assumption | refine Bw.alloc ?_ _ | refine Bw.drew ?_ | refine Bw.trans ?_ (by assumption) | refine Bw.setCell ?_ (by simp; try omega) _)), fun i => by rw [if_neg (by omega)]⟩
      intro j
      rw [HY.out, Nat.zero_add]
    case round =>
      obtain ⟨k, hk, rfl, ⟨m, rfl, m1, m2, HM⟩, kA, hG, HW⟩ := hrel
      by_cases hlt : k < N
      · obtain ⟨ws, hwl, hO, hg⟩ := HW.out
        have hidx : A + N - 1 - k < ws.length := by omega
        have hcz := hO.cell _ hidx
        have hfz := hO.free _ hidx
        have ha1 := and1 m
        have hki : (A : Int) ≤ A + N - 1 - k := by omega
        have hkl : (A : Int) + N - 1 - k < len := by omega
        have hkt : ((A : Int) + N - 1 - k).toNat = A + N - 1 - k := by omega
        have HWS := Lib.hid (And.intro hwl (And.intro hO hg))
        have HBK := Lib.hid (show m % 2 = bitN x k by rw [← HB.out k hlt, ← Nat.add_zero k, ← HM.out 0]; unfold bitN; simp)
        have HM2 := Lib.hid (show ∀ j, bitN (m / 2) j = bitN y (k + 1 + j) from fun j => by
          rw [show k + 1 + j = k + (j + 1) by omega, ← HM.out (j + 1)]; unfold bitN
          rw [show (2 : Int) ^ (j + 1) = 2 * 2 ^ j by rw [Int.pow_succ]; omega]
          have hp := pow_pos' j
          first | rw [Int.ediv_ediv_of_nonneg (by omega)] | rw [Int.ediv_ediv_eq_ediv_mul _ (by omega)] | exact congrArg (· % 2) (Int.ediv_ediv_eq_ediv_mul _ (by omega)))
        clear hwl hO hg HM HW
        go_wp2
        go_roundw
        case rel =>
          refine ⟨k + 1, by omega, by go_num, ⟨_, rfl, by omega, by omega, HM2.out⟩, ?_, hG.set (.inl rfl) _, ws.set (A + N - 1 - k) (m % 2), by rw [List.length_set]; exact HWS.out.1, HWS.out.2.1.set _ _ (by rw [HWS.out.1]; omega), fun i => ?_⟩
          · rw [cell_set_ne _ _ _ _ _ _ (by omega)]; exact kA
          · have := HWS.out.2.2 i
            by_cases e : A + N - 1 - k = i
            · subst e
              rw [if_pos (by omega), HBK.out]
              simp [List.getD_eq_getElem?_getD, HWS.out.1, show A + N - 1 - k < len by omega, show A + N - 1 - (A + N - 1 - k) = k by omega]
            · simp only [List.getD_eq_getElem?_getD, List.getElem?_set] at this ⊢
              rw [if_neg e, this]
              by_cases q : A + N - k ≤ i ∧ i < A + N
              · rw [if_pos q, if_pos (by omega)]
              · rw [if_neg q, if_neg (by omega)]
        case measure => simp [intOf]; omega
      · obtain rfl : k = N := by omega
        have hkl : (A : Int) + k - 1 - k < A := by omega
        go_wp2
        go_end0
        refine ⟨rfl, ?_, hG⟩
        obtain ⟨ws, hwl, hO, hg⟩ := HW.out
        have hz := HZ.out
        have e : ws = putL zs A k x k := by
          apply List.ext_getElem?
          intro i
          rcases Nat.lt_or_ge i len with hi | hi
          · have a1 := hg i
            have a2 := putL_get zs A k x k i (by omega)
            simp only [List.getD_eq_getElem?_getD] at a1 a2
            rw [List.getElem?_eq_getElem (by omega)] at a1 ⊢
            rw [List.getElem?_eq_getElem (by rw [putL_length]; omega)] at a2 ⊢
            simp only [Option.getD_some] at a1 a2
            rw [a1, a2]
            by_cases q : A ≤ i ∧ i < A + k
            · rw [if_pos (by omega), if_pos q, show A + k - 1 - i = k - 1 - (i - A) by omega]
            · rw [if_neg (by omega), if_neg q]
          · rw [List.getElem?_eq_none (by omega), List.getElem?_eq_none (by rw [putL_length]; omega)]
        rw [← e]; exact hO
end Go.Proofs.Sky
