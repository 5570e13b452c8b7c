/-
  lemmas for the theorems of this claim. No conditions beyond those written in the statements.
-/
import Derived.Test.YtcbkjfakedngbaaA25
import Derived.Test.YtcbkjfakedngbaaRF
import Derived.Test.YtcbkjfakedngbaaP25
set_option linter.unusedVariables false
set_option linter.unusedSimpArgs false
set_option linter.unnecessarySimpa false
namespace Go.Proofs.Sky
open Go Go.RowKit Go.Shelf
attribute [local go_sem] Oper.semAt_some
set_option maxHeartbeats 1000000
theorem places_any (a n : Int) (g : Bool) (u c : Int) (w : World) : Calls Try.prog 40 #[.agg #[.int .i64 a, .int .i64 n, .bool g, .int .i64 u, .int .i64 c]] w fun e w' => e = .returned (.func (.func 43) #[] #[.pointer (some ⟨w.heap.size, 0, none⟩)]) ∧ w' = w.alloc (.cells #[.int .i64 a, .int .i64 n, .bool g, .int .i64 u, .int .i64 c] 24) := by
  go_enter Try.func40, Try.ntmps40
  go_wp2
  go_ret
  exact ⟨rfl, rfl⟩
def cl (N x : Nat) : Nat := min x (N - 1)
theorem cl_lt (N x : Nat) (h : 0 < N) : cl N x < N := by unfold cl; omega
theorem cl_of (N x : Nat) (h : x < N) : cl N x = x := by unfold cl; omega
def encP (a : Int) (N : Nat) (x : Nat) : Array Value := #[.int .i64 (a + cl N x), .int .i64 (N - 1 - cl N x)]
set_option maxRecDepth 100000 in
set_option maxHeartbeats 2000000 in
theorem places_stops (a : Int) (N : Nat) (ha : 0 ≤ a) (ha2 : a ≤ 4000) (hN : N ≤ 40) (B : Nat) (w : World) (hB : B < w.heap.size) (c0 : w.cell? ⟨B, 0, none⟩ = some (.int .i64 a)) (c1 : w.cell? ⟨B, 1, none⟩ = some (.int .i64 N)) :
    SeqStopsK Fence.wide 9 Try.prog 43 #[.pointer (some ⟨B, 0, none⟩)] (encP a N) (KpB B) (fun xs => xs = List.range N) (fun pre => ∃ k, k ≤ N ∧ pre = List.range k) N w := fun l J Jx W hW _ _ hY h0 => by
  have d0 := (hW.cell (p := ⟨B, 0, none⟩) hB).trans c0
  have d1 := (hW.cell (p := ⟨B, 1, none⟩) hB).trans c1
  refine callsIn_of_wp Try.func43 rfl trivial ?_ rfl
  simp only [Try.ntmps43, List.size_toArray, List.length_cons, List.length_nil, Nat.reduceAdd, Nat.reduceSub, Array.replicate_succ, Array.replicate_zero, List.push_toArray, List.append_toArray, List.nil_append, List.cons_append]
  have hY' := hY; clear hY
  gi_wp2
  gi_loopw [6] (fun i wr => ∃ k : Nat, k ≤ N ∧ i = .int .i64 k ∧ J (List.range k) wr ∧ KpB B W wr) (fun i _ => N - (intOf i).toNat)
  case atStart => exact ⟨0, Nat.zero_le _, rfl, h0, fun _ => rfl⟩
  case round =>
    obtain ⟨k, hk, rfl, hJs, hkp⟩ := hrel
    have e0 := (hkp 0).trans d0
    have e1 := (hkp 1).trans d1
    by_cases hlt : k < N
    · obtain ⟨fn, tmps, assign, body, hy, hR⟩ := hY' _ k wr hJs (by simpa using hlt)
      unfold encP at hy
      rw [cl_of N k hlt] at hy
      have hlti : (k : Int) < N := by omega
      gi_wp2
      refine hR.mono ?_
      rintro e W3 (⟨rfl, hJ3, hk3⟩ | ⟨rfl, hJx3⟩)
      · gi_wp2
        go_roundw
        case rel => exact ⟨k + 1, by omega, by go_num, by rw [List.range_succ]; exact hJ3, kpB_t hkp hk3⟩
        case measure => simp [intOf]; omega
      · gi_wp2
        refine bodyPost_ret (results_none rfl _ _ _) rfl ?_
        exact ⟨⟨_, rfl⟩, .inr ⟨_, ⟨k + 1, by omega, List.range_succ.symm⟩, hJx3⟩⟩
    · obtain rfl : k = N := by omega
      gi_wp2
      go_end0
      exact ⟨⟨_, rfl⟩, .inl ⟨_, rfl, hJs⟩⟩
end Go.Proofs.Sky
