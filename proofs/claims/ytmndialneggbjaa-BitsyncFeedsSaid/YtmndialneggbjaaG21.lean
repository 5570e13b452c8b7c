/-
  lemmas for the theorems of this claim. No conditions beyond those written in the statements.
-/
import Derived.Test.YtmndialneggbjaaF21
import Derived.Test.YtmndialneggbjaaRG
set_option linter.unusedVariables false
set_option linter.unusedSimpArgs false
set_option linter.unnecessarySimpa false
namespace Go.Proofs.Sky
open Go Go.RowKit Go.Shelf
attribute [local go_sem] Oper.semAt_some
set_option maxHeartbeats 2000000
theorem bits_any (a : Option Addr) (n c : Nat) (p at_ : Int) (w : World) : Calls Try.prog 33 #[.slice a n c, .int .i64 p, .int .i64 at_] w fun e w' => e = .returned (.func (.func 41) #[] #[.pointer (some ⟨w.heap.size, 0, none⟩), .pointer (some ⟨w.heap.size + 2, 0, none⟩), .pointer (some ⟨w.heap.size + 1, 0, none⟩)]) ∧ w' = ((w.alloc (.cells #[.slice a n c] 22)).alloc (.cells #[.int .i64 p] 3)).alloc (.cells #[.int .i64 at_] 3) := by
  go_enter Try.func33, Try.ntmps33
  go_wp2
  go_ret
  exact ⟨rfl, rfl⟩
/-- what a round must keep for the iterator: its three boxes -/
def KpT (B : Nat) (W W' : World) : Prop := W'.cell? ⟨B, 0, none⟩ = W.cell? ⟨B, 0, none⟩ ∧ W'.cell? ⟨B + 1, 0, none⟩ = W.cell? ⟨B + 1, 0, none⟩ ∧ W'.cell? ⟨B + 2, 0, none⟩ = W.cell? ⟨B + 2, 0, none⟩
theorem kpT_t {B : Nat} {X Y Z : World} (h : KpT B X Y) (k : KpT B Y Z) : KpT B X Z := ⟨k.1.trans h.1, k.2.1.trans h.2.1, k.2.2.trans h.2.2⟩
theorem kpT_refl (B : Nat) (W : World) : KpT B W W := ⟨rfl, rfl, rfl⟩
theorem kpT_b {B n : Nat} (hB : B + 2 < n) (W : World) (l : Nat) (o o' : Obj) (hl : n ≤ l) (_ : W.heap[l]? = some o) (_ : o.isCells = false) (_ : o.isWalk = false) : KpT B W (W.putObj l o') :=
  ⟨World.cell?_of_block (World.putObj_heap_other (by show B ≠ l; omega)), World.cell?_of_block (World.putObj_heap_other (by show B + 1 ≠ l; omega)), World.cell?_of_block (World.putObj_heap_other (by show B + 2 ≠ l; omega))⟩
def cl (N x : Nat) : Nat := min x (N - 1)
theorem cl_lt (N x : Nat) (h : 0 < N) : cl N x < N := by unfold cl; omega
theorem cl_of (N x : Nat) (h : x < N) : cl N x = x := by unfold cl; omega
theorem map_cl (N : Nat) : ∀ k, k ≤ N → (List.range k).map (cl N) = List.range k := by
  intro k hk
  conv => rhs; rw [← List.map_id (List.range k)]
  apply List.map_congr_left
  intro x hx
  exact cl_of N x (by have := List.mem_range.1 hx; omega)
/-- the chunk that the iterator yields -/
def encB (bb off cap st p N : Nat) (x : Nat) : Array Value := #[.slice (some ⟨bb, off + (st + cl N x * p) * 2, none⟩) p (cap - (st + cl N x * p))]
set_option maxRecDepth 100000 in
theorem bits_stops (bb off cap m st p : Nat) (at_ : Nat) (hst : st = min at_ m) (hp : 1 ≤ p) (hp2 : p ≤ 20) (hm : m ≤ 10000) (hcap : m ≤ cap) (ha : at_ < p) (hc9 : cap ≤ 9223372036854775807) (B : Nat) (w : World) (hB : B + 2 < w.heap.size) (c0 : w.cell? ⟨B, 0, none⟩ = some (.slice (some ⟨bb, off, none⟩) m cap)) (c1 : w.cell? ⟨B + 1, 0, none⟩ = some (.int .i64 p)) (c2 : w.cell? ⟨B + 2, 0, none⟩ = some (.int .i64 at_)) :
    SeqStopsK Fence.wide 9 Try.prog 41 #[.pointer (some ⟨B, 0, none⟩), .pointer (some ⟨B + 2, 0, none⟩), .pointer (some ⟨B + 1, 0, none⟩)] (encB bb off cap st p ((m - st) / p)) (KpT B) (fun xs => xs = List.range ((m - st) / p)) (fun pre => ∃ k, k ≤ (m - st) / p ∧ pre = List.range k) ((m - st) / p) w := fun l J Jx W hW _ _ hY h0 => by
  have d0 := (hW.cell (p := ⟨B, 0, none⟩) (by show B < _; omega)).trans c0
  have d1 := (hW.cell (p := ⟨B + 1, 0, none⟩) (by show B + 1 < _; omega)).trans c1
  have d2 := (hW.cell (p := ⟨B + 2, 0, none⟩) (by show B + 2 < _; omega)).trans c2
  clear c0 c1 c2 hW
  refine callsIn_of_wp Try.func41 rfl trivial ?_ rfl
  simp only [Try.ntmps41, List.size_toArray, List.length_cons, List.length_nil, Nat.reduceAdd, Nat.reduceSub, Array.replicate_succ, Array.replicate_zero, List.push_toArray, List.append_toArray, List.nil_append, List.cons_append]
  have hY' := Lib.hid hY; clear hY
  rcases Nat.lt_trichotomy at_ m with hx | hx | hx
  · have hx1 : (at_ : Int) < m := by omega
    have hx2 : ¬ (m : Int) < at_ := by omega
    have hx3 : ¬ (at_ : Int) = m := by omega
    have hse : st = at_ := by omega
    subst hse
    clear hst
    obtain ⟨N, hN⟩ : ∃ N, N = (m - st) / p := ⟨_, rfl⟩
    rw [← hN] at hY' ⊢
    have HNN := Lib.hid (fun k => (by rw [hN]; have h9 := Nat.le_div_iff_mul_le (show 0 < p by omega) (x := k + 1) (y := m - st); rw [Nat.succ_mul] at h9; exact h9 : k < N ↔ k * p + p ≤ m - st))
    clear hN
    gi_wp2
    gi_loopw [5] (fun i wr => ∃ k : Nat, k ≤ N ∧ st + k * p ≤ m ∧ (∃ o, i = .slice (some ⟨bb, o, none⟩) (m - (st + k * p)) (cap - (st + k * p)) ∧ (cap - (st + k * p) = 0 ∨ o = off + (st + k * p) * 2)) ∧ J (List.range k) wr ∧ KpT B W wr) (fun i _ => match i with | .slice _ n _ => n | _ => 0)
    case atStart => exact ⟨0, Nat.zero_le _, by omega, ⟨_, by simp; rfl, .inr (by simp)⟩, h0, kpT_refl _ _⟩
    case round =>
      obtain ⟨k, hk, hkm, ⟨o, rfl, ho⟩, hJs, hkp⟩ := hrel
      have e0 := hkp.1.trans d0
      have e1 := hkp.2.1.trans d1
      have e2 := hkp.2.2.trans d2
      by_cases hlt : k < N
      · have hroom := (HNN.out k).1 hlt
        have ho2 : o = off + (st + k * p) * 2 := by omega
        subst ho2
        obtain ⟨fn, tmps, assign, body, hy, hR⟩ := hY'.out _ k wr hJs (by simpa using hlt)
        unfold encB at hy
        rw [cl_of N k hlt] at hy
        have HR := Lib.hid hR
        clear hR ho
        obtain ⟨q, hq⟩ : ∃ q, q = st + k * p := ⟨_, rfl⟩
        have HQ := Lib.hid hq
        rw [← hq] at hy ⊢
        have hr2 : p ≤ m - q := by omega
        have hr3 : (p : Int) ≤ ((m - q : Nat) : Int) := by omega
        clear hq hroom
        gi_wp2
        refine HR.out.mono ?_
        rintro e W3 (⟨rfl, hJ3, hk3⟩ | ⟨rfl, hJx3⟩)
        · have e9 := hk3.2.1.trans e1
          have HJ3 := Lib.hid hJ3
          have HK3 := Lib.hid (kpT_t hkp hk3)
          clear hJ3 hk3 hJs hkp e0 e1 e2 d0 d1 d2
          gi_wp2
          go_roundw
          case rel =>
            have hq2 : st + (k + 1) * p = q + p := by rw [HQ.out, Nat.succ_mul]; omega
            refine ⟨k + 1, by omega, by omega, ?_, by rw [List.range_succ]; exact HJ3.out, HK3.out⟩
            rw [hq2]
            by_cases hcq : cap - q = p
            · rw [if_pos hcq]
              exact ⟨_, by rw [Nat.sub_sub, Nat.sub_sub], .inl (by omega)⟩
            · rw [if_neg hcq]
              exact ⟨_, by rw [Nat.sub_sub, Nat.sub_sub], .inr (by omega)⟩
          case measure => simp; omega
        · have HJ3 := Lib.hid hJx3
          clear hJx3
          gi_wp2
          refine bodyPost_ret (results_none rfl _ _ _) rfl ?_
          exact ⟨⟨_, rfl⟩, .inr ⟨_, ⟨k + 1, by omega, List.range_succ.symm⟩, HJ3.out⟩⟩
      · obtain rfl : k = N := by omega
        have hroom : ¬ (k * p + p ≤ m - st) := fun h => hlt ((HNN.out k).2 h)
        have hz : ¬ (p : Int) ≤ ((m - (st + k * p) : Nat) : Int) := by omega
        gi_wp2
        go_end0
        exact ⟨⟨_, rfl⟩, .inl hJs⟩
  · subst hx
    have hse : st = at_ := by omega
    subst hse
    clear hst
    have HNZ := Lib.hid (show List.range ((st - st) / p) = [] by simp)
    have hxx : ¬ (st : Int) < st := by omega
    gi_wp2
    all_goals
      gi_loopw [5] (fun i wr => (∃ o C, i = .slice (some ⟨bb, o, none⟩) 0 C) ∧ wr = W) (fun i _ => 0)
      case atStart => exact ⟨⟨_, _, rfl⟩, rfl⟩
      case round =>
        obtain ⟨⟨o, C, rfl⟩, hwr⟩ := hrel
        replace hwr := hwr.symm
        subst hwr
        have hz : ¬ (p : Int) ≤ 0 := by omega
        gi_wp2
        go_end0
        exact ⟨⟨_, rfl⟩, .inl h0⟩
  · have hx1 : (m : Int) < at_ := by omega
    have hx2 : ¬ (at_ : Int) < m := by omega
    have hx3 : ¬ (at_ : Int) = m := by omega
    have hse : st = m := by omega
    subst hse
    clear hst
    have HNZ := Lib.hid (show List.range ((st - st) / p) = [] by simp)
    gi_wp2
    all_goals
      gi_loopw [5] (fun i wr => (∃ o C, i = .slice (some ⟨bb, o, none⟩) 0 C) ∧ wr = W) (fun i _ => 0)
      case atStart => exact ⟨⟨_, _, rfl⟩, rfl⟩
      case round =>
        obtain ⟨⟨o, C, rfl⟩, hwr⟩ := hrel
        replace hwr := hwr.symm
        subst hwr
        have hz : ¬ (p : Int) ≤ 0 := by omega
        gi_wp2
        go_end0
        exact ⟨⟨_, rfl⟩, .inl h0⟩
end Go.Proofs.Sky
