/-
  lemmas for the theorems of this claim. No conditions beyond those written in the statements.
-/
import Derived.Test.YtmilfedbggbpdaaA13
import Derived.Test.YtmilfedbggbpdaaB13
set_option linter.unusedVariables false
set_option linter.unusedSimpArgs false
set_option linter.unnecessarySimpa false
namespace Go.Proofs.Sky
open Go Go.RowKit
set_option maxHeartbeats 1000000
def inI (m x : Int) : Bool := decide (-m ≤ x ∧ x ≤ m)
def inP (m : Int) (p : Int × Int) : Bool := inI m p.1 && inI m p.2
theorem inI_t {m x : Int} (h1 : -m ≤ x) (h2 : x ≤ m) : inI m x = true := by simp [inI, h1, h2]
theorem inI_f {m x : Int} (h : ¬ (-m ≤ x ∧ x ≤ m)) : inI m x = false := by simp only [inI, decide_eq_false_iff_not]; exact h
theorem within_any (x y m : Int) (h0 : 0 ≤ m) (h1 : m ≤ 70368744177664) (w : World) : Calls Try.prog 45 #[.agg #[.int .i64 x, .int .i64 y], .int .i64 m] w fun e w' => e = .returned (.bool (inP m (x, y))) ∧ Bw w w' := by
  have i0 : ∀ w, (Instr.index 65 (.agg #[.int .i64 x, .int .i64 y]) (.int .i64 0)).run Try.prog w = .ok (.int .i64 x) w := fun _ => by kernel_rfl
  have i1 : ∀ w, (Instr.index 65 (.agg #[.int .i64 x, .int .i64 y]) (.int .i64 1)).run Try.prog w = .ok (.int .i64 y) w := fun _ => by kernel_rfl
  go_enter Try.func45, Try.ntmps45
  go_wp2_with (go_at_call 41; refine (parts_any _ _ _).mono ?_; rintro e w1 ⟨rfl, hb⟩)
  go_loopg [6, 9] 2 (fun gg _ s9 wr => wr = w1 ∧ ∃ k : Nat, k ≤ 2 ∧ 2 - k ≤ gg ∧ s9 = .int .i64 k ∧ Hid (1 ≤ k → inI m x = true) ∧ Hid (2 ≤ k → inI m y = true))
  case atStart => exact ⟨rfl, 0, by omega, by omega, rfl, fun h => by omega, fun h => by omega⟩
  case round =>
    obtain ⟨rfl, k, hk, hg, rfl, H1, H2⟩ := hrel
    obtain rfl | rfl | rfl : k = 0 ∨ k = 1 ∨ k = 2 := by omega
    · clear H1 H2
      by_cases hx : -m ≤ x ∧ x ≤ m
      · obtain ⟨hx1, hx2⟩ := hx
        go_wp2
        go_roundg 1
        case measure => omega
        case rel => exact ⟨rfl, 1, by omega, by omega, rfl, fun _ => inI_t hx1 hx2, fun h => by omega⟩
      · have HX := Lib.hid hx; clear hx
        go_wp2
        all_goals first | (exfalso; have := HX.out; omega) | (go_ret; exact ⟨ret_bool (by simp [inP, inI_f HX.out]), (by repeat (first | exact Bw.refl _ | assumption | refine Bw.alloc ?_ _ | refine Bw.drew ?_ | refine Bw.trans ?_ (by assumption) | refine Bw.setCell ?_ (by simp; try omega) _))⟩)
    · have HX := Lib.hid (H1.out (by omega))
      clear H1 H2
      by_cases hx : -m ≤ y ∧ y ≤ m
      · obtain ⟨hx1, hx2⟩ := hx
        go_wp2
        go_roundg 0
        case measure => omega
        case rel => exact ⟨rfl, 2, by omega, by omega, rfl, fun _ => HX.out, fun _ => inI_t hx1 hx2⟩
      · have HY := Lib.hid hx; clear hx
        go_wp2
        all_goals first | (exfalso; have := HY.out; omega) | (go_ret; exact ⟨ret_bool (by simp [inP, inI_f HY.out]), (by repeat (first | exact Bw.refl _ | assumption | refine Bw.alloc ?_ _ | refine Bw.drew ?_ | refine Bw.trans ?_ (by assumption) | refine Bw.setCell ?_ (by simp; try omega) _))⟩)
    · have HX := Lib.hid (H1.out (by omega))
      have HY := Lib.hid (H2.out (by omega))
      clear H1 H2
      go_wp2
      go_ret
      exact ⟨ret_bool (by simp [inP, HX.out, HY.out]), (by repeat (first | exact Bw.refl _ | assumption | refine Bw.alloc ?_ _ | refine Bw.drew ?_ | refine Bw.trans ?_ (by assumption) | refine Bw.setCell ?_ (by simp; try omega) _))⟩
theorem closure_any (x y m : Int) (h0 : 0 ≤ m) (h1 : m ≤ 70368744177664) (b1 b2 : Nat) (w : World) (c1 : w.cell? ⟨b1, 0, none⟩ = some (.func (.func 45) #[] #[])) (c2 : w.cell? ⟨b2, 0, none⟩ = some (.int .i64 m)) (hb1 : b1 < w.heap.size) (hb2 : b2 < w.heap.size) :
   Calls Try.prog 47 #[.agg #[.int .i64 x, .int .i64 y], .pointer (some ⟨b1, 0, none⟩), .pointer (some ⟨b2, 0, none⟩)] w fun e w' => e = .returned (.bool (! inP m (x, y))) ∧ Bw w w' := by
  go_enter Try.func47, Try.ntmps47
  go_wp2_with (go_at_call 45; refine (within_any _ _ _ (by omega) (by omega) _).mono ?_; rintro e w' ⟨rfl, hb⟩; obtain ⟨hcc, hff⟩ := Bw.cells hb; have hsz := Bw.size hb; try (have hz0 : w.heap.size < w'.heap.size := by (try simp at hsz); omega); try (have hz1 : w.heap.size + 1 < w'.heap.size := by (try simp at hsz); omega); try (have hz2 : w.heap.size + 1 + 1 < w'.heap.size := by (try simp at hsz); omega); try (have hz3 : w.heap.size + 1 + 1 + 1 < w'.heap.size := by (try simp at hsz); omega); try (have hz4 : w.heap.size + 1 + 1 + 1 + 1 < w'.heap.size := by (try simp at hsz); omega); try (have hzr : wr.heap.size < w'.heap.size := by (try simp at hsz); omega); try (have hzr1 : wr.heap.size + 1 < w'.heap.size := by (try simp at hsz); omega))
  go_ret
  exact ⟨rfl, (by repeat (first | exact Bw.refl _ | assumption | refine Bw.alloc ?_ _ | refine Bw.drew ?_ | refine Bw.trans ?_ (by assumption) | refine Bw.setCell ?_ (by simp; try omega) _))⟩
def errS (m : Int) (ps : List (Int × Int)) : Int := if 1048576 < ps.length then 4 else if ps.any (fun p => ! inP m p) then 2 else 0
theorem check_s (m : Int) (h0 : 0 ≤ m) (h1 : m ≤ 70368744177664) (ps : List (Int × Int)) (v : Value) (w : World) (hv : RdS w v ps) :
   Calls Try.prog 34 #[v, .int .i64 m] w fun e w' => e = .returned (.int .i64 (errS m ps)) ∧ Bw w w' := by
  have hvv := hv
  obtain ⟨h2, a, cap, rfl, _⟩ := hvv
  have HV := Lib.hid hv; clear hv
  have eg : ∀ args w, (callFunc 47 args).run Try.prog w = .ok (.enter 47 args) w := enters_of Try.func47 (by kernel_rfl) rfl
  by_cases hl : 1048576 < ps.length
  · have HE := Lib.hid (show errS m ps = 4 by unfold errS; rw [if_pos hl])
    go_enter Try.func34, Try.ntmps34
    go_wp2
    go_ret
    exact ⟨ret_int HE.out.symm, (by repeat (first | exact Bw.refl _ | assumption | refine Bw.alloc ?_ _ | refine Bw.drew ?_ | refine Bw.trans ?_ (by assumption) | refine Bw.setCell ?_ (by simp; try omega) _))⟩
  · have hlt : ps.length ≤ 1048576 := by omega
    have hmf : ∀ (fn : Fn) (first cap : Array Value) (w : World), (Instr.makeFunc fn first cap).run Try.prog w = .ok (.func fn first cap) w := fun _ _ _ _ => rfl
    have HC : Hid (Calls Try.prog 46 #[.slice a ps.length cap, .func (.func 47) #[] #[.pointer (some ⟨w.heap.size + 1, 0, none⟩), .pointer (some ⟨w.heap.size, 0, none⟩)]] ((w.alloc (Obj.cells #[Value.int IntKind.i64 m] 3)).alloc (Obj.cells #[.func (.func 45) #[] #[]] 69)) fun e w' => e = .returned (.bool (ps.any (fun p => ! inP m p))) ∧ Bw ((w.alloc (Obj.cells #[Value.int IntKind.i64 m] 3)).alloc (Obj.cells #[.func (.func 45) #[] #[]] 69)) w') := by
      refine containsFunc_any (fun p => ! inP m p) 47 _ eg ps _ _ (fun p hp W hW => ?_) (HV.out.mono (by repeat (first | exact Bw.refl _ | assumption | refine Bw.alloc ?_ _ | refine Bw.drew ?_ | refine Bw.trans ?_ (by assumption) | refine Bw.setCell ?_ (by simp; try omega) _)))
      have hs := hW.size
      simp at hs
      exact closure_any p.1 p.2 m h0 h1 _ _ W (by rw [hW.cells.1 _ _ (by simp)]; simp [go_sem]) (by rw [hW.cells.1 _ _ (by simp; omega)]; simp [go_sem]) (by omega) (by omega)
    cases ha : ps.any (fun p => ! inP m p) with
    | true =>
      rw [ha] at HC
      have HE := Lib.hid (show errS m ps = 2 by unfold errS; rw [if_neg hl, ha]; rfl)
      clear ha
      go_enter Try.func34, Try.ntmps34
      go_wp2_with (go_at_call 46; refine (HC.out).mono ?_; rintro e w1 ⟨rfl, hb⟩)
      go_ret
      exact ⟨ret_int HE.out.symm, (by repeat (first | exact Bw.refl _ | assumption | refine Bw.alloc ?_ _ | refine Bw.drew ?_ | refine Bw.trans ?_ (by assumption) | refine Bw.setCell ?_ (by simp; try omega) _))⟩
    | false =>
      rw [ha] at HC
      have HE := Lib.hid (show errS m ps = 0 by unfold errS; rw [if_neg hl, ha]; rfl)
      clear ha
      go_enter Try.func34, Try.ntmps34
      go_wp2_with (go_at_call 46; refine (HC.out).mono ?_; rintro e w1 ⟨rfl, hb⟩)
      go_ret
      exact ⟨ret_int HE.out.symm, (by repeat (first | exact Bw.refl _ | assumption | refine Bw.alloc ?_ _ | refine Bw.drew ?_ | refine Bw.trans ?_ (by assumption) | refine Bw.setCell ?_ (by simp; try omega) _))⟩
end Go.Proofs.Sky
