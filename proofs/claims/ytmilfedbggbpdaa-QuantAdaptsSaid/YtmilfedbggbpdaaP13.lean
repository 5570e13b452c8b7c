/-
  lemmas for the theorems of this claim. No conditions beyond those written in the statements.
-/
import Derived.Test.YtmilfedbggbpdaaM13
import Derived.Test.YtmilfedbggbpdaaN13
set_option linter.unusedVariables false
set_option linter.unusedSimpArgs false
set_option linter.unnecessarySimpa false
namespace Go.Proofs.Sky
open Go Go.RowKit
set_option maxHeartbeats 1000000
theorem flat_set1 (l : List (Int × Int)) (k : Nat) (hk : k < l.length) (a : Int) : (flat l).set (k * 2) (.int .i64 a) = flat (l.set k (a, (l.getD k (0, 0)).2)) := by
  induction l generalizing k with
  | nil => simp at hk
  | cons p l ih =>
    cases k with
    | zero => simp [flat_cons]
    | succ k =>
      have := ih k (by simpa using hk)
      rw [flat_cons, show (k + 1) * 2 = k * 2 + 1 + 1 by omega]
      simp only [List.set_cons_succ, List.getD_cons_succ, flat_cons, this]
theorem flat_set2 (l : List (Int × Int)) (k : Nat) (hk : k < l.length) (a : Int) : (flat l).set (k * 2 + 1) (.int .i64 a) = flat (l.set k ((l.getD k (0, 0)).1, a)) := by
  induction l generalizing k with
  | nil => simp at hk
  | cons p l ih =>
    cases k with
    | zero => simp [flat_cons]
    | succ k =>
      have := ih k (by simpa using hk)
      rw [flat_cons, show (k + 1) * 2 + 1 = k * 2 + 1 + 1 + 1 by omega]
      simp only [List.set_cons_succ, List.getD_cons_succ, flat_cons, this]
theorem RdS.cells {w : World} {b off n c : Nat} {ps : List (Int × Int)} (h : RdS w (.slice (some ⟨b, off, none⟩) n c) ps) : ∀ j u, (flat ps)[j]? = some u → w.cell? ((⟨b, off, none⟩ : Addr).add j) = some u := by
  obtain ⟨_, a, cap, e, h4⟩ := h
  intro j u hu
  have hj : j < (flat ps).length := (List.getElem?_eq_some_iff.1 hu).1
  rw [flat_length] at hj
  rcases h4 with rfl | ⟨b', off', rfl, h6, h7⟩
  · simp at hj
  · simp only [Value.slice.injEq, Option.some.injEq, Addr.mk.injEq, and_true] at e
    obtain ⟨⟨rfl, rfl⟩, _, _⟩ := e
    obtain ⟨c1, c2⟩ := h7 (j / 2) (by omega)
    obtain ⟨f1, f2⟩ := flat_at ps (j / 2) (by omega)
    rw [show (⟨b, off, none⟩ : Addr).add j = ⟨b, off + j, none⟩ by simp [Addr.add]]
    rcases Nat.mod_two_eq_zero_or_one j with hm | hm
    · have : j / 2 * 2 = j := by omega
      rw [this] at c1 f1
      rw [c1, ← f1, hu]
    · have : j / 2 * 2 + 1 = j := by omega
      rw [this] at f2
      rw [show off + j = off + j / 2 * 2 + 1 by omega, c2, ← f2, hu]
theorem RdS.cells' {w : World} {ad : Addr} {n c : Nat} {ps : List (Int × Int)} (h : RdS w (.slice (some ad) n c) ps) : ∀ j u, (flat ps)[j]? = some u → w.cell? (ad.add j) = some u := by
  have h' := h
  obtain ⟨_, a, cap, e, h4⟩ := h'
  rcases h4 with rfl | ⟨b', off', rfl, h6, h7⟩
  · intro j u hu; simp [flat] at hu
  · simp only [Value.slice.injEq, Option.some.injEq] at e
    obtain ⟨rfl, _, _⟩ := e
    exact h.cells
theorem flat_one (ps : List (Int × Int)) : ∀ u ∈ flat ps, u.oneCell' = true := by
  intro u hu
  simp only [flat, List.mem_flatMap] at hu
  obtain ⟨p, _, hp⟩ := hu
  simp at hp
  rcases hp with rfl | rfl <;> rfl
def CloneP (w : World) (ps : List (Int × Int)) (e : Ending) (w' : World) : Prop := ∃ v, e = .returned v ∧ w'.ownsRow w.heap.size 50 2 v ps.length (flat ps)
theorem Try.info50' : (Try.prog.info? 50).map (fun i => (i.zero, i.size, i.bytes)) = some (some (.agg #[.int .i64 0, .int .i64 0]), 2, 16) := by kernel_rfl
theorem clone_any (ps : List (Int × Int)) (v : Value) (w : World) (hv : RdS w v ps) (hn : ps.length ≤ 1048576) :
    Calls Try.prog 39 #[v] w fun e w' => CloneP w ps e w' ∧ Bw w w' := by
  have hvv := hv
  obtain ⟨_, a, cap, rfl, h4⟩ := hvv
  have HV := Lib.hid hv; clear hv
  obtain ⟨i0, hi, hzz⟩ := Option.map_eq_some_iff.1 Try.info50'
  simp only [Prod.mk.injEq] at hzz
  obtain ⟨hz0, hz1, hz2⟩ := hzz
  cases a with
  | none =>
    obtain rfl : ps = [] := by
      rcases h4 with h | ⟨b, off, h, _⟩
      · exact h
      · cases h
    have hrun := fun w => Lib.run_eql_slice_nil (P := Try.prog) w 32 50 none 0 cap 0 0 Try.underlying32
    go_enter Try.func39, Try.ntmps39
    go_wp2
    go_ret
    exact ⟨⟨_, rfl, World.ownsRow_nil _ _ _ _⟩, (by repeat (first | exact Bw.refl _ | assumption | refine Bw.alloc ?_ _ | refine Bw.drew ?_ | refine Bw.trans ?_ (by assumption) | refine Bw.setCell ?_ (by simp; try omega) _))⟩
  | some ad =>
    have hrun := fun w => Lib.run_eql_slice_nil (P := Try.prog) w 32 50 (some ad) ps.length cap 0 0 Try.underlying32
    have HL := Lib.hid (World.ownsRow_lit (base := w.heap.size) (e := 50) (size := 2) w #[] 0 (Nat.le_refl _) (by unfold maxLen; omega) (by simp))
    clear h4
    go_enter Try.func39, Try.ntmps39
    go_wp2_with (at_builtin; refine wpList_append_own _ rfl _ _ 32 rfl w.heap.size 50 i0 (.agg #[.int .i64 0, .int .i64 0]) 2 16 Try.underlying32 hi hz0 hz1 hz2 rfl (by decide) _ _ _ rfl HL.out ad ps.length cap (flat ps) rfl (flat_length ps) ?c1 ?c2 ?c3 ?c4 ?c5 ?_)
    case c1 => exact (HV.out.mono (Bw.alloc (Bw.refl _) _)).cells'
    case c2 => exact flat_one ps
    case c3 => unfold maxLen; omega
    case c4 => omega
    intro v' w1 hown' hgrow _
    have hb1' := Bw.grown (Bw.alloc (Bw.refl w) _) HL.out hgrow
    have HO := Lib.hid hown'; clear hown' hgrow hrun
    go_wp2
    go_ret
    exact ⟨⟨_, rfl, by simpa using HO.out⟩, hb1'⟩
end Go.Proofs.Sky
