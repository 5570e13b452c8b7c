/-
  lemmas for the theorems of this claim. No conditions beyond those written in the statements.
-/
import Derived.Test.YtdaplhjkccfmgaaE30
set_option linter.unusedVariables false
set_option linter.unusedSimpArgs false
set_option linter.unnecessarySimpa false
namespace Go.Proofs.Sky
open Go Go.RowKit Go.Shelf
set_option maxHeartbeats 2000000
theorem list_ext_getD {α : Type} (l m : List α) (d : α) (hl : l.length = m.length) (h : ∀ i, i < l.length → l.getD i d = m.getD i d) : l = m := by
  apply List.ext_getElem hl
  intro i h1 h2
  have := h i h1
  rw [List.getD_eq_getElem?_getD, List.getD_eq_getElem?_getD, List.getElem?_eq_getElem h1, List.getElem?_eq_getElem h2] at this
  simpa using this
theorem ratios_any (ps qs : List (Int × Int)) (u v : Value) (w : World) (hu : RdS w u ps) (hv : RdS w v qs) :
    Calls Try.prog 12 #[u, v] w fun e w' => e = .returned (.bool (decide (ps = qs))) ∧ Bw w w' := by
  obtain ⟨_, a, cap, rfl, h4⟩ := hu
  obtain ⟨_, a', cap', rfl, h4'⟩ := hv
  by_cases hl : ps.length = qs.length
  · obtain ⟨n, hn⟩ : ∃ n, n = ps.length := ⟨_, rfl⟩
    have hn' : n = qs.length := by omega
    have hle : n ≤ 9223372036854775807 := by omega
    rw [← hn, ← hn']
    have HN := Lib.hid (And.intro hn hn'); clear hn hn' hl
    have H4 := Lib.hid h4; clear h4
    have H5 := Lib.hid h4'; clear h4'
    go_enter Try.func12, Try.ntmps12
    go_wp2
    go_loopg [5] n (fun gg s5 wr => ∃ k : Nat, k ≤ n ∧ n - k ≤ gg ∧ s5 = .int .i64 k ∧ Hid (Bw w wr) ∧ Hid (∀ j, j < k → ps.getD j (0, 0) = qs.getD j (0, 0)))
    case atStart => exact ⟨0, Nat.zero_le _, by omega, rfl, Bw.refl _, fun j hj => absurd hj (Nat.not_lt_zero _)⟩
    case round =>
      obtain ⟨k, hk, hg, rfl, hbw, A⟩ := hrel
      by_cases hlt : k < n
      · have hltz : (k : Int) < (n : Int) := by omega
        have hq := HN.out.1
        have hq' := HN.out.2
        obtain ⟨b1, o1, rfl, hb1, hc⟩ := H4.out.resolve_left (by intro h; rw [h] at hq; simp at hq; omega)
        obtain ⟨b2, o2, rfl, hb2, hd⟩ := H5.out.resolve_left (by intro h; rw [h] at hq'; simp at hq'; omega)
        obtain ⟨c1, c2⟩ := hc k (by omega)
        obtain ⟨d1, d2⟩ := hd k (by omega)
        rw [← hbw.out.cells.1 _ _ (by assumption)] at c1 c2 d1 d2
        have hz := hbw.out.size
        generalize hx : ps.getD k (0, 0) = x at c1 c2
        generalize hy : qs.getD k (0, 0) = y at d1 d2
        obtain ⟨x1, x2⟩ := x
        obtain ⟨y1, y2⟩ := y
        have HX := Lib.hid (And.intro hx hy); clear hx hy hq hq' hc hd H4 H5
        have e1 := fun p : Ext wr => Ext.cell (by omega) c1 p
        have e2 := fun p : Ext wr => Ext.cell (by omega) c2 p
        have e3 := fun p : Ext wr => Ext.cell (by omega) d1 p
        have e4 := fun p : Ext wr => Ext.cell (by omega) d2 p
        by_cases hxy : x1 = y1
        · subst hxy
          by_cases hxy : x2 = y2
          · subst hxy
            go_wp2
            (refine wp_region_quiet_ext (by kernel_rfl) (by kernel_rfl) ?_; (repeat (go_big_quiet_step ((fail)))); refine wpQuiet_nil ?_; rintro wa ⟨⟨_, hbq⟩, rfl⟩; obtain ⟨hccq, hffq⟩ := Bw.cells hbq; have hszq := Bw.size hbq)
            go_wp2
            go_roundg (n - (k + 1))
            case measure => omega
            case rel =>
              refine ⟨k + 1, by omega, by omega, by go_num, Bw.trans hbw.out hbq, fun j hj => ?_⟩
              by_cases e : j = k
              · subst e
                rw [HX.out.1, HX.out.2]
              · exact A.out j (by omega)
          · go_wp2
            (refine wp_region_quiet_ext (by kernel_rfl) (by kernel_rfl) ?_; (repeat (go_big_quiet_step ((fail)))); refine wpQuiet_nil ?_; rintro wa ⟨⟨_, hbq⟩, rfl⟩; obtain ⟨hccq, hffq⟩ := Bw.cells hbq; have hszq := Bw.size hbq)
            go_wp2
            go_ret
            refine ⟨ret_bool ?_, Bw.trans hbw.out hbq⟩
            symm
            rw [decide_eq_false_iff_not]
            intro h
            have h1 := HX.out.1
            rw [h, HX.out.2] at h1
            simp at h1; omega
        · go_wp2
          (refine wp_region_quiet_ext (by kernel_rfl) (by kernel_rfl) ?_; (repeat (go_big_quiet_step ((fail)))); refine wpQuiet_nil ?_; rintro wa ⟨⟨_, hbq⟩, rfl⟩; obtain ⟨hccq, hffq⟩ := Bw.cells hbq; have hszq := Bw.size hbq)
          go_wp2
          go_ret
          refine ⟨ret_bool ?_, Bw.trans hbw.out hbq⟩
          symm
          rw [decide_eq_false_iff_not]
          intro h
          have h1 := HX.out.1
          rw [h, HX.out.2] at h1
          simp at h1; omega
      · have hltz : ¬ (k : Int) < (n : Int) := by omega
        have : k = n := by omega
        subst this
        have HE := Lib.hid (show decide (ps = qs) = true by
          rw [decide_eq_true_iff]
          exact list_ext_getD ps qs (0, 0) (by have := HN.out; omega) (fun i hi => A.out i (by have := HN.out; omega)))
        go_wp2
        go_ret
        exact ⟨ret_bool HE.out.symm, hbw.out⟩
  · have HE := Lib.hid (show decide (ps = qs) = false by rw [decide_eq_false_iff_not]; intro h; rw [h] at hl; exact hl rfl)
    have hne : ((ps.length : Int) != (qs.length : Int)) = true := by simp; omega
    clear hl
    go_enter Try.func12, Try.ntmps12
    go_wp2
    go_ret
    exact ⟨ret_bool HE.out.symm, (by repeat (first | exact Bw.refl _ | assumption | refine Bw.alloc ?_ _ | refine Bw.drew ?_ | refine Bw.trans ?_ (by assumption) | refine Bw.setCell ?_ (by simp; try omega) _))⟩
end Go.Proofs.Sky
