/-
  lemmas for the theorems of this claim. No conditions beyond those written in the statements.
-/
import Derived.Test.YtmndialneggbjaaD21
set_option linter.unusedVariables false
set_option linter.unusedSimpArgs false
set_option linter.unnecessarySimpa false
namespace Go.Proofs.Sky
open Go Go.RowKit Go.Shelf
set_option maxHeartbeats 2000000
theorem list_eq_getD {xs ys : List Int} (hl : xs.length = ys.length) (h : ∀ i, i < xs.length → xs.getD i 0 = ys.getD i 0) : xs = ys := by
  apply List.ext_getElem hl
  intro i h1 h2
  have := h i h1
  simpa [List.getD_eq_getElem?_getD, List.getElem?_eq_getElem h1, List.getElem?_eq_getElem h2] using this
theorem list_ne_getD {xs ys : List Int} (i : Nat) (h : xs.getD i 0 ≠ ys.getD i 0) : ¬ xs = ys := fun e => h (by rw [e])
theorem equal_any (xs ys : List Int) (v1 v2 : Value) (w : World) (h1 : RdI w v1 xs) (h2 : RdI w v2 ys) : Calls Try.prog 15 #[v1, v2] w fun e w' => e = .returned (.bool (decide (xs = ys))) ∧ Bw w w' := by
  have hx := h1.1
  have hy := h2.1
  by_cases hl : xs.length = ys.length
  · by_cases h0 : 0 < xs.length
    · obtain ⟨b1, o1, c1, rfl, hb1, z1⟩ := h1.at h0
      obtain ⟨b2, o2, c2, rfl, hb2, z2⟩ := h2.at (by omega)
      have HL := Lib.hid hl
      rw [← hl] at z2
      rw [← hl]
      obtain ⟨n, hn⟩ : ∃ n, xs.length = n := ⟨_, rfl⟩
      rw [hn] at z1 z2 hx h0 ⊢
      have HN := Lib.hid hn; clear hn hl hy
      have Z1 := Lib.hid z1; clear z1
      have Z2 := Lib.hid z2; clear z2
      clear h1 h2
      go_enter Try.func15, Try.ntmps15
      go_wp2
      go_loopw [5] (fun i wr => ∃ k : Nat, k ≤ n ∧ i = .int .i64 k ∧ Bw w wr ∧ Hid (∀ j, j < k → xs.getD j 0 = ys.getD j 0)) (fun i _ => n - (intOf i).toNat)
      case atStart => exact ⟨0, Nat.zero_le _, rfl, (by repeat (first | exact Bw.refl _ | assumption | refine Bw.alloc ?_ _ | refine Bw.drew ?_ | refine Bw.trans ?_ (by assumption) | refine Bw.setCell ?_ (by simp; try omega) _)), fun j hj => absurd hj (Nat.not_lt_zero _)⟩
      case round =>
        obtain ⟨k, hk, rfl, hbw, HA⟩ := hrel
        by_cases hlt : k < n
        · have d1 := Z1.out k hlt
          have d2 := Z2.out k hlt
          rw [← hbw.cells.1 _ _ hb1] at d1
          rw [← hbw.cells.1 _ _ hb2] at d2
          have HE := Lib.hid (show xs.getD k 0 = ys.getD k 0 → ∀ j, j < k + 1 → xs.getD j 0 = ys.getD j 0 from fun h j hj => by
            rcases Nat.lt_succ_iff_lt_or_eq.1 hj with h' | rfl
            · exact HA.out j h'
            · exact h)
          have HD := Lib.hid (list_ne_getD (xs := xs) (ys := ys) k)
          generalize xs.getD k 0 = p at d1 HE HD
          generalize ys.getD k 0 = q at d2 HE HD
          have e1 := fun p' : Ext wr => Ext.cell' d1 p'
          have e2 := fun p' : Ext wr => Ext.cell' d2 p'
          have hkn : (k : Int) < n := by omega
          by_cases hpq : p = q
          · subst hpq
            go_wp2
            (refine wp_region_quiet_ext (by kernel_rfl) (by kernel_rfl) ?_; (repeat (go_big_quiet_step ((fail)))); refine wpQuiet_nil ?_; rintro wq ⟨⟨_, hbq⟩, rfl⟩; obtain ⟨hccq, hffq⟩ := Bw.cells hbq; have hszq := Bw.size hbq)
            go_wp2
            go_roundw
            case rel => exact ⟨k + 1, by omega, by go_num, Bw.trans hbw hbq, HE.out (by simp)⟩
            case measure => simp [intOf]; omega
          · have hne : (p != q) = true := by simpa using hpq
            have hd : decide (xs = ys) = false := by simpa using HD.out hpq
            have HDD := Lib.hid hd; clear hd
            clear hpq
            go_wp2
            (refine wp_region_quiet_ext (by kernel_rfl) (by kernel_rfl) ?_; (repeat (go_big_quiet_step ((fail)))); refine wpQuiet_nil ?_; rintro wq ⟨⟨_, hbq⟩, rfl⟩; obtain ⟨hccq, hffq⟩ := Bw.cells hbq; have hszq := Bw.size hbq)
            go_wp2
            go_ret
            exact ⟨ret_bool HDD.out.symm, Bw.trans hbw hbq⟩
        · obtain rfl : k = n := by omega
          have hd : decide (xs = ys) = true := by simpa using list_eq_getD HL.out (fun i hi => HA.out i (by have := HN.out; omega))
          have HDD := Lib.hid hd; clear hd
          go_wp2
          go_ret
          exact ⟨ret_bool HDD.out.symm, hbw⟩
    · obtain rfl : xs = [] := List.length_eq_zero_iff.1 (by omega)
      obtain rfl : ys = [] := List.length_eq_zero_iff.1 (by simp at hl; omega)
      obtain ⟨a1, c1, rfl⟩ := h1.form
      obtain ⟨a2, c2, rfl⟩ := h2.form
      clear h1 h2
      go_enter Try.func15, Try.ntmps15
      go_wp2
      go_loopw [5] (fun i wr => i = .int .i64 0 ∧ Bw w wr) (fun i _ => 0)
      case atStart => exact ⟨rfl, (by repeat (first | exact Bw.refl _ | assumption | refine Bw.alloc ?_ _ | refine Bw.drew ?_ | refine Bw.trans ?_ (by assumption) | refine Bw.setCell ?_ (by simp; try omega) _))⟩
      case round =>
        obtain ⟨rfl, hbw⟩ := hrel
        go_wp2
        go_ret
        exact ⟨ret_bool (by simp), hbw⟩
  · obtain ⟨a1, c1, rfl⟩ := h1.form
    obtain ⟨a2, c2, rfl⟩ := h2.form
    clear h1 h2
    have hne : ((xs.length : Int) != ys.length) = true := by simp; omega
    have hd : decide (xs = ys) = false := by simp; intro e; exact hl (by rw [e])
    have HDD := Lib.hid hd; clear hd hl
    go_enter Try.func15, Try.ntmps15
    go_wp2
    go_ret
    exact ⟨ret_bool HDD.out.symm, (by repeat (first | exact Bw.refl _ | assumption | refine Bw.alloc ?_ _ | refine Bw.drew ?_ | refine Bw.trans ?_ (by assumption) | refine Bw.setCell ?_ (by simp; try omega) _))⟩
theorem list_eq_getD2 {xs ys : List (Int × Int)} (hl : xs.length = ys.length) (h : ∀ i, i < xs.length → xs.getD i (0, 0) = ys.getD i (0, 0)) : xs = ys := by
  apply List.ext_getElem hl
  intro i h1 h2
  have := h i h1
  simpa [List.getD_eq_getElem?_getD, List.getElem?_eq_getElem h1, List.getElem?_eq_getElem h2] using this
theorem list_ne_getD2 {xs ys : List (Int × Int)} (i : Nat) (h : xs.getD i (0, 0) ≠ ys.getD i (0, 0)) : ¬ xs = ys := fun e => h (by rw [e])
theorem list_ext_getD {α : Type} (l m : List α) (d : α) (hl : l.length = m.length) (h : ∀ i, i < l.length → l.getD i d = m.getD i d) : l = m := by
  apply List.ext_getElem hl
  intro i h1 h2
  have := h i h1
  rw [List.getD_eq_getElem?_getD, List.getD_eq_getElem?_getD, List.getElem?_eq_getElem h1, List.getElem?_eq_getElem h2] at this
  simpa using this
theorem samples_any (ps qs : List (Int × Int)) (u v : Value) (w : World) (hu : RdS w u ps) (hv : RdS w v qs) :
    Calls Try.prog 14 #[u, v] w fun e w' => e = .returned (.bool (decide (ps = qs))) ∧ Bw w w' := by
  obtain ⟨_, a, cap, rfl, h4⟩ := hu
  obtain ⟨_, a', cap', rfl, h4'⟩ := hv
  by_cases hl : ps.length = qs.length
  · obtain ⟨n, hn⟩ : ∃ n, n = ps.length := ⟨_, rfl⟩
    have hn' : n = qs.length := by omega
    have hle : n ≤ 9223372036854775807 := by omega
    rw [← hn, ← hn']
    have HN := Lib.hid (And.intro hn hn'); clear hn hn' hl
    have H4 := Lib.hid h4; clear h4
    have H5 := Lib.hid h4'; clear h4'
    go_enter Try.func14, Try.ntmps14
    go_wp2
    go_loopg [5] n (fun gg s5 wr => ∃ k : Nat, k ≤ n ∧ n - k ≤ gg ∧ s5 = .int .i64 k ∧ Hid (Bw w wr) ∧ Hid (∀ j, j < k → ps.getD j (0, 0) = qs.getD j (0, 0)))
    case atStart => exact ⟨0, Nat.zero_le _, by omega, rfl, Bw.refl _, fun j hj => absurd hj (Nat.not_lt_zero _)⟩
    case round =>
      obtain ⟨k, hk, hg, rfl, hbw, A⟩ := hrel
      by_cases hlt : k < n
      · have hltz : (k : Int) < (n : Int) := by omega
        have hq := HN.out.1
        have hq' := HN.out.2
        obtain ⟨b1, o1, rfl, hb1, hc⟩ := H4.out.resolve_left (by intro h; rw [h] at hq; simp at hq; omega)
        obtain ⟨b2, o2, rfl, hb2, hd⟩ := H5.out.resolve_left (by intro h; rw [h] at hq'; simp at hq'; omega)
        obtain ⟨c1, c2⟩ := hc k (by omega)
        obtain ⟨d1, d2⟩ := hd k (by omega)
        rw [← hbw.out.cells.1 _ _ (by assumption)] at c1 c2 d1 d2
        have hz := hbw.out.size
        generalize hx : ps.getD k (0, 0) = x at c1 c2
        generalize hy : qs.getD k (0, 0) = y at d1 d2
        obtain ⟨x1, x2⟩ := x
        obtain ⟨y1, y2⟩ := y
        have HX := Lib.hid (And.intro hx hy); clear hx hy hq hq' hc hd H4 H5
        have e1 := fun p : Ext wr => Ext.cell (by omega) c1 p
        have e2 := fun p : Ext wr => Ext.cell (by omega) c2 p
        have e3 := fun p : Ext wr => Ext.cell (by omega) d1 p
        have e4 := fun p : Ext wr => Ext.cell (by omega) d2 p
        by_cases hxy : x1 = y1
        · subst hxy
          by_cases hxy : x2 = y2
          · subst hxy
            go_wp2
            (refine wp_region_quiet_ext (by kernel_rfl) (by kernel_rfl) ?_; (repeat (go_big_quiet_step ((fail)))); refine wpQuiet_nil ?_; rintro wa ⟨⟨_, hbq⟩, rfl⟩; obtain ⟨hccq, hffq⟩ := Bw.cells hbq; have hszq := Bw.size hbq)
            go_wp2
            go_roundg (n - (k + 1))
            case measure => omega
            case rel =>
              refine ⟨k + 1, by omega, by omega, by go_num, Bw.trans hbw.out hbq, fun j hj => ?_⟩
              by_cases e : j = k
              · subst e
                rw [HX.out.1, HX.out.2]
              · exact A.out j (by omega)
          · go_wp2
            (refine wp_region_quiet_ext (by kernel_rfl) (by kernel_rfl) ?_; (repeat (go_big_quiet_step ((fail)))); refine wpQuiet_nil ?_; rintro wa ⟨⟨_, hbq⟩, rfl⟩; obtain ⟨hccq, hffq⟩ := Bw.cells hbq; have hszq := Bw.size hbq)
            go_wp2
            go_ret
            refine ⟨ret_bool ?_, Bw.trans hbw.out hbq⟩
            symm
            rw [decide_eq_false_iff_not]
            intro h
            have h1 := HX.out.1
            rw [h, HX.out.2] at h1
            simp at h1; omega
        · go_wp2
          (refine wp_region_quiet_ext (by kernel_rfl) (by kernel_rfl) ?_; (repeat (go_big_quiet_step ((fail)))); refine wpQuiet_nil ?_; rintro wa ⟨⟨_, hbq⟩, rfl⟩; obtain ⟨hccq, hffq⟩ := Bw.cells hbq; have hszq := Bw.size hbq)
          go_wp2
          go_ret
          refine ⟨ret_bool ?_, Bw.trans hbw.out hbq⟩
          symm
          rw [decide_eq_false_iff_not]
          intro h
          have h1 := HX.out.1
          rw [h, HX.out.2] at h1
          simp at h1; omega
      · have hltz : ¬ (k : Int) < (n : Int) := by omega
        have : k = n := by omega
        subst this
        have HE := Lib.hid (show decide (ps = qs) = true by
          rw [decide_eq_true_iff]
          exact list_ext_getD ps qs (0, 0) (by have := HN.out; omega) (fun i hi => A.out i (by have := HN.out; omega)))
        go_wp2
        go_ret
        exact ⟨ret_bool HE.out.symm, hbw.out⟩
  · have HE := Lib.hid (show decide (ps = qs) = false by rw [decide_eq_false_iff_not]; intro h; rw [h] at hl; exact hl rfl)
    have hne : ((ps.length : Int) != (qs.length : Int)) = true := by simp; omega
    clear hl
    go_enter Try.func14, Try.ntmps14
    go_wp2
    go_ret
    exact ⟨ret_bool HE.out.symm, (by repeat (first | exact Bw.refl _ | assumption | refine Bw.alloc ?_ _ | refine Bw.drew ?_ | refine Bw.trans ?_ (by assumption) | refine Bw.setCell ?_ (by simp; try omega) _))⟩
theorem equal_same (xs : List Int) (v1 v2 : Value) (w : World) (h1 : RdI w v1 xs) (h2 : RdI w v2 xs) : Calls Try.prog 15 #[v1, v2] w fun e w' => e = .returned (.bool true) ∧ Bw w w' := by
  have := equal_any xs xs v1 v2 w h1 h2
  simpa using this
theorem samples_same (xs : List (Int × Int)) (v1 v2 : Value) (w : World) (h1 : RdS w v1 xs) (h2 : RdS w v2 xs) : Calls Try.prog 14 #[v1, v2] w fun e w' => e = .returned (.bool true) ∧ Bw w w' := by
  have := samples_any xs xs v1 v2 w h1 h2
  simpa using this
theorem Turn_any (n k : Int) (w : World) (h : 1 ≤ k) (h2 : k ≤ 4611686018427387904) : Calls Try.prog 21 #[.int .i64 n, .int .i64 k] w fun e w' => e = .returned (.int .i64 (bel n k)) ∧ Bw w w' := by
  obtain ⟨r, t1, r1, r2, ways⟩ := tmod_way n k h
  have hk0 : (k == 0) = false := by simp; omega
  rcases ways with ⟨y1, yR⟩ | ⟨y1, yR⟩
  all_goals
    have HB := Lib.hid (show bel n k = n % k by unfold bel; rw [if_neg (by omega)])
    rw [yR] at HB
    clear yR
    go_enter Try.func21, Try.ntmps21
    go_wp2
    go_ret
    exact ⟨ret_int (by rw [HB.out]), (by repeat (first | exact Bw.refl _ | assumption | refine Bw.alloc ?_ _ | refine Bw.drew ?_ | refine Bw.trans ?_ (by assumption) | refine Bw.setCell ?_ (by simp; try omega) _))⟩
theorem same_any (ch : List Int) (seen x y : Int) (v1 v2 : Value) (w : World) (h1 : RdI w v1 ch) (h2 : RdI w v2 ch) :
    Calls Try.prog 22 #[.agg #[v1, .int .i64 seen, .int .i64 x, .int .i64 y], .agg #[v2, .int .i64 seen, .int .i64 x, .int .i64 y]] w fun e w' => e = .returned (.bool true) ∧ Bw w w' := by
  have H1 := Lib.hid h1
  have H2 := Lib.hid h2
  obtain ⟨a1, c1, rfl⟩ := h1.form
  obtain ⟨a2, c2, rfl⟩ := h2.form
  clear h1 h2
  go_enter Try.func22, Try.ntmps22
  go_wp2_with (go_at_call 15; refine (equal_same ch _ _ _ (H1.out.mono (by repeat (first | exact Bw.refl _ | assumption | refine Bw.alloc ?_ _ | refine Bw.drew ?_ | refine Bw.trans ?_ (by assumption) | refine Bw.setCell ?_ (by simp; try omega) _))) (H2.out.mono (by repeat (first | exact Bw.refl _ | assumption | refine Bw.alloc ?_ _ | refine Bw.drew ?_ | refine Bw.trans ?_ (by assumption) | refine Bw.setCell ?_ (by simp; try omega) _)))).mono ?_; rintro e w' ⟨rfl, hb⟩; obtain ⟨hcc, hff⟩ := Bw.cells hb; have hsz := Bw.size hb; try (have hz0 : w.heap.size < w'.heap.size := by (try simp at hsz); omega); try (have hz1 : w.heap.size + 1 < w'.heap.size := by (try simp at hsz); omega); try (have hz2 : w.heap.size + 1 + 1 < w'.heap.size := by (try simp at hsz); omega); try (have hz3 : w.heap.size + 1 + 1 + 1 < w'.heap.size := by (try simp at hsz); omega); try (have hz4 : w.heap.size + 1 + 1 + 1 + 1 < w'.heap.size := by (try simp at hsz); omega); try (have hzr : wr.heap.size < w'.heap.size := by (try simp at hsz); omega); try (have hzr1 : wr.heap.size + 1 < w'.heap.size := by (try simp at hsz); omega))
  go_ret
  exact ⟨rfl, (by repeat (first | exact Bw.refl _ | assumption | refine Bw.alloc ?_ _ | refine Bw.drew ?_ | refine Bw.trans ?_ (by assumption) | refine Bw.setCell ?_ (by simp; try omega) _))⟩
end Go.Proofs.Sky
