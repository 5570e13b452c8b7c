/-
  lemmas for the theorems of this claim. No conditions beyond those written in the statements.
-/
import Derived.Test.YtmilfedbggbpdaaR13
set_option linter.unusedVariables false
set_option linter.unusedSimpArgs false
set_option linter.unnecessarySimpa false
namespace Go.Proofs.Sky
open Go Go.RowKit
set_option maxHeartbeats 1000000
theorem scale_snoc (s : Int) (ps : List (Int × Int)) (k : Nat) (p : Int × Int) (ht : ps.take (k + 1) = ps.take k ++ [p]) : (ps.take (k + 1)).map (scale s) = (ps.take k).map (scale s) ++ [scale s p] := by rw [ht, List.map_append]; rfl
theorem RRestore_any (b s : Int) (ps : List (Int × Int)) (v : Value) (w : World) (hv : RdS w v ps) :
    Calls Try.prog 20 #[v, .agg #[.int .i64 b, .int .i64 s]] w fun e w' => RestS w.heap.size b s ps e w' ∧ Bw w w' := by
  have HC := Lib.hid (fun w => rcheck_any b s w)
  obtain ⟨_, a, cap, rfl, h4⟩ := hv
  by_cases hG : 2 ≤ b ∧ b ≤ 8 ∧ 0 ≤ s ∧ s ≤ 30
  · rw [errG_ok b s hG] at HC
    have ⟨q1, q2⟩ := gq_bd b hG.1 hG.2.1
    have hQ := errR_good ps hG
    obtain ⟨g1, g2, g3, g4⟩ := hG
    have ⟨p1, p2⟩ := pow30 s.toNat (by omega)
    by_cases hl : 1048576 < ps.length
    · have h0 : errR b s ps = 4 := by rw [hQ]; exact errS_long hl
      have HE := Lib.hid (show errR b s ps = 4 ∧ rsL b s ps = [] from ⟨h0, r_err (by rw [h0]; decide)⟩)
      clear h0 hQ
      go_enter Try.func20, Try.ntmps20
      go_wp2_with (go_at_call 15; refine (HC.out _).mono ?_; rintro e w' ⟨rfl, hb⟩; obtain ⟨hcc, hff⟩ := Bw.cells hb; have hsz := Bw.size hb; try (have hz0 : w.heap.size < w'.heap.size := by (try simp at hsz); omega); try (have hz1 : w.heap.size + 1 < w'.heap.size := by (try simp at hsz); omega); try (have hz2 : w.heap.size + 1 + 1 < w'.heap.size := by (try simp at hsz); omega); try (have hz3 : w.heap.size + 1 + 1 + 1 < w'.heap.size := by (try simp at hsz); omega); try (have hz4 : w.heap.size + 1 + 1 + 1 + 1 < w'.heap.size := by (try simp at hsz); omega); try (have hzr : wr.heap.size < w'.heap.size := by (try simp at hsz); omega); try (have hzr1 : wr.heap.size + 1 < w'.heap.size := by (try simp at hsz); omega))
      go_ret2
      exact ⟨⟨.slice none 0 0, by rw [HE.out.1]; rfl, by rw [HE.out.2]; exact RdS.nil _, Fresh.nil _ _ _⟩, (by repeat (first | exact Bw.refl _ | assumption | refine Bw.alloc ?_ _ | refine Bw.drew ?_ | refine Bw.trans ?_ (by assumption) | refine Bw.setCell ?_ (by simp; try omega) _))⟩
    · obtain ⟨n, hn⟩ : ∃ n, n = ps.length := ⟨_, rfl⟩
      rw [← hn]
      have hle : n ≤ 1048576 := by omega
      have hmk := make50 n hle
      have HN := Lib.hid hn; clear hn
      have HL := Lib.hid hl; clear hl
      have HQ := Lib.hid hQ; clear hQ
      have H4 := Lib.hid h4; clear h4
      go_enter Try.func20, Try.ntmps20
      go_wp2_with (first | (go_at_call 15; refine (HC.out _).mono ?_; rintro e w' ⟨rfl, hb⟩; obtain ⟨hcc, hff⟩ := Bw.cells hb; have hsz := Bw.size hb; try (have hz0 : w.heap.size < w'.heap.size := by (try simp at hsz); omega); try (have hz1 : w.heap.size + 1 < w'.heap.size := by (try simp at hsz); omega); try (have hz2 : w.heap.size + 1 + 1 < w'.heap.size := by (try simp at hsz); omega); try (have hz3 : w.heap.size + 1 + 1 + 1 < w'.heap.size := by (try simp at hsz); omega); try (have hz4 : w.heap.size + 1 + 1 + 1 + 1 < w'.heap.size := by (try simp at hsz); omega); try (have hzr : wr.heap.size < w'.heap.size := by (try simp at hsz); omega); try (have hzr1 : wr.heap.size + 1 < w'.heap.size := by (try simp at hsz); omega)) | (go_at_call 40; refine (rgreatest_any b s g1 g2 _).mono ?_; rintro e w1 ⟨rfl, hb⟩; obtain ⟨hcc, hff⟩ := Bw.cells hb; have hsz := Bw.size hb))
      have k1 : w1.cell? ⟨w.heap.size, 1, none⟩ = some (.int .i64 s) := by simp [*, go_sem]
      have hz1 : w.heap.size < w1.heap.size := by omega
      have hbw : Bw w w1 := (by repeat (first | exact Bw.refl _ | assumption | refine Bw.alloc ?_ _ | refine Bw.drew ?_ | refine Bw.trans ?_ (by assumption) | refine Bw.setCell ?_ (by simp; try omega) _))
      have HB := Lib.hid hbw; clear hbw
      have HO : Hid ((w1.alloc (.cells (madeCells #[.int .i64 0, .int .i64 0] (n * 2)) 50)).ownsRow (w.heap.size + 1) 50 2 (.slice (some ⟨w1.heap.size, 0, none⟩) n n) n (flat ((ps.take 0).map (scale s)) ++ List.replicate ((n - 0) * 2) (.int .i64 0))) := by
        have h := (World.ownsRow_lit (base := w.heap.size + 1) (e := 50) (size := 2) w1 (madeCells #[Value.int IntKind.i64 0, Value.int IntKind.i64 0] (n * 2)) n (by omega) (by unfold maxLen; omega) (by simp [madeCells]))
        rw [made2] at h
        refine Lib.hid ?_
        simpa [flat_nil] using h
      clear hcc hff hmk HC
      go_loopg [4, 5, 9] n (fun gg s4 s5 s9 wr => s4 = .slice none 0 0 ∧ s5 = .int .i64 0 ∧ ∃ k : Nat, k ≤ n ∧ n - k ≤ gg ∧ s9 = .int .i64 k ∧ Hid (Bw w wr) ∧ w1.heap.size < wr.heap.size ∧ Hid (wr.cell? ⟨w.heap.size, 1, none⟩ = some (.int .i64 s)) ∧ Hid (wr.ownsRow (w.heap.size + 1) 50 2 (.slice (some ⟨w1.heap.size, 0, none⟩) n n) n (flat ((ps.take k).map (scale s)) ++ List.replicate ((n - k) * 2) (.int .i64 0))) ∧ Hid (∀ j, j < k → inP (gq b) (ps.getD j (0, 0)) = true))
      case atStart => exact ⟨rfl, rfl, 0, Nat.zero_le _, by omega, rfl, Bw.alloc HB.out _, by simp, ((Bw.cells (Bw.alloc (Bw.refl w1) _)).1 _ _ hz1).trans k1, HO.out, fun j hj => absurd hj (Nat.not_lt_zero _)⟩
      case round =>
        obtain ⟨rfl, rfl, k, hk, hg, rfl, hbw, hsr, hc1, hown, hall⟩ := hrel
        by_cases hlt : k < n
        · have hltz : (k : Int) < (n : Int) := by omega
          have hq := HN.out
          obtain ⟨bb, off, rfl, hbb, hc⟩ := H4.out.resolve_left (by intro h; rw [h] at hq; simp at hq; omega)
          obtain ⟨c1, c2⟩ := hc k (by omega)
          rw [← hbw.out.cells.1 _ _ hbb] at c1 c2
          have hbr : bb < wr.heap.size := by omega
          have hwr : w.heap.size < wr.heap.size := by omega
          have HS := Lib.hid (scale_snoc s ps k _ (take_snoc' ps k (0, 0) (by omega)))
          generalize hx : ps.getD k (0, 0) = x at c1 c2 HS
          have HX := Lib.hid hx; clear hx hq hc H4
          obtain ⟨x1, x2⟩ := x
          by_cases hin : (-gq b ≤ x1 ∧ x1 ≤ gq b) ∧ -gq b ≤ x2 ∧ x2 ≤ gq b
          · obtain ⟨⟨i1, i2⟩, i3, i4⟩ := hin
            have ⟨m1, m2⟩ := mul_bd x1 (gq b) (2 ^ s.toNat) i1 i2 q2 p1 p2
            have ⟨m3, m4⟩ := mul_bd x2 (gq b) (2 ^ s.toNat) i3 i4 q2 p1 p2
            obtain ⟨u1, s1⟩ : ∃ u, wr.cell? ⟨w1.heap.size, k * 2, none⟩ = some u := by
              have h1 := hown.out.1
              rw [hown.out.cellAt (k * 2) (by omega), List.getElem?_eq_getElem (by omega)]
              exact ⟨_, rfl⟩
            obtain ⟨u2, s2⟩ : ∃ u, wr.cell? ⟨w1.heap.size, k * 2 + 1, none⟩ = some u := by
              have h1 := hown.out.1
              rw [hown.out.cellAt (k * 2 + 1) (by omega), List.getElem?_eq_getElem (by omega)]
              exact ⟨_, rfl⟩
            have y1 := hown.out.frozenAt (k * 2)
            have y2 := hown.out.frozenAt (k * 2 + 1)
            have e0 := fun p : Ext wr => Ext.cell hwr hc1.out p
            have e1 := fun p : Ext wr => Ext.cell hbr c1 p
            have e2 := fun p : Ext wr => Ext.cell hbr c2 p
            go_wp2
            (refine wp_region_ext_tail 20 (by kernel_rfl) (by kernel_rfl) ?_; simp only [List.take_succ_cons, List.take_zero, List.drop_succ_cons, List.drop_zero]; (repeat (go_big_quiet_step ((fail)))); refine wpQuiet_nil ?_; rintro wa ⟨⟨_, hbq⟩, rfl⟩; obtain ⟨hccq, hffq⟩ := Bw.cells hbq; have hszq := Bw.size hbq)
            clear e0 e1 e2
            have hga : w1.heap.size < wa.heap.size := by omega
            go_wp2
            go_roundg (n - (k + 1))
            case measure => omega
            case rel =>
              have bw := hbw.out
              have hl : ((ps.take k).map (scale s)).length = k := by rw [List.length_map, List.length_take]; have := HN.out; omega
              have fs := flat_set ((ps.take k).map (scale s)) (n - (k + 1)) (x1 * 2 ^ s.toNat) (x2 * 2 ^ s.toNat) (.int .i64 0)
              rw [hl, show n - (k + 1) + 1 = n - k by omega] at fs
              have o1 := (((own_bw hown.out hbq).stored (k * 2) (.int .i64 (x1 * 2 ^ s.toNat))).1.stored (k * 2 + 1) (.int .i64 (x2 * 2 ^ s.toNat))).1
              rw [fs, show (ps.take k).map (scale s) ++ [(x1 * 2 ^ s.toNat, x2 * 2 ^ s.toNat)] = (ps.take (k + 1)).map (scale s) from HS.out.symm] at o1
              refine ⟨rfl, rfl, k + 1, by omega, by omega, by go_num, (by repeat (first | exact Bw.refl _ | assumption | refine Bw.alloc ?_ _ | refine Bw.drew ?_ | refine Bw.trans ?_ (by assumption) | refine Bw.setCell ?_ (by simp; try omega) _)), by simp; omega, ?_, o1, fun j hj => ?_⟩
              · show ((wa.setCell _ _).setCell _ _).cell? _ = _
                rw [cell_set_ne _ _ _ _ _ _ (by omega), cell_set_ne _ _ _ _ _ _ (by omega), hbq.cells.1 _ _ hwr]
                exact hc1.out
              · by_cases e : j = k
                · subst e
                  rw [HX.out]; simp [inP, inI, i1, i2, i3, i4]
                · exact hall.out j (by omega)
          · have HI := Lib.hid hin; clear hin
            go_wp2
            all_goals first | (exfalso; have := HI.out; omega) | skip
            all_goals go_ret2
            all_goals
              have hE : errR b s ps = 2 := by
                rw [HQ.out]
                refine errS_hit HL.out k (by have := HN.out; omega) ?_
                rw [HX.out]
                have := HI.out
                simp only [inP, inI, Bool.and_eq_false_iff, decide_eq_false_iff_not]
                omega
              exact ⟨⟨.slice none 0 0, by rw [hE]; rfl, by rw [r_err (by rw [hE]; decide)]; exact RdS.nil _, Fresh.nil _ _ _⟩, hbw.out⟩
        · have hltz : ¬ (k : Int) < (n : Int) := by omega
          have : k = n := by omega
          subst this
          go_wp2
          go_ret2
          have hE : errR b s ps = 0 := by
            rw [HQ.out]
            exact errS_miss HL.out (fun i hi => hall.out i (by have := HN.out; omega))
          have ho := hown.out
          rw [List.take_of_length_le (by have := HN.out; omega), Nat.sub_self, Nat.zero_mul, List.replicate_zero, List.append_nil] at ho
          have h3 := own_rdS' ho (by rw [List.length_map]; exact HN.out) (by rw [List.length_map]; have := HN.out; omega)
          exact ⟨⟨_, by rw [hE]; rfl, by rw [r_ok hE]; exact h3.1, h3.2.mono (by omega)⟩, hbw.out⟩
  · rw [errG_no b s hG] at HC
    have hQ := errR_bad ps hG
    have HE := Lib.hid (show errR b s ps = 2 ∧ rsL b s ps = [] from ⟨hQ, r_err (by rw [hQ]; decide)⟩)
    clear hQ hG
    go_enter Try.func20, Try.ntmps20
    go_wp2_with (go_at_call 15; refine (HC.out _).mono ?_; rintro e w' ⟨rfl, hb⟩; obtain ⟨hcc, hff⟩ := Bw.cells hb; have hsz := Bw.size hb; try (have hz0 : w.heap.size < w'.heap.size := by (try simp at hsz); omega); try (have hz1 : w.heap.size + 1 < w'.heap.size := by (try simp at hsz); omega); try (have hz2 : w.heap.size + 1 + 1 < w'.heap.size := by (try simp at hsz); omega); try (have hz3 : w.heap.size + 1 + 1 + 1 < w'.heap.size := by (try simp at hsz); omega); try (have hz4 : w.heap.size + 1 + 1 + 1 + 1 < w'.heap.size := by (try simp at hsz); omega); try (have hzr : wr.heap.size < w'.heap.size := by (try simp at hsz); omega); try (have hzr1 : wr.heap.size + 1 < w'.heap.size := by (try simp at hsz); omega))
    go_ret2
    exact ⟨⟨.slice none 0 0, by rw [HE.out.1]; rfl, by rw [HE.out.2]; exact RdS.nil _, Fresh.nil _ _ _⟩, (by repeat (first | exact Bw.refl _ | assumption | refine Bw.alloc ?_ _ | refine Bw.drew ?_ | refine Bw.trans ?_ (by assumption) | refine Bw.setCell ?_ (by simp; try omega) _))⟩
end Go.Proofs.Sky
