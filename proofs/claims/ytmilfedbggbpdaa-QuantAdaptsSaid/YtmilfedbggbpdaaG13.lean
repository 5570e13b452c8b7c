/-
  lemmas for the theorems of this claim. No conditions beyond those written in the statements.
-/
import Derived.Test.YtmilfedbggbpdaaF13
set_option linter.unusedVariables false
set_option linter.unusedSimpArgs false
set_option linter.unnecessarySimpa false
namespace Go.Proofs.Sky
open Go Go.RowKit
set_option maxHeartbeats 1000000
theorem rquantised_any (b s : Int) (hb1 : 2 ≤ b) (hb2 : b ≤ 8) (hs1 : 0 ≤ s) (hs2 : s ≤ 30) (ps : List (Int × Int)) (v : Value) (w : World) (hv : RdS w v ps) (hn : ps.length ≤ 1048576)
    (hps : ∀ p ∈ ps, inP 70368744177664 p = true) :
    Calls Try.prog 37 #[v, .agg #[.int .i64 b, .int .i64 s]] w fun e w' => Quantised w.heap.size b s ps e w' ∧ Bw w w' := by
  obtain ⟨_, a, cap, rfl, h4⟩ := hv
  obtain ⟨n, hnn⟩ : ∃ n, n = ps.length := ⟨_, rfl⟩
  rw [← hnn] at hn ⊢
  have hmk := make50 n hn
  have HN := Lib.hid hnn; clear hnn
  have H4 := Lib.hid h4; clear h4
  have HP := Lib.hid hps; clear hps
  go_enter Try.func37, Try.ntmps37
  go_wp2
  go_loopg [6] n (fun gg s18 wr => ∃ k : Nat, k ≤ n ∧ n - k ≤ gg ∧ s18 = .int .i64 k ∧ QInv w b s ps n k (lostN b s (ps.take k)) wr)
  case atStart =>
    refine ⟨0, Nat.zero_le _, by omega, rfl, ⟨(by repeat (first | exact Bw.refl _ | assumption | refine Bw.alloc ?_ _ | refine Bw.drew ?_ | refine Bw.trans ?_ (by assumption) | refine Bw.setCell ?_ (by simp; try omega) _)), by simp, ?_, by simp [go_sem], by simp [go_sem], by simp [go_sem], by simp [go_sem], by simp [go_sem], by simp [go_sem], by simp [go_sem], by simp [go_sem, lostN], by simp [go_sem]⟩⟩
    have h := (World.ownsRow_lit (base := w.heap.size) (e := 50) (size := 2) ((w.alloc (Obj.cells #[Value.int IntKind.i64 b, Value.int IntKind.i64 s] 23)).alloc
          (Obj.cells #[Value.slice none 0 0, Value.int IntKind.i64 0] 34)) (madeCells #[Value.int IntKind.i64 0, Value.int IntKind.i64 0] (n * 2)) n (by simp; omega) (by unfold maxLen; omega) (by simp [madeCells]))
    rw [made2] at h
    have h2 := h.alloc (Obj.cells #[Value.slice (some { block := w.heap.size + 1 + 1, off := 0 }) n n, Value.int IntKind.i64 0] 34)
    simpa [flat_nil, lvS] using h2
  case round =>
    obtain ⟨k, hk, hg, rfl, Q⟩ := hrel
    by_cases hlt : k < n
    · have hltz : (k : Int) < (n : Int) := by omega
      have hq := HN.out
      obtain ⟨bb, off, rfl, hbb, hc⟩ := H4.out.resolve_left (by intro h; rw [h] at hq; simp at hq; omega)
      obtain ⟨hc1, hc2⟩ := hc k (by omega)
      have hbr : bb < wr.heap.size := by have := Q.sz; omega
      have hbr' : bb < wr.heap.size + 1 := by omega
      rw [← Q.bw.cells.1 _ _ hbb] at hc1 hc2
      have hm := getD_mem ps k (0, 0) (by omega)
      clear hc H4
      have ⟨l1, l2⟩ := lostN_bd b s ps k
      have HS := Lib.hid (take_snoc' ps k (0, 0) (by omega))
      generalize hx : ps.getD k (0, 0) = x at hc1 hc2 hm HS
      have hin := HP.out _ hm
      obtain ⟨x1, x2⟩ := x
      clear hx hm HP
      simp only [inP, inI, Bool.and_eq_true, decide_eq_true_eq] at hin
      obtain ⟨⟨i1, i2⟩, i3, i4⟩ := hin
      have ⟨sz, c0, c1, r0, r1, f0, f1, o0, o1, g1⟩ := (⟨Q.sz, Q.c0, Q.c1, Q.r0, Q.r1, Q.f0, Q.f1, Q.o0, Q.o1, Q.g1⟩ : _ ∧ _ ∧ _ ∧ _ ∧ _ ∧ _ ∧ _ ∧ _ ∧ _ ∧ _)
      obtain ⟨u1, s1⟩ := Q.slot (k * 2) (by omega)
      obtain ⟨u2, s2⟩ := Q.slot (k * 2 + 1) (by omega)
      have y1 := Q.own.frozenAt (k * 2)
      have y2 := Q.own.frozenAt (k * 2 + 1)
      have tz0 : w.heap.size < wr.heap.size := by omega
      have tz2 : w.heap.size + 1 + 1 < wr.heap.size := by omega
      have HQ := Lib.hid Q; clear Q hq
      have e0 := fun p : Ext _ => Ext.cell tz0 c0 p
      have e1 := fun p : Ext _ => Ext.cell tz0 c1 p
      have e2 := fun p : Ext _ => Ext.cell hbr hc1 p
      go_wp2
      (refine wp_region_quiet_ext (by kernel_rfl) (by kernel_rfl) ?_; (repeat (go_big_quiet_step ((go_at_call 33; refine Calls.ext_of (rlevel_lv _ _ _ (by omega) (by omega) (by omega) (by omega) (by omega) (by omega) _))))); refine wpQuiet_nil ?_; rintro wa ⟨⟨_, hbq⟩, rfl⟩; obtain ⟨hccq, hffq⟩ := Bw.cells hbq; have hszq := Bw.size hbq)
      clear e0 e1 e2
      have hza : wr.heap.size ≤ wa.heap.size := hbq.size
      have d0 := fun p : Ext wa => Ext.cell (by omega) ((hbq.cells.1 _ _ tz0).trans c0) p
      have d1 := fun p : Ext wa => Ext.cell (by omega) ((hbq.cells.1 _ _ tz0).trans c1) p
      have d2 := fun p : Ext wa => Ext.cell (by omega) ((hbq.cells.1 _ _ hbr).trans hc2) p
      go_wp2
      (refine wp_region_quiet_ext (by kernel_rfl) (by kernel_rfl) ?_; (repeat (go_big_quiet_step ((go_at_call 33; refine Calls.ext_of (rlevel_lv _ _ _ (by omega) (by omega) (by omega) (by omega) (by omega) (by omega) _))))); refine wpQuiet_nil ?_; rintro wb ⟨⟨_, hbq⟩, rfl⟩; obtain ⟨hccq, hffq⟩ := Bw.cells hbq; have hszq := Bw.size hbq)
      clear d0 d1 d2
      have hzb : wa.heap.size ≤ wb.heap.size := hbq.size
      have hz2 : w.heap.size + 1 + 1 < wa.heap.size := by omega
      have hz3 : w.heap.size + 1 + 1 + 1 < wa.heap.size := by omega
      go_wp2
      all_goals go_roundg (n - (k + 1))
      all_goals first | omega | skip
      all_goals (refine ⟨k + 1, by omega, by omega, by go_num, ?_⟩; rw [HS.out, lostN_snoc])
      all_goals first
        | (rw [show lostP b s (x1, x2) = true by simp [lostP, *], if_pos rfl]; exact ((HQ.out.mono (by repeat (first | exact Bw.refl _ | assumption | refine Bw.alloc ?_ _ | refine Bw.drew ?_ | refine Bw.trans ?_ (by assumption) | refine Bw.setCell ?_ (by simp; try omega) _))).set hlt x1 x2 HN.out HS.out).lost _)
        | (rw [show lostP b s (x1, x2) = false by simp [lostP, *], if_neg (by decide), Int.add_zero]; exact ((HQ.out.mono (by repeat (first | exact Bw.refl _ | assumption | refine Bw.alloc ?_ _ | refine Bw.drew ?_ | refine Bw.trans ?_ (by assumption) | refine Bw.setCell ?_ (by simp; try omega) _))).set hlt x1 x2 HN.out HS.out))
    · have hltz : ¬ (k : Int) < (n : Int) := by omega
      have : k = n := by omega
      subst this
      have hn' := HN.out
      have ⟨sz, c0, c1, r0, r1, f0, f1, o0, o1, g1⟩ := (⟨Q.sz, Q.c0, Q.c1, Q.r0, Q.r1, Q.f0, Q.f1, Q.o0, Q.o1, Q.g1⟩ : _ ∧ _ ∧ _ ∧ _ ∧ _ ∧ _ ∧ _ ∧ _ ∧ _ ∧ _)
      have hbw := Q.bw
      have own := Q.own
      rw [List.take_of_length_le (by omega)] at o1 own
      rw [Nat.sub_self, Nat.zero_mul, List.replicate_zero, List.append_nil] at own
      have OWN := Lib.hid own
      clear own H4 HP hn' Q
      go_wp2
      have hn' := HN.out
      obtain rfl : k = (lvS b s ps).length := by rw [lvS_len]; exact hn'
      refine bodyPost_ret (v := .agg #[.slice (some ⟨w.heap.size + 1 + 1, 0, none⟩) (lvS b s ps).length (lvS b s ps).length, .int .i64 (lostN b s ps)]) (by simp [results, Try.results37, go_sem, r0, r1]) rfl ⟨⟨_, rfl, ?_, Fresh.at (by omega)⟩, (by repeat (first | exact Bw.refl _ | assumption | refine Bw.alloc ?_ _ | refine Bw.drew ?_ | refine Bw.trans ?_ (by assumption) | refine Bw.setCell ?_ (by simp; try omega) _))⟩
      exact own_rdS (ownsRow_setCell_other (ownsRow_setCell_other OWN.out (by simp [Value.ownBlock]) _) (by simp [Value.ownBlock]) _) (by rw [lvS_len]; omega)
end Go.Proofs.Sky
