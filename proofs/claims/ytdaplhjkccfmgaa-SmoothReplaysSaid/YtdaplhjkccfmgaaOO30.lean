/-
  lemmas for the theorems of this claim. No conditions beyond those written in the statements.
-/
import Derived.Test.YtdaplhjkccfmgaaMM30
import Derived.Test.YtdaplhjkccfmgaaGG30
set_option linter.unusedVariables false
set_option linter.unusedSimpArgs false
set_option linter.unnecessarySimpa false
namespace Go.Proofs.Sky
open Go Go.RowKit Go.Shelf
set_option maxHeartbeats 4000000
set_option maxRecDepth 4000
theorem flat_rep (m : Int × Int) (k : Nat) : List.replicate (k + 1) m = List.replicate k m ++ [(m.1, m.2)] := by rw [List.replicate_succ']
theorem law_replays (W L : Int) (ps : List (Int × Int)) (v : Value) (b : Bool) (w : World) (hv : RdS w v ps) :
    Calls Try.prog 3 #[.int .i64 W, .int .i64 L, v, .bool b] w fun r w' => r = .returned (.bool true) ∧ Bw w w' := by
  have HQ := Lib.hid hv
  have HBW := Lib.hid (Bw.refl w)
  obtain ⟨ad, cap, rfl⟩ := hv.form
  clear hv
  by_cases hl : 300 < ps.length
  · have hli : (300 : Int) < ps.length := by omega
    clear hl
    go_enter Try.func3, Try.ntmps3
    go_wp2_with ((go_at_call 9; (with_reducible refine Calls.mono (awake_any _) ?_); rintro e1 x5 ⟨rfl, hb1⟩; replace HBW := Lib.hid (HBW.out.trans hb1); clear hb1))
    go_ret
    exact ⟨rfl, HBW.out⟩
  have hli : ¬ (300 : Int) < ps.length := by omega
  by_cases hq : b = true ∧ 0 < ps.length
  · obtain ⟨rfl, hp⟩ := hq
    have hpi : (0 : Int) < ps.length := by omega
    obtain ⟨n, hn⟩ : ∃ n, n = ps.length := ⟨_, rfl⟩
    obtain ⟨BB, hBB⟩ : ∃ BB, w.heap.size = BB := ⟨_, rfl⟩
    obtain ⟨g, off, c1, hv1, hb1, hd1⟩ := HQ.out.at hp
    injection hv1 with x1 x2 x3; subst x1; clear x2 x3
    have hd1 := hd1 0 hp
    obtain ⟨m, hm⟩ : ∃ m, m = ps.getD 0 (0, 0) := ⟨_, rfl⟩
    rw [← hm] at hd1
    simp only [Nat.zero_mul, Nat.add_zero] at hd1
    rw [← hn] at hpi hli ⊢
    have f1 := Lib.hid hd1.1
    have f2 := Lib.hid hd1.2
    clear hd1 hm hb1 hl hn hp HQ
    have HB := Lib.hid hBB
    clear hBB
    obtain ⟨N, hN⟩ : ∃ N : Nat, N = 10001 := ⟨10001, rfl⟩
    have HNN := Lib.hid hN
    clear hN
    have RP1 := Lib.hid (fun X V hX => Replay_any W L (List.replicate N m) V X hX)
    have RP2 := Lib.hid (fun X V hX => RReplay_any W L (List.replicate N m) V X hX)
    obtain ⟨RR, hRR⟩ : ∃ RR, RR = replR W L (List.replicate N m) := ⟨_, rfl⟩
    rw [← hRR] at RP1 RP2
    clear hRR
    obtain ⟨rs, sl, er⟩ := RR
    simp only at RP1 RP2
    obtain ⟨m1, m2⟩ := m
    simp only at f1 f2
    go_enter Try.func3, Try.ntmps3
    go_wp2
    go_loopg [9, 10] 10001 (fun gg s9 s10 wr => ∃ i : Nat, i ≤ N ∧ N - i ≤ gg ∧ s10 = .int .i64 i ∧ Hid (Bw w wr) ∧ Hid (wr.ownsRow BB 24 2 s9 i (flat (List.replicate i (m1, m2)))))
    case atStart => exact ⟨0, Nat.zero_le _, by have := HNN.out; omega, rfl, HBW, Lib.hid (World.ownsRow_nil _ _ _ _)⟩
    case round =>
      obtain ⟨i, hi, hgg, rfl, HW, O1⟩ := hrel
      by_cases hlt : i < N
      · have hiz : (i : Int) < 10001 := by have := HNN.out; omega
        have y1 := HW.out.cell' f1.out
        have y2 := HW.out.cell' f2.out
        have HRP := Lib.hid (flat_rep (m1, m2) i)
        have HLN := Lib.hid (List.length_replicate (n := i) (a := (m1, m2)))
        generalize List.replicate i (m1, m2) = l1 at HRP O1 HLN
        replace O1 := Lib.hid (show wr.ownsRow BB 24 2 u9 l1.length (flat l1) by rw [HLN.out]; exact O1.out)
        go_wp2_with (at_builtin; have hba := Bw.alloc (Bw.refl wr) (.cells #[.int .i64 m1, .int .i64 m2] 24); have NB := Lib.hid (Blk.new wr 24 #[.int .i64 m1, .int .i64 m2]); replace O1 := Lib.hid (own_bw O1.out hba); replace HW := Lib.hid (HW.out.trans hba); clear hba y1 y2; refine wpList_append_pair_beside rfl (.tmp 31) (.tmp 35) _ rfl BB 24 Try.underlying22 infoPr _ l1 m1 m2 rfl O1.out _ rfl (NB.out.cell rfl) (NB.out.cell rfl) (by have := HLN.out; have := HNN.out; omega) (by have := HW.out.size; have := HB.out; omega) (World.ownsRow_nil _ BB 3 1) (fun g h1 h2 => by cases h2) ?_; intro v8 w8 hown hgr hot hap; replace HW := Lib.hid (Bw.grownN HB.out HW.out O1.out hgr); replace O1 := Lib.hid hown; clear hown hgr hot hap NB)
        go_roundg (N - (i + 1))
        case measure => omega
        case rel =>
          refine ⟨i + 1, by omega, by omega, by go_num, HW, Lib.hid ?_⟩
          rw [HRP.out]
          have h9 := O1.out
          rw [List.length_append, HLN.out] at h9
          exact h9
      · obtain rfl : N = i := by omega
        have hiz : ¬ (N : Int) < 10001 := by have := HNN.out; omega
        have h1 := (own_rdS2 (ps := List.replicate N (m1, m2)) (by rw [List.length_replicate]; exact O1.out) (by have := HNN.out; rw [List.length_replicate]; omega)).1
        obtain ⟨A1, c1, rfl⟩ := own_form2 O1.out
        have HQ := Lib.hid h1
        replace HBW := HW
        clear O1 h1 HW
        go_wp2_with (first | (go_at_call 10; (with_reducible refine Calls.mono (RP1.out _ _ HQ.out) ?_); rintro e1 x1 ⟨⟨v3, v4, rfl, hr3, hr4, _, _⟩, hb1⟩; obtain ⟨a3, c3, rfl⟩ := hr3.form; obtain ⟨a4, c4, rfl⟩ := hr4.form; have R1 := Lib.hid hr3; have S1 := Lib.hid hr4; clear hr3 hr4; replace HQ := Lib.hid (HQ.out.mono hb1); replace HBW := Lib.hid (HBW.out.trans hb1); clear hb1) | (go_at_call 11; (with_reducible refine Calls.mono (RP2.out _ _ HQ.out) ?_); rintro e1 x2 ⟨⟨v5, v6, rfl, hr3, hr4, _, _⟩, hb1⟩; obtain ⟨a5, c5, rfl⟩ := hr3.form; obtain ⟨a6, c6, rfl⟩ := hr4.form; have R2 := Lib.hid hr3; have S2 := Lib.hid hr4; clear hr3 hr4; replace R1 := Lib.hid (R1.out.mono hb1); replace S1 := Lib.hid (S1.out.mono hb1); replace HBW := Lib.hid (HBW.out.trans hb1); clear hb1) | (go_at_call 12; (with_reducible refine Calls.mono (ratios_same rs _ _ _ R1.out R2.out) ?_); rintro e1 x3 ⟨rfl, hb1⟩; replace S1 := Lib.hid (S1.out.mono hb1); replace S2 := Lib.hid (S2.out.mono hb1); replace HBW := Lib.hid (HBW.out.trans hb1); clear hb1) | (go_at_call 13; (with_reducible refine Calls.mono (same_same sl _ _ _ S1.out S2.out) ?_); rintro e1 x4 ⟨rfl, hb1⟩; replace HBW := Lib.hid (HBW.out.trans hb1); clear hb1) | (go_at_call 9; (with_reducible refine Calls.mono (awake_any _) ?_); rintro e1 x5 ⟨rfl, hb1⟩; replace HBW := Lib.hid (HBW.out.trans hb1); clear hb1))
        go_ret
        exact ⟨rfl, HBW.out⟩
  · have hq1 : ¬ (b = true ∧ (0 : Int) < ps.length) := by intro h; exact hq ⟨h.1, by omega⟩
    have RP1 := Lib.hid (fun X V hX => Replay_any W L ps V X hX)
    have RP2 := Lib.hid (fun X V hX => RReplay_any W L ps V X hX)
    obtain ⟨RR, hRR⟩ : ∃ RR, RR = replR W L ps := ⟨_, rfl⟩
    rw [← hRR] at RP1 RP2
    clear hRR
    obtain ⟨rs, sl, er⟩ := RR
    simp only at RP1 RP2
    rcases Bool.eq_false_or_eq_true b with rfl | rfl
    · have hpi : ¬ (0 : Int) < ps.length := fun h => hq1 ⟨rfl, h⟩
      clear hq hq1
      go_enter Try.func3, Try.ntmps3
      go_wp2_with (first | (go_at_call 10; (with_reducible refine Calls.mono (RP1.out _ _ HQ.out) ?_); rintro e1 x1 ⟨⟨v3, v4, rfl, hr3, hr4, _, _⟩, hb1⟩; obtain ⟨a3, c3, rfl⟩ := hr3.form; obtain ⟨a4, c4, rfl⟩ := hr4.form; have R1 := Lib.hid hr3; have S1 := Lib.hid hr4; clear hr3 hr4; replace HQ := Lib.hid (HQ.out.mono hb1); replace HBW := Lib.hid (HBW.out.trans hb1); clear hb1) | (go_at_call 11; (with_reducible refine Calls.mono (RP2.out _ _ HQ.out) ?_); rintro e1 x2 ⟨⟨v5, v6, rfl, hr3, hr4, _, _⟩, hb1⟩; obtain ⟨a5, c5, rfl⟩ := hr3.form; obtain ⟨a6, c6, rfl⟩ := hr4.form; have R2 := Lib.hid hr3; have S2 := Lib.hid hr4; clear hr3 hr4; replace R1 := Lib.hid (R1.out.mono hb1); replace S1 := Lib.hid (S1.out.mono hb1); replace HBW := Lib.hid (HBW.out.trans hb1); clear hb1) | (go_at_call 12; (with_reducible refine Calls.mono (ratios_same rs _ _ _ R1.out R2.out) ?_); rintro e1 x3 ⟨rfl, hb1⟩; replace S1 := Lib.hid (S1.out.mono hb1); replace S2 := Lib.hid (S2.out.mono hb1); replace HBW := Lib.hid (HBW.out.trans hb1); clear hb1) | (go_at_call 13; (with_reducible refine Calls.mono (same_same sl _ _ _ S1.out S2.out) ?_); rintro e1 x4 ⟨rfl, hb1⟩; replace HBW := Lib.hid (HBW.out.trans hb1); clear hb1) | (go_at_call 9; (with_reducible refine Calls.mono (awake_any _) ?_); rintro e1 x5 ⟨rfl, hb1⟩; replace HBW := Lib.hid (HBW.out.trans hb1); clear hb1))
      go_ret
      exact ⟨rfl, HBW.out⟩
    · clear hq hq1
      go_enter Try.func3, Try.ntmps3
      go_wp2_with (first | (go_at_call 10; (with_reducible refine Calls.mono (RP1.out _ _ HQ.out) ?_); rintro e1 x1 ⟨⟨v3, v4, rfl, hr3, hr4, _, _⟩, hb1⟩; obtain ⟨a3, c3, rfl⟩ := hr3.form; obtain ⟨a4, c4, rfl⟩ := hr4.form; have R1 := Lib.hid hr3; have S1 := Lib.hid hr4; clear hr3 hr4; replace HQ := Lib.hid (HQ.out.mono hb1); replace HBW := Lib.hid (HBW.out.trans hb1); clear hb1) | (go_at_call 11; (with_reducible refine Calls.mono (RP2.out _ _ HQ.out) ?_); rintro e1 x2 ⟨⟨v5, v6, rfl, hr3, hr4, _, _⟩, hb1⟩; obtain ⟨a5, c5, rfl⟩ := hr3.form; obtain ⟨a6, c6, rfl⟩ := hr4.form; have R2 := Lib.hid hr3; have S2 := Lib.hid hr4; clear hr3 hr4; replace R1 := Lib.hid (R1.out.mono hb1); replace S1 := Lib.hid (S1.out.mono hb1); replace HBW := Lib.hid (HBW.out.trans hb1); clear hb1) | (go_at_call 12; (with_reducible refine Calls.mono (ratios_same rs _ _ _ R1.out R2.out) ?_); rintro e1 x3 ⟨rfl, hb1⟩; replace S1 := Lib.hid (S1.out.mono hb1); replace S2 := Lib.hid (S2.out.mono hb1); replace HBW := Lib.hid (HBW.out.trans hb1); clear hb1) | (go_at_call 13; (with_reducible refine Calls.mono (same_same sl _ _ _ S1.out S2.out) ?_); rintro e1 x4 ⟨rfl, hb1⟩; replace HBW := Lib.hid (HBW.out.trans hb1); clear hb1) | (go_at_call 9; (with_reducible refine Calls.mono (awake_any _) ?_); rintro e1 x5 ⟨rfl, hb1⟩; replace HBW := Lib.hid (HBW.out.trans hb1); clear hb1))
      go_ret
      exact ⟨rfl, HBW.out⟩
end Go.Proofs.Sky
