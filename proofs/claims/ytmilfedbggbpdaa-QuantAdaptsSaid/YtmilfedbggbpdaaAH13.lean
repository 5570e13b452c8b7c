/-
  lemmas for the theorems of this claim. No conditions beyond those written in the statements.
-/
import Derived.Test.YtmilfedbggbpdaaAG13
import Derived.Test.YtmilfedbggbpdaaV13
set_option linter.unusedVariables false
set_option linter.unusedSimpArgs false
set_option linter.unnecessarySimpa false
namespace Go.Proofs.Sky
open Go Go.RowKit
set_option maxHeartbeats 4000000
set_option maxRecDepth 100000
set_option linter.unusedVariables false
def QX (m : Int) (e : Ending) : Prop := ∃ a n c, e = .returned (.tuple #[.agg #[.slice a n c, .int .i64 m], .int .i64 0])
structure LK (b s : Int) (ps : List (Int × Int)) : Prop where
  kl : ∀ w v, RdS w v ps → Calls Try.prog 25 #[v, .int .i64 b] w fun e w' => e = .returned (.tuple #[.agg #[.int .i64 b, .int .i64 s], .int .i64 0]) ∧ Bw w w'
  kq : ∀ w v, RdS w v ps → Calls Try.prog 17 #[v, .agg #[.int .i64 b, .int .i64 s]] w fun e w' => QX 0 e ∧ Bw w w'
  kp : 0 < s → ∃ m : Int, 0 < m ∧ ∀ w v, RdS w v ps → Calls Try.prog 17 #[v, .agg #[.int .i64 b, .int .i64 (s - 1)]] w fun e w' => QX m e ∧ Bw w w'
theorem lk {b : Int} (h1 : 2 ≤ b) (h2 : b ≤ 8) (zs : List Int) (hl : zs.length ≤ 40) : ∃ s : Int, (0 ≤ s ∧ s ≤ 30) ∧ LK b s (mkS zs) := by
  obtain ⟨k, k1, k2, k3, k4⟩ := least_mk h1 h2 zs hl
  have hq := gq_bd b h1 h2
  refine ⟨k, by omega, fun w v hv => ?_, fun w v hv => ?_, fun hk => ?_⟩
  · have h := Least_any b _ v w hv
    unfold LeastP at h
    rw [k2] at h
    exact h
  · refine (Quantise_any b k _ v w hv).mono ?_
    rintro e w' ⟨⟨v', rfl, hr, h2⟩, hb⟩
    obtain ⟨a', c', rfl⟩ := hr.form
    have e0 := errQ_mk (b := b) (s := k) ⟨h1, by omega, by omega, by omega⟩ zs hl
    refine ⟨⟨a', (qL b k (mkS zs)).length, c', ?_⟩, hb⟩
    rw [e0, show qN b k (mkS zs) = 0 by unfold qN; rw [if_pos e0]; exact (lostN_zero2 b k _ (by omega)).2 (by simpa using k3)]
  · have e0 := errQ_mk (b := b) (s := (k : Int) - 1) ⟨h1, by omega, by omega, by omega⟩ zs hl
    refine ⟨lostN b ((k : Int) - 1) (mkS zs), ?_, fun w v hv => ?_⟩
    · have hn := k4 (k - 1) (by omega)
      have h0 := lostN_zero2 b ((k : Int) - 1) (mkS zs) (by omega)
      rw [show ((k : Int) - 1).toNat = k - 1 by omega] at h0
      have := lostN_bd' b ((k : Int) - 1) (mkS zs)
      have hne : lostN b ((k : Int) - 1) (mkS zs) ≠ 0 := fun h => hn (h0.1 h)
      omega
    · refine (Quantise_any b ((k : Int) - 1) _ v w hv).mono ?_
      rintro e w' ⟨⟨v', rfl, hr, h2⟩, hb⟩
      obtain ⟨a', c', rfl⟩ := hr.form
      refine ⟨⟨a', (qL b ((k : Int) - 1) (mkS zs)).length, c', ?_⟩, hb⟩
      rw [e0, show qN b ((k : Int) - 1) (mkS zs) = lostN b ((k : Int) - 1) (mkS zs) by unfold qN; rw [if_pos e0]]
theorem KS.set1 {w wr : World} {n : Nat} {a b : Int} (h : KS w wr [(n, a, b)]) (b' : Int) : KS w (wr.setCell ⟨n, 1, none⟩ (.int .i64 b')) [(n, a, b')] := by
  obtain ⟨h1, h2, h3, h4, h5, h6⟩ := h.at_ _ (List.mem_cons_self ..)
  refine ⟨Bw.setCell h.bw (by simpa using h4) _, fun t ht => ?_⟩
  simp only [List.mem_cons, List.not_mem_nil, or_false] at ht
  subst ht
  exact ⟨by simpa using h1, by rw [cell_set_off _ _ _ _ _ (by decide)]; exact h2, cell_set_same _ _ _ _ h3, h4, by rw [frozen_set]; exact h5, by rw [frozen_set]; exact h6⟩
theorem law_least (zs : List Int) (v : Value) (z : Int) (w : World) (hv : RdI w v zs) : Calls Try.prog 8 #[v, .int .i64 z] w fun e w' => e = .returned (.bool true) ∧ Bw w w' := by
  have HV := Lib.hid hv
  obtain ⟨a0, c0, rfl⟩ := hv.form
  clear hv
  by_cases hl : 40 < zs.length
  · go_enter Try.func8, Try.ntmps8
    go_wp2_with (go_at_call 6; refine (known_any _).mono ?_; rintro e w' ⟨rfl, hb⟩; obtain ⟨hcc, hff⟩ := Bw.cells hb; have hsz := Bw.size hb; try (have hz0 : w.heap.size < w'.heap.size := by (try simp at hsz); omega); try (have hz1 : w.heap.size + 1 < w'.heap.size := by (try simp at hsz); omega); try (have hz2 : w.heap.size + 1 + 1 < w'.heap.size := by (try simp at hsz); omega); try (have hz3 : w.heap.size + 1 + 1 + 1 < w'.heap.size := by (try simp at hsz); omega); try (have hz4 : w.heap.size + 1 + 1 + 1 + 1 < w'.heap.size := by (try simp at hsz); omega); try (have hzr : wr.heap.size < w'.heap.size := by (try simp at hsz); omega); try (have hzr1 : wr.heap.size + 1 < w'.heap.size := by (try simp at hsz); omega))
    go_ret
    exact ⟨rfl, (by repeat (first | exact Bw.refl _ | assumption | refine Bw.alloc ?_ _ | refine Bw.drew ?_ | refine Bw.trans ?_ (by assumption) | refine Bw.setCell ?_ (by simp; try omega) _))⟩
  · have hle : zs.length ≤ 40 := by omega
    clear hl
    have K0 := fun w => turn_any z 7 (by omega) (by omega) w
    have ⟨t00, t01⟩ := turn_bd z 7 (by omega)
    generalize turn z 7 = t0 at *
    obtain ⟨s, ⟨s1, s2⟩, hk⟩ := lk (b := 2 + t0) (by omega) (by omega) zs hle
    have HK := Lib.hid hk; clear hk
    have H0 := Lib.hid K0; clear K0
    go_enter Try.func8, Try.ntmps8
    go_wp2_with fail
    refine (known_any _).mono ?_
    rintro e w1 ⟨rfl, b1⟩
    go_wp2_with fail
    refine (samples_any zs _ _ (HV.out.mono b1) (by omega)).mono ?_
    rintro e w2 ⟨⟨v2, rfl, r, _⟩, b2⟩
    obtain ⟨a2, c2, rfl⟩ := r.form
    have R := Lib.hid r; clear r
    go_wp2_with fail
    refine (H0.out _).mono ?_
    rintro e w3 ⟨rfl, b3⟩
    go_wp2_with fail
    refine (HK.out.kl _ _ (R.out.mono b3)).mono ?_
    rintro e w4 ⟨rfl, b4⟩
    replace R := Lib.hid (R.out.mono (b3.trans b4))
    go_upto_region 6 with (fail)
    have Q : KS w4 _ _ := (KS.nil w4).push (2 + t0) s
    have B4 := Lib.hid (b1.trans (b2.trans (b3.trans b4)))
    have hw4 := B4.out.size
    clear b1 b2 b3 b4 H0 HV
    generalize w4.alloc (Obj.cells #[Value.int IntKind.i64 (2 + t0), Value.int IntKind.i64 s] 23) = w0 at Q ⊢
    obtain ⟨c1, c2⟩ : 2 ≤ 2 + t0 ∧ 2 + t0 ≤ 8 := by omega
    generalize 2 + t0 = b at Q HK c1 c2 ⊢
    obtain ⟨sg, cg0, cg1, fg0, fg1⟩ := Q.hd
    go_wp2_with fail
    refine (HK.out.kq _ _ (R.out.mono Q.bw)).mono ?_
    rintro e w5 ⟨⟨a5, n5, c5, rfl⟩, b5⟩
    clear sg cg0 cg1 fg0 fg1
    replace Q := Q.mono b5
    clear b5
    obtain ⟨sg, cg0, cg1, fg0, fg1⟩ := Q.hd
    have sgn : w4.heap.size ≠ w5.heap.size := by omega
    by_cases hs : s = 0
    · subst hs
      have BB := Lib.hid Q.bw; clear Q
      go_wp2_with fail
      go_ret
      exact ⟨rfl, B4.out.trans (BB.out.trans (by repeat (first | exact Bw.refl _ | assumption | refine Bw.alloc ?_ _ | refine Bw.drew ?_ | refine Bw.trans ?_ (by assumption) | refine Bw.setCell ?_ (by simp; try omega) _)))⟩
    · obtain ⟨m, m1, hm⟩ := HK.out.kp (by omega)
      have HM := Lib.hid hm; clear hm
      have hs' : 0 < s := by omega
      have Q2 := Q.set1 (s - 1)
      have z5 := Q.bw.size
      go_wp2_with fail
      clear HK
      refine (HM.out _ _ (R.out.mono (Bw.alloc Q2.bw _))).mono ?_
      rintro e w6 ⟨⟨a6, n6, c6, rfl⟩, b6⟩
      have k0 : w6.cell? ⟨w5.heap.size, 0, none⟩ = some (.slice a5 n5 c5) := (b6.cells.1 w5.heap.size 0 (by simp)).trans (by simp [go_sem])
      have k1 : w6.cell? ⟨w5.heap.size, 1, none⟩ = some (.int .i64 0) := (b6.cells.1 w5.heap.size 1 (by simp)).trans (by simp [go_sem])
      have k2 : w6.frozen? ⟨w5.heap.size, 0, none⟩ = false := (b6.cells.2 w5.heap.size 0 (by simp)).trans (by simp [go_sem])
      have k3 : w6.frozen? ⟨w5.heap.size, 1, none⟩ = false := (b6.cells.2 w5.heap.size 1 (by simp)).trans (by simp [go_sem])
      have k4 : w5.heap.size < w6.heap.size := by have := b6.size; simp at this; omega
      have BB := Lib.hid (B4.out.trans ((Bw.alloc Q2.bw _).trans b6))
      clear Q Q2 HM R B4 b6 sg cg0 cg1 fg0 fg1
      go_wp2_with fail
      go_ret
      exact ⟨rfl, Bw.setCell (Bw.setCell BB.out (by simp; omega) _) (by simp; omega) _⟩
end Go.Proofs.Sky
