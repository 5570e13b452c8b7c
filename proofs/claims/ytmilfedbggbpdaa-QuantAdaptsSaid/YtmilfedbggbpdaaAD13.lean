/-
  lemmas for the theorems of this claim. No conditions beyond those written in the statements.
-/
import Derived.Test.YtmilfedbggbpdaaAC13
set_option linter.unusedVariables false
set_option linter.unusedSimpArgs false
set_option linter.unnecessarySimpa false
namespace Go.Proofs.Sky
open Go Go.RowKit
set_option maxHeartbeats 8000000
structure KS (w wr : World) (L : List (Nat × Int × Int)) : Prop where
  bw : Bw w wr
  at_ : ∀ t ∈ L, t.1 < wr.heap.size ∧ wr.cell? ⟨t.1, 0, none⟩ = some (.int .i64 t.2.1) ∧ wr.cell? ⟨t.1, 1, none⟩ = some (.int .i64 t.2.2) ∧ w.heap.size ≤ t.1 ∧ wr.frozen? ⟨t.1, 0, none⟩ = false ∧ wr.frozen? ⟨t.1, 1, none⟩ = false
theorem KS.nil (w : World) : KS w w [] := ⟨Bw.refl _, by simp⟩
theorem KS.mono {w wr w2 : World} {L : List (Nat × Int × Int)} (h : KS w wr L) (hb : Bw wr w2) : KS w w2 L := by
  refine ⟨h.bw.trans hb, fun t ht => ?_⟩
  obtain ⟨h1, h2, h3, h4, h5, h6⟩ := h.at_ t ht
  have := hb.size
  exact ⟨by omega, by rw [hb.cells.1 _ _ h1]; exact h2, by rw [hb.cells.1 _ _ h1]; exact h3, h4, by rw [hb.cells.2 _ _ h1]; exact h5, by rw [hb.cells.2 _ _ h1]; exact h6⟩
theorem KS.push {w wr : World} {L : List (Nat × Int × Int)} (h : KS w wr L) (a b : Int) : KS w (wr.alloc (.cells #[.int .i64 a, .int .i64 b] 23)) ((wr.heap.size, a, b) :: L) := by
  have h1 := h.mono (Bw.alloc (Bw.refl _) (.cells #[.int .i64 a, .int .i64 b] 23))
  refine ⟨h1.bw, fun t ht => ?_⟩
  rcases List.mem_cons.1 ht with rfl | ht
  · exact ⟨by simp, by simp [go_sem], by simp [go_sem], h.bw.size, by simp [go_sem], by simp [go_sem]⟩
  · exact h1.at_ t ht
theorem KS.set {w wr : World} {n : Nat} {a b : Int} {L : List (Nat × Int × Int)} (h : KS w wr ((n, a, b) :: L)) (hL : ∀ t ∈ L, t.1 ≠ n) (a' b' : Int) : KS w ((wr.setCell ⟨n, 0, none⟩ (.int .i64 a')).setCell ⟨n, 1, none⟩ (.int .i64 b')) ((n, a', b') :: L) := by
  obtain ⟨h1, h2, h3, h4, h5, h6⟩ := h.at_ _ (List.mem_cons_self ..)
  refine ⟨Bw.setCell (Bw.setCell h.bw (by simpa using h4) _) (by simpa using h4) _, fun t ht => ?_⟩
  rcases List.mem_cons.1 ht with rfl | ht
  · refine ⟨by simpa using h1, ?_, ?_, h4, by rw [frozen_set, frozen_set]; exact h5, by rw [frozen_set, frozen_set]; exact h6⟩
    · rw [cell_set_off _ _ _ _ _ (by decide)]; exact cell_set_same _ _ _ _ h2
    · exact cell_set_same _ _ _ _ (by rw [cell_set_off _ _ _ _ _ (by decide)]; exact h3)
  · obtain ⟨g1, g2, g3, g4, g5, g6⟩ := h.at_ _ (List.mem_cons_of_mem _ ht)
    have hne := hL t ht
    refine ⟨by simpa using g1, ?_, ?_, g4, by rw [frozen_set, frozen_set]; exact g5, by rw [frozen_set, frozen_set]; exact g6⟩
    · rw [cell_set_ne _ _ _ _ _ _ (Ne.symm hne), cell_set_ne _ _ _ _ _ _ (Ne.symm hne)]; exact g2
    · rw [cell_set_ne _ _ _ _ _ _ (Ne.symm hne), cell_set_ne _ _ _ _ _ _ (Ne.symm hne)]; exact g3
theorem KS.swap {w wr : World} {s t : Nat × Int × Int} {L : List (Nat × Int × Int)} (h : KS w wr (s :: t :: L)) : KS w wr (t :: s :: L) := ⟨h.bw, fun x hx => h.at_ x (by simp at hx ⊢; rcases hx with h | h | h <;> simp [h])⟩
theorem KS.hd {w wr : World} {n : Nat} {a b : Int} {L : List (Nat × Int × Int)} (h : KS w wr ((n, a, b) :: L)) : n < wr.heap.size ∧ wr.cell? ⟨n, 0, none⟩ = some (.int .i64 a) ∧ wr.cell? ⟨n, 1, none⟩ = some (.int .i64 b) ∧ wr.frozen? ⟨n, 0, none⟩ = false ∧ wr.frozen? ⟨n, 1, none⟩ = false := by
  obtain ⟨h1, h2, h3, h4, h5, h6⟩ := h.at_ _ (List.mem_cons_self ..)
  exact ⟨h1, h2, h3, h5, h6⟩
theorem KS.tl {w wr : World} {s : Nat × Int × Int} {L : List (Nat × Int × Int)} (h : KS w wr (s :: L)) : KS w wr L := ⟨h.bw, fun x hx => h.at_ x (List.mem_cons_of_mem _ hx)⟩

theorem kl_3_1_5 (w : World) : Calls Try.prog 10 #[.agg #[.int .i64 3, .int .i64 1], .int .i64 (5)] w fun e w' => e = .returned (.tuple #[.int .i64 (3), .bool false, .int .i64 0]) ∧ Bw w w' := by
  have h := Level_any 3 1 (5) w
  rw [show levY 3 1 (5) = 3 by decide +kernel, show levL 3 1 (5) = false by decide +kernel, show levE 3 1 (5) = 0 by decide +kernel] at h
  exact h
theorem kl_3_1_6 (w : World) : Calls Try.prog 10 #[.agg #[.int .i64 3, .int .i64 1], .int .i64 (6)] w fun e w' => e = .returned (.tuple #[.int .i64 (3), .bool false, .int .i64 0]) ∧ Bw w w' := by
  have h := Level_any 3 1 (6) w
  rw [show levY 3 1 (6) = 3 by decide +kernel, show levL 3 1 (6) = false by decide +kernel, show levE 3 1 (6) = 0 by decide +kernel] at h
  exact h
theorem kl_3_1_m5 (w : World) : Calls Try.prog 10 #[.agg #[.int .i64 3, .int .i64 1], .int .i64 (-5)] w fun e w' => e = .returned (.tuple #[.int .i64 (-3), .bool false, .int .i64 0]) ∧ Bw w w' := by
  have h := Level_any 3 1 (-5) w
  rw [show levY 3 1 (-5) = -3 by decide +kernel, show levL 3 1 (-5) = false by decide +kernel, show levE 3 1 (-5) = 0 by decide +kernel] at h
  exact h
theorem kl_2_0_2 (w : World) : Calls Try.prog 10 #[.agg #[.int .i64 2, .int .i64 0], .int .i64 (2)] w fun e w' => e = .returned (.tuple #[.int .i64 (1), .bool true, .int .i64 0]) ∧ Bw w w' := by
  have h := Level_any 2 0 (2) w
  rw [show levY 2 0 (2) = 1 by decide +kernel, show levL 2 0 (2) = true by decide +kernel, show levE 2 0 (2) = 0 by decide +kernel] at h
  exact h
theorem kl_1_0_0 (w : World) : Calls Try.prog 10 #[.agg #[.int .i64 1, .int .i64 0], .int .i64 (0)] w fun e w' => e = .returned (.tuple #[.int .i64 (0), .bool false, .int .i64 2]) ∧ Bw w w' := by
  have h := Level_any 1 0 (0) w
  rw [show levY 1 0 (0) = 0 by decide +kernel, show levL 1 0 (0) = false by decide +kernel, show levE 1 0 (0) = 2 by decide +kernel] at h
  exact h
theorem kl_2_31_0 (w : World) : Calls Try.prog 10 #[.agg #[.int .i64 2, .int .i64 31], .int .i64 (0)] w fun e w' => e = .returned (.tuple #[.int .i64 (0), .bool false, .int .i64 2]) ∧ Bw w w' := by
  have h := Level_any 2 31 (0) w
  rw [show levY 2 31 (0) = 0 by decide +kernel, show levL 2 31 (0) = false by decide +kernel, show levE 2 31 (0) = 2 by decide +kernel] at h
  exact h
theorem kc_2_0 (w : World) : Calls Try.prog 12 #[.agg #[.int .i64 2, .int .i64 0]] w fun e w' => e = .returned (.tuple #[.int .i64 0, .int .i64 0]) ∧ Bw w w' := by
  have h := Coarse_any 2 0 w
  rw [show coarse 2 0 = 0 by decide +kernel, show errG 2 0 = 0 by decide +kernel] at h
  exact h
theorem kc_2_4 (w : World) : Calls Try.prog 12 #[.agg #[.int .i64 2, .int .i64 4]] w fun e w' => e = .returned (.tuple #[.int .i64 8, .int .i64 0]) ∧ Bw w w' := by
  have h := Coarse_any 2 4 w
  rw [show coarse 2 4 = 8 by decide +kernel, show errG 2 4 = 0 by decide +kernel] at h
  exact h
theorem kle_1 (v : Value) (w : World) (hv : RdS w v [(100, -3)]) : Calls Try.prog 25 #[v, .int .i64 3] w fun e w' => e = .returned (.tuple #[.agg #[.int .i64 3, .int .i64 5], .int .i64 0]) ∧ Bw w w' := by
  have h := Least_any 3 [(100, -3)] v w hv
  unfold LeastP at h
  rw [show leastV 3 [(100, -3)] = (3, 5, 0) by decide +kernel] at h
  exact h
theorem kle_2 (v : Value) (w : World) (hv : RdS w v []) : Calls Try.prog 25 #[v, .int .i64 8] w fun e w' => e = .returned (.tuple #[.agg #[.int .i64 8, .int .i64 0], .int .i64 0]) ∧ Bw w w' := by
  have h := Least_any 8 [] v w hv
  unfold LeastP at h
  rw [show leastV 8 [] = (8, 0, 0) by decide +kernel] at h
  exact h
theorem ka_1 (v : Value) (w : World) (hv : RdS w v [(100, 0)]) : Calls Try.prog 27 #[v, .agg #[.int .i64 3, .int .i64 1]] w fun e w' => e = .returned (.tuple #[.agg #[.int .i64 3, .int .i64 2], .int .i64 0]) ∧ Bw w w' := by
  have h := Adapt_any 3 1 [(100, 0)] v w hv
  unfold AdaptP at h
  rw [show adaptV 3 1 [(100, 0)] = (3, 2) by decide +kernel, show errQ 3 1 [(100, 0)] = 0 by decide +kernel] at h
  exact h
theorem ka_2 (v : Value) (w : World) (hv : RdS w v [(1, 0)]) : Calls Try.prog 27 #[v, .agg #[.int .i64 5, .int .i64 3]] w fun e w' => e = .returned (.tuple #[.agg #[.int .i64 5, .int .i64 2], .int .i64 0]) ∧ Bw w w' := by
  have h := Adapt_any 5 3 [(1, 0)] v w hv
  unfold AdaptP at h
  rw [show adaptV 5 3 [(1, 0)] = (5, 2) by decide +kernel, show errQ 5 3 [(1, 0)] = 0 by decide +kernel] at h
  exact h
theorem ka_3 (v : Value) (w : World) (hv : RdS w v [(1, 0)]) : Calls Try.prog 27 #[v, .agg #[.int .i64 2, .int .i64 0]] w fun e w' => e = .returned (.tuple #[.agg #[.int .i64 2, .int .i64 0], .int .i64 0]) ∧ Bw w w' := by
  have h := Adapt_any 2 0 [(1, 0)] v w hv
  unfold AdaptP at h
  rw [show adaptV 2 0 [(1, 0)] = (2, 0) by decide +kernel, show errQ 2 0 [(1, 0)] = 0 by decide +kernel] at h
  exact h
theorem kt_0 (w : World) (b : Nat) (hb : b = w.heap.size) : RdS (w.alloc (.cells #[.int .i64 (3), .int .i64 (-3)] 50)) (.slice (some ⟨b, 0, none⟩) 1 1) [(3, -3)] := by subst hb; exact RdS.lit w _ _ [(3, -3)] rfl (by decide)
theorem kt_1 (w : World) (b : Nat) (hb : b = w.heap.size) : RdS (w.alloc (.cells #[.int .i64 (4), .int .i64 (0)] 50)) (.slice (some ⟨b, 0, none⟩) 1 1) [(4, 0)] := by subst hb; exact RdS.lit w _ _ [(4, 0)] rfl (by decide)
theorem kt_2 (w : World) (b : Nat) (hb : b = w.heap.size) : RdS (w.alloc (.cells #[.int .i64 (6), .int .i64 (-6)] 50)) (.slice (some ⟨b, 0, none⟩) 1 1) [(6, -6)] := by subst hb; exact RdS.lit w _ _ [(6, -6)] rfl (by decide)
theorem kt_3 (w : World) (b : Nat) (hb : b = w.heap.size) : RdS (w.alloc (.cells #[.int .i64 (100), .int .i64 (-3)] 50)) (.slice (some ⟨b, 0, none⟩) 1 1) [(100, -3)] := by subst hb; exact RdS.lit w _ _ [(100, -3)] rfl (by decide)
theorem kt_4 (w : World) (b : Nat) (hb : b = w.heap.size) : RdS (w.alloc (.cells #[.int .i64 (100), .int .i64 (0)] 50)) (.slice (some ⟨b, 0, none⟩) 1 1) [(100, 0)] := by subst hb; exact RdS.lit w _ _ [(100, 0)] rfl (by decide)
theorem kt_5 (w : World) (b : Nat) (hb : b = w.heap.size) : RdS (w.alloc (.cells #[.int .i64 (1), .int .i64 (0)] 50)) (.slice (some ⟨b, 0, none⟩) 1 1) [(1, 0)] := by subst hb; exact RdS.lit w _ _ [(1, 0)] rfl (by decide)
theorem kt_6 (w : World) (b : Nat) (hb : b = w.heap.size) : RdS (w.alloc (.cells #[.int .i64 (1), .int .i64 (-1), .int .i64 (0), .int .i64 (0)] 50)) (.slice (some ⟨b, 0, none⟩) 2 2) [(1, -1), (0, 0)] := by subst hb; exact RdS.lit w _ _ [(1, -1), (0, 0)] rfl (by decide)
def KRs (e : Ending) (w' : World) : Prop := ∃ v, e = .returned (.tuple #[v, .int .i64 0]) ∧ RdS w' v [(6, -6)]
theorem kr_1 (v : Value) (w : World) (hv : RdS w v [(3, -3)]) : Calls Try.prog 19 #[v, .agg #[.int .i64 3, .int .i64 1]] w fun e w' => KRs e w' ∧ Bw w w' := by
  refine (Restore_any 3 1 _ v w hv).mono ?_
  rintro e w' ⟨⟨v', rfl, h1, h2⟩, hb⟩
  rw [show rsL 3 1 [(3, -3)] = [(6, -6)] by decide +kernel] at h1
  exact ⟨⟨v', by rw [show errR 3 1 [(3, -3)] = 0 by decide +kernel], h1⟩, hb⟩
def KRe (e : Ending) : Prop := ∃ v, e = .returned (.tuple #[v, .int .i64 2])
theorem kr_2 (v : Value) (w : World) (hv : RdS w v [(4, 0)]) : Calls Try.prog 19 #[v, .agg #[.int .i64 3, .int .i64 1]] w fun e w' => KRe e ∧ Bw w w' := by
  refine (Restore_any 3 1 _ v w hv).mono ?_
  rintro e w' ⟨⟨v', rfl, h1, h2⟩, hb⟩
  exact ⟨⟨v', by rw [show errR 3 1 [(4, 0)] = 2 by decide +kernel]⟩, hb⟩
def KRc (e : Ending) (w' : World) : Prop := ∃ v, e = .returned (.tuple #[v, .int .i64 0]) ∧ RdI w' v [1, 2, 1]
theorem kco (v : Value) (w : World) (hv : RdS w v [(1, -1), (0, 0)]) : Calls Try.prog 21 #[v, .agg #[.int .i64 2, .int .i64 0]] w fun e w' => KRc e w' ∧ Bw w w' := by
  refine (Counts_any 2 0 _ v w hv).mono ?_
  rintro e w' ⟨⟨v', rfl, h1, h2⟩, hb⟩
  rw [show cntL 2 0 [(1, -1), (0, 0)] = [1, 2, 1] by decide +kernel] at h1
  exact ⟨⟨v', by rw [show errQ 2 0 [(1, -1), (0, 0)] = 0 by decide +kernel], h1⟩, hb⟩
theorem kt_l (w : World) (b : Nat) (hb : b = w.heap.size) : RdI (w.alloc (.cells #[.int .i64 1, .int .i64 2, .int .i64 1] 3)) (.slice (some ⟨b, 0, none⟩) 3 3) [1, 2, 1] := by subst hb; exact RdI.lit w _ _ [1, 2, 1] rfl (by decide)
theorem rdS_nil (w : World) : RdS w (.slice none 0 0) [] := by
  first | exact RdS.nil w | (refine ⟨by simp, none, 0, rfl, ?_⟩; simp)

set_option maxRecDepth 100000
theorem known_any (w : World) : Calls Try.prog 6 #[] w fun e w' => e = .returned (.bool true) ∧ Bw w w' := by
  go_enter Try.func6, Try.ntmps6
  go_upto_region 2 with (fail)
  have Q := (KS.nil w).push 3 1
  generalize w.alloc (Obj.cells #[Value.int IntKind.i64 3, Value.int IntKind.i64 1] 23) = w0 at Q ⊢
  obtain ⟨sg, cg0, cg1, fg0, fg1⟩ := Q.hd
  go_wp2_with fail
  refine (kl_3_1_5 _).mono ?_
  rintro e w1 ⟨rfl, b1⟩
  clear sg cg0 cg1 fg0 fg1
  replace Q := Q.mono b1
  obtain ⟨sg, cg0, cg1, fg0, fg1⟩ := Q.hd
  clear b1
  go_wp2_with fail
  refine (kl_3_1_6 _).mono ?_
  rintro e w2 ⟨rfl, b2⟩
  clear sg cg0 cg1 fg0 fg1
  replace Q := Q.mono b2
  obtain ⟨sg, cg0, cg1, fg0, fg1⟩ := Q.hd
  clear b2
  go_wp2_with fail
  refine (kl_3_1_m5 _).mono ?_
  rintro e w3 ⟨rfl, b3⟩
  clear sg cg0 cg1 fg0 fg1
  replace Q := Q.mono b3
  obtain ⟨sg, cg0, cg1, fg0, fg1⟩ := Q.hd
  clear b3
  go_wp2_with fail
  refine (kl_2_0_2 _).mono ?_
  rintro e w4 ⟨rfl, b4⟩
  clear sg cg0 cg1 fg0 fg1
  replace Q := Q.mono b4
  obtain ⟨sg, cg0, cg1, fg0, fg1⟩ := Q.hd
  clear b4
  go_wp2_with fail
  refine (kl_1_0_0 _).mono ?_
  rintro e w5 ⟨rfl, b5⟩
  clear sg cg0 cg1 fg0 fg1
  replace Q := Q.mono b5
  obtain ⟨sg, cg0, cg1, fg0, fg1⟩ := Q.hd
  clear b5
  go_wp2_with fail
  refine (kl_2_31_0 _).mono ?_
  rintro e w6 ⟨rfl, b6⟩
  clear sg cg0 cg1 fg0 fg1
  replace Q := Q.mono b6
  obtain ⟨sg, cg0, cg1, fg0, fg1⟩ := Q.hd
  clear b6
  go_wp2_with fail
  refine (kr_1 _ _ (kt_0 _ _ (by simp))).mono ?_
  rintro e w7 ⟨⟨v0, rfl, hS⟩, b7⟩
  obtain ⟨a0, k0, rfl⟩ := hS.form
  have S := Lib.hid hS; clear hS
  clear sg cg0 cg1 fg0 fg1
  replace Q := Q.mono ((Bw.alloc (Bw.refl _) _).trans b7)
  obtain ⟨sg, cg0, cg1, fg0, fg1⟩ := Q.hd
  clear b7
  go_wp2_with fail
  refine (kr_2 _ _ (kt_1 _ _ (by simp))).mono ?_
  rintro e w8 ⟨⟨v1, rfl⟩, b8⟩
  clear sg cg0 cg1 fg0 fg1
  replace Q := Q.mono ((Bw.alloc (Bw.refl _) _).trans b8)
  obtain ⟨sg, cg0, cg1, fg0, fg1⟩ := Q.hd
  replace S := Lib.hid (S.out.mono ((Bw.alloc (Bw.refl _) _).trans b8)); clear b8
  go_wp2_with fail
  refine (kc_2_0 _).mono ?_
  rintro e w9 ⟨rfl, b9⟩
  clear sg cg0 cg1 fg0 fg1
  replace Q := Q.mono b9
  obtain ⟨sg, cg0, cg1, fg0, fg1⟩ := Q.hd
  replace S := Lib.hid (S.out.mono b9); clear b9
  go_wp2_with fail
  refine (kc_2_4 _).mono ?_
  rintro e w10 ⟨rfl, b10⟩
  clear sg cg0 cg1 fg0 fg1
  replace Q := Q.mono b10
  obtain ⟨sg, cg0, cg1, fg0, fg1⟩ := Q.hd
  replace S := Lib.hid (S.out.mono b10); clear b10
  go_wp2_with fail
  refine (samples_t [(6, -6)] _ _ _ (S.out.mono (Bw.alloc (Bw.refl _) _)) (kt_2 _ _ (by simp))).mono ?_
  rintro e w11 ⟨rfl, b11⟩
  clear sg cg0 cg1 fg0 fg1
  replace Q := Q.mono ((Bw.alloc (Bw.refl _) _).trans b11)
  obtain ⟨sg, cg0, cg1, fg0, fg1⟩ := Q.hd
  clear b11 S
  go_wp2_with fail
  refine (kle_1 _ _ (kt_3 _ _ (by simp))).mono ?_
  rintro e w12 ⟨rfl, b12⟩
  clear sg cg0 cg1 fg0 fg1
  replace Q := Q.mono ((Bw.alloc (Bw.refl _) _).trans b12)
  obtain ⟨sg, cg0, cg1, fg0, fg1⟩ := Q.hd
  clear b12
  have hgu := sg
  replace Q := Q.push 3 5
  go_wp2_with fail
  refine (kle_2 _ _ (rdS_nil _)).mono ?_
  rintro e w13 ⟨rfl, b13⟩
  clear sg cg0 cg1 fg0 fg1
  replace Q := Q.mono b13
  obtain ⟨su, cu0, cu1, fu0, fu1⟩ := Q.hd
  obtain ⟨sg, cg0, cg1, fg0, fg1⟩ := (Q.tl).hd
  clear b13
  have huv := su
  replace Q := Q.push 8 0
  go_wp2_with fail
  refine (ka_1 _ _ (kt_4 _ _ (by simp))).mono ?_
  rintro e w14 ⟨rfl, b14⟩
  clear su cu0 cu1 fu0 fu1 sg cg0 cg1 fg0 fg1
  replace Q := Q.mono ((Bw.alloc (Bw.refl _) _).trans b14)
  obtain ⟨sv, cv0, cv1, fv0, fv1⟩ := Q.hd
  obtain ⟨su, cu0, cu1, fu0, fu1⟩ := (Q.tl).hd
  obtain ⟨sg, cg0, cg1, fg0, fg1⟩ := ((Q.tl).tl).hd
  clear b14
  go_upto_region 19 with (fail)
  replace Q := ((Q.swap).set (by simp; omega) 3 2)
  generalize (w14.setCell ⟨w12.heap.size, 0, none⟩ (Value.int IntKind.i64 3)).setCell ⟨w12.heap.size, 1, none⟩ (Value.int IntKind.i64 2) = y14 at Q ⊢
  clear sv cv0 cv1 fv0 fv1 su cu0 cu1 fu0 fu1 sg cg0 cg1 fg0 fg1
  obtain ⟨su, cu0, cu1, fu0, fu1⟩ := Q.hd
  obtain ⟨sv, cv0, cv1, fv0, fv1⟩ := (Q.tl).hd
  obtain ⟨sg, cg0, cg1, fg0, fg1⟩ := ((Q.tl).tl).hd
  go_wp2_with fail
  refine (ka_2 _ _ (kt_5 _ _ (by simp))).mono ?_
  rintro e w15 ⟨rfl, b15⟩
  clear su cu0 cu1 fu0 fu1 sv cv0 cv1 fv0 fv1 sg cg0 cg1 fg0 fg1
  replace Q := Q.mono ((Bw.alloc (Bw.refl _) _).trans b15)
  obtain ⟨su, cu0, cu1, fu0, fu1⟩ := Q.hd
  obtain ⟨sv, cv0, cv1, fv0, fv1⟩ := (Q.tl).hd
  obtain ⟨sg, cg0, cg1, fg0, fg1⟩ := ((Q.tl).tl).hd
  clear b15
  go_upto_region 20 with (fail)
  replace Q := ((Q.swap).set (by simp; omega) 5 2)
  generalize (w15.setCell ⟨w13.heap.size, 0, none⟩ (Value.int IntKind.i64 5)).setCell ⟨w13.heap.size, 1, none⟩ (Value.int IntKind.i64 2) = y15 at Q ⊢
  clear su cu0 cu1 fu0 fu1 sv cv0 cv1 fv0 fv1 sg cg0 cg1 fg0 fg1
  obtain ⟨sv, cv0, cv1, fv0, fv1⟩ := Q.hd
  obtain ⟨su, cu0, cu1, fu0, fu1⟩ := (Q.tl).hd
  obtain ⟨sg, cg0, cg1, fg0, fg1⟩ := ((Q.tl).tl).hd
  go_wp2_with fail
  refine (ka_3 _ _ (kt_5 _ _ (by simp))).mono ?_
  rintro e w16 ⟨rfl, b16⟩
  clear sv cv0 cv1 fv0 fv1 su cu0 cu1 fu0 fu1 sg cg0 cg1 fg0 fg1
  replace Q := Q.mono ((Bw.alloc (Bw.refl _) _).trans b16)
  obtain ⟨sv, cv0, cv1, fv0, fv1⟩ := Q.hd
  obtain ⟨su, cu0, cu1, fu0, fu1⟩ := (Q.tl).hd
  obtain ⟨sg, cg0, cg1, fg0, fg1⟩ := ((Q.tl).tl).hd
  clear b16
  replace Q := Q.push 2 0
  go_wp2_with fail
  refine (kco _ _ (kt_6 _ _ (by simp))).mono ?_
  rintro e w17 ⟨⟨v2, rfl, hS⟩, b17⟩
  obtain ⟨a2, k2, rfl⟩ := hS.form
  have S := Lib.hid hS; clear hS
  clear sv cv0 cv1 fv0 fv1 su cu0 cu1 fu0 fu1 sg cg0 cg1 fg0 fg1
  replace Q := Q.mono ((Bw.alloc (Bw.refl _) _).trans b17)
  obtain ⟨st, ct0, ct1, ft0, ft1⟩ := Q.hd
  obtain ⟨sv, cv0, cv1, fv0, fv1⟩ := (Q.tl).hd
  obtain ⟨su, cu0, cu1, fu0, fu1⟩ := ((Q.tl).tl).hd
  clear b17
  go_wp2_with fail
  refine (awake_any _).mono ?_
  rintro e w18 ⟨rfl, b18⟩
  clear st ct0 ct1 ft0 ft1 sv cv0 cv1 fv0 fv1 su cu0 cu1 fu0 fu1
  replace Q := Q.mono b18
  obtain ⟨st, ct0, ct1, ft0, ft1⟩ := Q.hd
  obtain ⟨sv, cv0, cv1, fv0, fv1⟩ := (Q.tl).hd
  obtain ⟨su, cu0, cu1, fu0, fu1⟩ := ((Q.tl).tl).hd
  replace S := Lib.hid (S.out.mono b18); clear b18
  go_wp2_with fail
  refine (equal_t [1, 2, 1] _ _ _ (S.out.mono (Bw.alloc (Bw.refl _) _)) (kt_l _ _ (by simp))).mono ?_
  rintro e w19 ⟨rfl, b19⟩
  clear st ct0 ct1 ft0 ft1 sv cv0 cv1 fv0 fv1 su cu0 cu1 fu0 fu1
  replace Q := Q.mono ((Bw.alloc (Bw.refl _) _).trans b19)
  obtain ⟨st, ct0, ct1, ft0, ft1⟩ := Q.hd
  obtain ⟨sv, cv0, cv1, fv0, fv1⟩ := (Q.tl).hd
  obtain ⟨su, cu0, cu1, fu0, fu1⟩ := ((Q.tl).tl).hd
  have HB := Lib.hid Q.bw; clear Q
  go_wp2_with fail
  go_ret
  exact ⟨rfl, HB.out⟩
end Go.Proofs.Sky
