/-
  lemmas for the theorems of this claim. No conditions beyond those written in the statements.
-/
import Derived.Test.YtmilfedbggbpdaaAD13
import Derived.Test.YtmilfedbggbpdaaAE13
import Derived.Test.YtmilfedbggbpdaaN13
import Derived.Deep.DeepCutAuto
set_option linter.unusedVariables false
set_option linter.unusedSimpArgs false
set_option linter.unnecessarySimpa false
namespace Go.Proofs.Sky
open Go Go.RowKit
set_option maxHeartbeats 8000000
set_option maxRecDepth 100000
set_option linter.unusedVariables false
def QE (b s x y a c l : Int) (base : Nat) (e : Ending) (w' : World) : Prop := ∃ v, e = .returned (.tuple #[.agg #[v, .int .i64 l], .int .i64 0]) ∧ RdS w' v [(a, c)] ∧ Fresh base v
def RE (P a c : Int) (e : Ending) (w' : World) : Prop := ∃ v, e = .returned (.tuple #[v, .int .i64 0]) ∧ RdS w' v [(a * P, c * P)]
structure EK (b s x y a c : Int) (la lc : Bool) (l : Int) : Prop where
  kx : ∀ w, Calls Try.prog 10 #[.agg #[.int .i64 b, .int .i64 s], .int .i64 x] w fun e w' => e = .returned (.tuple #[.int .i64 a, .bool la, .int .i64 0]) ∧ Bw w w'
  kn : ∀ w, ∃ q, Calls Try.prog 10 #[.agg #[.int .i64 b, .int .i64 s], .int .i64 (-x)] w fun e w' => e = .returned (.tuple #[.int .i64 (-a), .bool q, .int .i64 0]) ∧ Bw w w'
  ky : ∀ w, Calls Try.prog 10 #[.agg #[.int .i64 b, .int .i64 s], .int .i64 y] w fun e w' => e = .returned (.tuple #[.int .i64 c, .bool lc, .int .i64 0]) ∧ Bw w w'
  kc : ∀ w, Calls Try.prog 12 #[.agg #[.int .i64 b, .int .i64 s]] w fun e w' => e = .returned (.tuple #[.int .i64 (2 ^ s.toNat / 2), .int .i64 0]) ∧ Bw w w'
  kq : ∀ w v, RdS w v [(x, y)] → Calls Try.prog 17 #[v, .agg #[.int .i64 b, .int .i64 s]] w fun e w' => QE b s x y a c l w.heap.size e w' ∧ Bw w w'
  kr : ∀ w v, RdS w v [(a, c)] → Calls Try.prog 19 #[v, .agg #[.int .i64 b, .int .i64 s]] w fun e w' => RE (2 ^ s.toNat) a c e w' ∧ Bw w w'
theorem ek {b s x y a c : Int} {la lc : Bool} (F : EF b s x y a c la lc) : EK b s x y a c la lc (if (la || lc) = true then 1 else 0) := by
  refine ⟨fun w => ?_, fun w => ⟨levL b s (-x), ?_⟩, fun w => ?_, fun w => ?_, fun w v hv => ?_, fun w v hv => ?_⟩
  · have h := Level_any b s x w
    rw [F.x1, F.x2, F.x3] at h
    exact h
  · have h := Level_any b s (-x) w
    rw [F.n1, F.n3] at h
    exact h
  · have h := Level_any b s y w
    rw [F.y1, F.y2, F.y3] at h
    exact h
  · have h := Coarse_any b s w
    rw [F.k1, F.k2] at h
    exact h
  · refine (Quantise_any b s _ v w hv).mono ?_
    rintro e w' ⟨⟨v', rfl, h1, h2⟩, hb⟩
    rw [F.q2] at h1
    exact ⟨⟨v', by rw [F.q3, F.q1], h1, h2⟩, hb⟩
  · refine (Restore_any b s _ v w hv).mono ?_
    rintro e w' ⟨⟨v', rfl, h1, h2⟩, hb⟩
    rw [F.r2] at h1
    exact ⟨⟨v', by rw [F.r1], h1⟩, hb⟩
theorem kt_p (x y : Int) (w : World) (b : Nat) (hb : b = w.heap.size) : RdS (w.alloc (.cells #[.int .i64 x, .int .i64 y] 50)) (.slice (some ⟨b, 0, none⟩) 1 1) [(x, y)] := by subst hb; exact RdS.lit w _ _ [(x, y)] rfl (by simp)
theorem law_error (z0 z1 z2 z3 : Int) (w : World) : Calls Try.prog 7 #[.int .i64 z0, .int .i64 z1, .int .i64 z2, .int .i64 z3] w fun e w' => e = .returned (.bool true) ∧ Bw w w' := by
  have K0 := fun w => turn_any z0 7 (by omega) (by omega) w
  have K1 := fun w => turn_any z1 31 (by omega) (by omega) w
  have K2 := fun w => turn_any z2 2199023255552 (by omega) (by omega) w
  have K3 := fun w => turn_any z3 2199023255552 (by omega) (by omega) w
  have ⟨t00, t01⟩ := turn_bd z0 7 (by omega)
  have ⟨t10, t11⟩ := turn_bd z1 31 (by omega)
  have ⟨t20, t21⟩ := turn_bd z2 2199023255552 (by omega)
  have ⟨t30, t31⟩ := turn_bd z3 2199023255552 (by omega)
  generalize turn z0 7 = t0 at *
  generalize turn z1 31 = s at *
  generalize turn z2 2199023255552 = t2 at *
  generalize turn z3 2199023255552 = t3 at *
  have HK := Lib.hid (And.intro K0 (And.intro K1 (And.intro K2 K3)))
  clear K0 K1 K2 K3
  go_enter Try.func7, Try.ntmps7
  go_wp2_with fail
  refine (known_any _).mono ?_
  rintro e w1 ⟨rfl, b1⟩
  go_wp2_with fail
  refine (HK.out.1 _).mono ?_
  rintro e w2 ⟨rfl, b2⟩
  go_wp2_with fail
  refine (HK.out.2.1 _).mono ?_
  rintro e w3 ⟨rfl, b3⟩
  go_upto_region 3 with (fail)
  obtain ⟨c1, c2⟩ : 2 ≤ 2 + t0 ∧ 2 + t0 ≤ 8 := by omega
  generalize 2 + t0 = b at c1 c2 ⊢
  have Q : KS w _ _ := ((KS.nil w).mono (b1.trans (b2.trans b3))).push b s
  clear b1 b2 b3
  generalize w3.alloc (Obj.cells #[Value.int IntKind.i64 b, Value.int IntKind.i64 s] 23) = w0 at Q ⊢
  obtain ⟨sg, cg0, cg1, fg0, fg1⟩ := Q.hd
  go_wp2_with fail
  refine (HK.out.2.2.1 _).mono ?_
  rintro e w4 ⟨rfl, b4⟩
  go_wp2_with fail
  refine (HK.out.2.2.2 _).mono ?_
  rintro e w5 ⟨rfl, b5⟩
  go_upto_region 4 with (fail)
  clear HK
  obtain ⟨x1, x2⟩ : -1099511627776 ≤ t2 - 1099511627776 ∧ t2 - 1099511627776 ≤ 1099511627776 := by omega
  obtain ⟨y1, y2⟩ : -1099511627776 ≤ t3 - 1099511627776 ∧ t3 - 1099511627776 ≤ 1099511627776 := by omega
  generalize t2 - 1099511627776 = x at x1 x2 ⊢
  generalize t3 - 1099511627776 = y at y1 y2 ⊢
  clear sg cg0 cg1 fg0 fg1
  replace Q := Q.mono (b4.trans b5)
  clear b4 b5
  obtain ⟨sg, cg0, cg1, fg0, fg1⟩ := Q.hd
  obtain ⟨a, c, la, lc, F⟩ : ∃ a c la lc, EF b s x y a c la lc := ⟨_, _, _, _, ef ⟨c1, c2, t10, by omega⟩ ⟨x1, x2⟩ ⟨y1, y2⟩⟩
  have HK := Lib.hid (ek F)
  obtain ⟨l, hl⟩ : ∃ l : Int, l = if (la || lc) = true then 1 else 0 := ⟨_, rfl⟩
  rw [← hl] at HK
  have HL := Lib.hid hl; clear hl
  have m1 := F.m1
  have m2 := F.m2
  obtain ⟨a1, a2⟩ := F.b1
  obtain ⟨a3, a4⟩ := F.b2
  have HD := Lib.hid F.d1
  clear F
  have ⟨p1, p2⟩ := pow30 s.toNat (by omega)
  go_wp2_with fail
  refine (HK.out.kx _).mono ?_
  rintro e w6 ⟨rfl, b6⟩
  clear sg cg0 cg1 fg0 fg1
  replace Q := Q.mono b6
  clear b6
  obtain ⟨sg, cg0, cg1, fg0, fg1⟩ := Q.hd
  go_wp2_with fail
  obtain ⟨qn, kn⟩ := HK.out.kn w6
  refine kn.mono ?_
  rintro e w7 ⟨rfl, b7⟩
  clear sg cg0 cg1 fg0 fg1 kn
  replace Q := Q.mono b7
  clear b7
  obtain ⟨sg, cg0, cg1, fg0, fg1⟩ := Q.hd
  go_wp2_with fail
  refine (HK.out.ky _).mono ?_
  rintro e w8 ⟨rfl, b8⟩
  clear sg cg0 cg1 fg0 fg1
  replace Q := Q.mono b8
  clear b8
  obtain ⟨sg, cg0, cg1, fg0, fg1⟩ := Q.hd
  go_wp2_with fail
  refine (HK.out.kc _).mono ?_
  rintro e w9 ⟨rfl, b9⟩
  clear sg cg0 cg1 fg0 fg1
  replace Q := Q.mono b9
  clear b9
  obtain ⟨sg, cg0, cg1, fg0, fg1⟩ := Q.hd
  go_upto_region 8 with (fail)
  have hord : (x < y ∧ ¬ y ≤ x ∧ x ≤ y ∧ a ≤ c) ∨ (x = y ∧ a = c) ∨ (y < x ∧ ¬ x ≤ y ∧ y ≤ x ∧ c ≤ a) := by
    rcases Int.lt_trichotomy x y with h | h | h
    · exact .inl ⟨h, by omega, by omega, m1 (by omega)⟩
    · exact .inr (.inl ⟨h, by have := m1 (by omega); have := m2 (by omega); omega⟩)
    · exact .inr (.inr ⟨h, by omega, by omega, m2 (by omega)⟩)
  clear m1 m2
  have HM := Lib.hid hord
  clear hord
  go_cut [104] (fun t wx => t = .bool false ∧ wx = w9)
  case first =>
    rcases HM.out with ⟨o1, o2, o3, o4⟩ | ⟨o1, o2⟩ | ⟨o1, o2, o3, o4⟩
    · go_wp2_with fail
      all_goals (go_meet; exact ⟨by first | rfl | rw [decide_eq_false (by omega)], rfl⟩)
    · subst o1
      subst o2
      go_wp2_with fail
      all_goals (go_meet; exact ⟨by first | rfl | rw [decide_eq_false (by omega)], rfl⟩)
    · go_wp2_with fail
      all_goals (go_meet; exact ⟨by first | rfl | rw [decide_eq_false (by omega)], rfl⟩)
  case rest =>
    obtain ⟨rfl, rfl⟩ := hcut
    go_wp2_with fail
    refine (HK.out.kq _ _ (kt_p _ _ _ _ (by simp))).mono ?_
    rintro e w10 ⟨⟨v, rfl, r, _⟩, b10⟩
    obtain ⟨aa, kk, rfl⟩ := r.form
    have R := Lib.hid r; clear r
    clear sg cg0 cg1 fg0 fg1
    replace Q := Q.mono ((Bw.alloc (Bw.refl _) _).trans b10)
    clear b10
    obtain ⟨sg, cg0, cg1, fg0, fg1⟩ := Q.hd
    go_wp2_with fail
    refine (HK.out.kr _ _ (R.out.mono (Bw.alloc (Bw.refl _) _))).mono ?_
    rintro e w11 ⟨⟨v2, rfl, r2⟩, b11⟩
    obtain ⟨a2', k2, rfl⟩ := r2.form
    have hq1 : w11.cell? ⟨w10.heap.size, 1, none⟩ = some (.int .i64 l) := (b11.cells.1 w10.heap.size 1 (by simp)).trans (by simp [go_sem])
    have hsq : w10.heap.size < w11.heap.size := by have := b11.size; simp at this; omega
    clear sg cg0 cg1 fg0 fg1
    replace Q := Q.mono ((Bw.alloc (Bw.refl _) _).trans b11)
    clear b11 HK R
    obtain ⟨sg, cg0, cg1, fg0, fg1⟩ := Q.hd
    obtain ⟨_, _, _, he, hr4⟩ := r2
    simp only [Value.slice.injEq] at he
    obtain ⟨rfl, hz9, rfl⟩ := he
    obtain ⟨bb, off, rfl, hbb, hc⟩ := hr4.resolve_left (by simp)
    obtain ⟨d1, d2⟩ := hc 0 (by simp)
    simp only [Nat.zero_mul, Nat.add_zero, List.getD_cons_zero] at d1 d2
    clear hc hr4 hz9
    simp only [List.length_cons, List.length_nil, Nat.zero_add]
    have ⟨u1, u2⟩ := mul_bd a 127 (2 ^ s.toNat) (by omega) (by omega) (by omega) p1 p2
    have ⟨u3, u4⟩ := mul_bd c 127 (2 ^ s.toNat) (by omega) (by omega) (by omega) p1 p2
    go_upto_region 12 with (fail)
    go_cut [141] (fun t wx => t = .bool false ∧ wx = w11)
    case first =>
      have hl := HL.out
      clear HL
      rcases la <;> rcases lc <;> simp at hl <;> subst hl
      all_goals (go_wp2_with fail; go_meet; exact ⟨rfl, rfl⟩)
    case rest =>
      obtain ⟨rfl, rfl⟩ := hcut
      clear HL
      go_upto_region 15 with (fail)
      have e0 := fun p : Ext wc => Ext.cell sg cg1 p
      have e1 := fun p : Ext wc => Ext.cell hbb d1 p
      have e2 := fun p : Ext wc => Ext.cell hbb d2 p
      have HB := Lib.hid Q.bw
      clear Q
      rcases la with _ | _
      · have hd := HD.out rfl
        clear HD
        (refine wp_region_quiet_ext (by kernel_rfl) (by kernel_rfl) ?_; (repeat (go_big_quiet_step ((fail)))); refine wpQuiet_nil ?_; rintro wq ⟨⟨_, hbq⟩, rfl⟩; obtain ⟨hccq, hffq⟩ := Bw.cells hbq; have hszq := Bw.size hbq)
        go_wp2
        all_goals (go_ret; refine ⟨?_, HB.out.trans hbq⟩; first | rfl | (show Ending.returned (.bool (decide _)) = _; rw [decide_eq_true (by omega)]))
      · clear HD
        (refine wp_region_quiet_ext (by kernel_rfl) (by kernel_rfl) ?_; (repeat (go_big_quiet_step ((fail)))); refine wpQuiet_nil ?_; rintro wq ⟨⟨_, hbq⟩, rfl⟩; obtain ⟨hccq, hffq⟩ := Bw.cells hbq; have hszq := Bw.size hbq)
        go_wp2
        go_ret
        exact ⟨rfl, HB.out.trans hbq⟩
end Go.Proofs.Sky
