/-
  lemmas for the theorems of this claim. No conditions beyond those written in the statements.
-/
import Derived.Test.YtmilfedbggbpdaaM13
set_option linter.unusedVariables false
set_option linter.unusedSimpArgs false
set_option linter.unnecessarySimpa false
namespace Go.Proofs.Sky
open Go Go.RowKit
set_option maxHeartbeats 1000000
def ab (x : Int) : Int := if x < 0 then -x else x
theorem ab_cases (x : Int) : (x < 0 ∧ ab x = -x) ∨ (0 ≤ x ∧ ab x = x) := by unfold ab; split <;> omega
def pkf (s : Nat) (m : Int) (p : Int × Int) : Int := max (max m (ab (rnd p.1 s))) (ab (rnd p.2 s))
def pk (s : Nat) (ps : List (Int × Int)) : Int := ps.foldl (pkf s) 0
theorem pk_snoc (s : Nat) (ps : List (Int × Int)) (p : Int × Int) : pk s (ps ++ [p]) = pkf s (pk s ps) p := by unfold pk; rw [List.foldl_append]; rfl
theorem ab_rnd_bd (x : Int) (s : Nat) (h1 : -70368744177664 ≤ x) (h2 : x ≤ 70368744177664) : 0 ≤ ab (rnd x s) ∧ ab (rnd x s) ≤ 70368744177664 := by
  have := rnd_bd x s h1 h2
  rcases ab_cases (rnd x s) with ⟨_, h⟩ | ⟨_, h⟩ <;> rw [h] <;> omega
theorem in46 {p : Int × Int} (h : inP 70368744177664 p = true) : (-70368744177664 ≤ p.1 ∧ p.1 ≤ 70368744177664) ∧ -70368744177664 ≤ p.2 ∧ p.2 ≤ 70368744177664 := by
  simpa only [inP, inI, Bool.and_eq_true, decide_eq_true_eq] using h
theorem pk_bd (s : Nat) (ps : List (Int × Int)) (h : ∀ p ∈ ps, inP 70368744177664 p = true) : 0 ≤ pk s ps ∧ pk s ps ≤ 70368744177664 := by
  have : ∀ (l : List (Int × Int)) (m : Int), (∀ p ∈ l, inP 70368744177664 p = true) → 0 ≤ m → m ≤ 70368744177664 → 0 ≤ l.foldl (pkf s) m ∧ l.foldl (pkf s) m ≤ 70368744177664 := by
    intro l
    induction l with
    | nil => intro m _ h1 h2; exact ⟨h1, h2⟩
    | cons p l ih =>
      intro m hl h1 h2
      obtain ⟨⟨i1, i2⟩, i3, i4⟩ := in46 (hl p (by simp))
      have a1 := ab_rnd_bd p.1 s i1 i2
      have a2 := ab_rnd_bd p.2 s i3 i4
      rw [List.foldl_cons]
      exact ih _ (fun q hq => hl q (by simp [hq])) (by unfold pkf; omega) (by unfold pkf; omega)
  exact this ps 0 h (by omega) (by omega)
theorem mem_take {α : Type} (l : List α) (k : Nat) {P : α → Prop} (h : ∀ p ∈ l, P p) : ∀ p ∈ l.take k, P p := fun p hp => h p (List.mem_of_mem_take hp)
theorem ret_i {a b : Int} (h : a = b) : Value.int .i64 a = .int .i64 b := by rw [h]
theorem peak_any (s : Int) (hs1 : 0 ≤ s) (hs2 : s ≤ 30) (ps : List (Int × Int)) (v : Value) (w : World) (hv : RdS w v ps) (hps : ∀ p ∈ ps, inP 70368744177664 p = true) :
    Calls Try.prog 42 #[v, .int .i64 s] w fun e w' => e = .returned (.int .i64 (pk s.toNat ps)) ∧ Bw w w' := by
  obtain ⟨_, a, cap, rfl, h4⟩ := hv
  obtain ⟨n, hnn⟩ : ∃ n, n = ps.length := ⟨_, rfl⟩
  rw [← hnn]
  have hn : n ≤ 9223372036854775807 := by omega
  have HN := Lib.hid hnn; clear hnn
  have H4 := Lib.hid h4; clear h4
  have HP := Lib.hid hps; clear hps
  go_enter Try.func42, Try.ntmps42
  go_wp2
  go_loopg [5, 13] n (fun gg s5 s13 wr => ∃ k : Nat, k ≤ n ∧ n - k ≤ gg ∧ s13 = .int .i64 k ∧ s5 = .int .i64 (pk s.toNat (ps.take k)) ∧ Hid (Bw w wr))
  case atStart => exact ⟨0, Nat.zero_le _, by omega, rfl, rfl, Bw.refl _⟩
  case round =>
    obtain ⟨k, hk, hg, rfl, rfl, hbw⟩ := hrel
    by_cases hlt : k < n
    · have hltz : (k : Int) < (n : Int) := by omega
      have hq := HN.out
      obtain ⟨bb, off, rfl, hbb, hc⟩ := H4.out.resolve_left (by intro h; rw [h] at hq; simp at hq; omega)
      obtain ⟨d1, d2⟩ := hc k (by omega)
      rw [← hbw.out.cells.1 _ _ hbb] at d1 d2
      have hbr : bb < wr.heap.size := by have := hbw.out.size; omega
      have hm := in46 (HP.out _ (getD_mem ps k (0, 0) (by omega)))
      have hbd := pk_bd s.toNat (ps.take k) (mem_take ps k HP.out)
      have HS := Lib.hid (congrArg (pk s.toNat) (take_snoc' ps k (0, 0) (by omega)))
      generalize hx : ps.getD k (0, 0) = x at d1 d2 hm HS
      clear hx hc hq H4
      obtain ⟨x1, x2⟩ := x
      obtain ⟨⟨i1, i2⟩, i3, i4⟩ := hm
      have a1 := ab_rnd_bd x1 s.toNat i1 i2
      have a2 := ab_rnd_bd x2 s.toNat i3 i4
      have n1 := rnd_bd x1 s.toNat i1 i2
      have n2 := rnd_bd x2 s.toNat i3 i4
      have hs := HS.out
      rw [pk_snoc] at hs
      have HS2 := Lib.hid hs; clear hs HS
      obtain ⟨D, hD0, hD1, hD2⟩ : ∃ D : Nat → Int, D 0 = pk s.toNat (ps.take k) ∧ D 1 = max (D 0) (ab (rnd x1 s.toNat)) ∧ D 2 = max (D 1) (ab (rnd x2 s.toNat)) :=
        ⟨fun j => if j = 0 then pk s.toNat (ps.take k) else if j = 1 then max (pk s.toNat (ps.take k)) (ab (rnd x1 s.toNat)) else max (max (pk s.toNat (ps.take k)) (ab (rnd x1 s.toNat))) (ab (rnd x2 s.toNat)), rfl, rfl, rfl⟩
      have HD := Lib.hid (And.intro hD0 (And.intro hD1 hD2))
      have hE : pkf s.toNat (pk s.toNat (ps.take k)) (x1, x2) = D 2 := by unfold pkf; rw [hD2, hD1, hD0]
      have e0 : 0 ≤ D 0 ∧ D 0 ≤ 70368744177664 := by omega
      have e1 : 0 ≤ D 1 ∧ D 1 ≤ 70368744177664 := by omega
      rw [hE] at HS2
      rw [← hD0]
      clear hE hD0 hD1 hD2 hbd a1 a2
      have j0 : ∀ w, (Instr.index 65 (.agg #[.int .i64 x1, .int .i64 x2]) (.int .i64 0)).run Try.prog w = .ok (.int .i64 x1) w := fun _ => by kernel_rfl
      have j1 : ∀ w, (Instr.index 65 (.agg #[.int .i64 x1, .int .i64 x2]) (.int .i64 1)).run Try.prog w = .ok (.int .i64 x2) w := fun _ => by kernel_rfl
      go_wp2_with (go_at_call 41; refine (parts_any _ _ _).mono ?_; rintro e w3 ⟨rfl, hb3⟩)
      have b3 : Bw w w3 := Bw.trans hbw.out (Bw.trans (Bw.alloc (Bw.refl _) _) hb3)
      have HB3 := Lib.hid b3; clear b3 hb3 d1 d2
      go_loopg [5, 9, 10, 19] 2 (fun g2 s5 _ _ s19 wi => ∃ j : Nat, j ≤ 2 ∧ 2 - j ≤ g2 ∧ s19 = .int .i64 j ∧ s5 = .int .i64 (D j) ∧ Hid (Bw w wi))
      case atStart => exact ⟨0, by omega, by omega, rfl, rfl, HB3.out⟩
      case round =>
        obtain ⟨j, hj, hg2, rfl, rfl, hbi⟩ := hrel
        obtain rfl | rfl | rfl : j = 0 ∨ j = 1 ∨ j = 2 := by omega
        · go_wp2_with (go_at_call 44; refine (rounded_any _ _ hs1 hs2 i1 i2 _).mono ?_; rintro e w' ⟨rfl, hb⟩; obtain ⟨hcc, hff⟩ := Bw.cells hb; have hsz := Bw.size hb; try (have hz0 : w.heap.size < w'.heap.size := by (try simp at hsz); omega); try (have hz1 : w.heap.size + 1 < w'.heap.size := by (try simp at hsz); omega); try (have hz2 : w.heap.size + 1 + 1 < w'.heap.size := by (try simp at hsz); omega); try (have hz3 : w.heap.size + 1 + 1 + 1 < w'.heap.size := by (try simp at hsz); omega); try (have hz4 : w.heap.size + 1 + 1 + 1 + 1 < w'.heap.size := by (try simp at hsz); omega); try (have hzr : wr.heap.size < w'.heap.size := by (try simp at hsz); omega); try (have hzr1 : wr.heap.size + 1 < w'.heap.size := by (try simp at hsz); omega))
          all_goals go_roundg 1
          all_goals first | omega | skip
          all_goals (have bi := hbi.out; refine ⟨1, by omega, by omega, rfl, ret_i ?_, Bw.trans bi hb⟩; have h1 := HD.out.2.1; have h2 := ab_cases (rnd x1 s.toNat); omega)
        · go_wp2_with (go_at_call 44; refine (rounded_any _ _ hs1 hs2 i3 i4 _).mono ?_; rintro e w' ⟨rfl, hb⟩; obtain ⟨hcc, hff⟩ := Bw.cells hb; have hsz := Bw.size hb; try (have hz0 : w.heap.size < w'.heap.size := by (try simp at hsz); omega); try (have hz1 : w.heap.size + 1 < w'.heap.size := by (try simp at hsz); omega); try (have hz2 : w.heap.size + 1 + 1 < w'.heap.size := by (try simp at hsz); omega); try (have hz3 : w.heap.size + 1 + 1 + 1 < w'.heap.size := by (try simp at hsz); omega); try (have hz4 : w.heap.size + 1 + 1 + 1 + 1 < w'.heap.size := by (try simp at hsz); omega); try (have hzr : wr.heap.size < w'.heap.size := by (try simp at hsz); omega); try (have hzr1 : wr.heap.size + 1 < w'.heap.size := by (try simp at hsz); omega))
          all_goals go_roundg 0
          all_goals first | omega | skip
          all_goals (have bi := hbi.out; refine ⟨2, by omega, by omega, rfl, ret_i ?_, Bw.trans bi hb⟩; have h1 := HD.out.2.2; have h2 := ab_cases (rnd x2 s.toNat); omega)
        · go_wp2
          go_roundg (n - (k + 1))
          case measure => omega
          case rel => exact ⟨k + 1, by omega, by omega, by go_num, by rw [HS2.out], hbi.out⟩
    · have hltz : ¬ (k : Int) < (n : Int) := by omega
      have : k = n := by omega
      subst this
      go_wp2
      go_ret
      exact ⟨ret_int (by rw [List.take_of_length_le (by have := HN.out; omega)]), hbw.out⟩
end Go.Proofs.Sky
