/-
  lemmas for the theorems of this claim. No conditions beyond those written in the statements.
-/
import Derived.Test.YtmndialneggbjaaProg
import Derived.Test.YtmndialneggbjaaBlkC
import Derived.Test.YtmndialneggbjaaRdAt
import Derived.Test.YtmndialneggbjaaP21
import Derived.Test.YtmndialneggbjaaKit
set_option linter.unusedVariables false
set_option linter.unusedSimpArgs false
set_option linter.unnecessarySimpa false
namespace Go.Proofs.Sky
open Go Go.RowKit Go.Shelf
set_option maxHeartbeats 2000000
theorem inside_any (x y : Int) (w : World) : Calls Try.prog 32 #[.agg #[.int .i64 x, .int .i64 y]] w fun e w' => e = .returned (.bool (insP (x, y))) ∧ Bw w w' := by
  have HF := Lib.hid (show insP (x, y) = decide (-1048576 ≤ x ∧ x ≤ 1048576 ∧ -1048576 ≤ y ∧ y ≤ 1048576) from rfl)
  rcases Int.le_total x y with h | h
  all_goals
    go_enter Try.func32, Try.ntmps32
    go_wp2
    all_goals (go_ret; refine ⟨ret_bool ?_, (by repeat (first | exact Bw.refl _ | assumption | refine Bw.alloc ?_ _ | refine Bw.drew ?_ | refine Bw.trans ?_ (by assumption) | refine Bw.setCell ?_ (by simp; try omega) _))⟩; rw [HF.out]; first | (rw [decide_eq_decide]; omega) | (symm; rw [decide_eq_true_iff]; omega) | (symm; rw [decide_eq_false_iff_not]; omega))
theorem mul_bd3 (m u a b : Int) (h1 : -a ≤ m) (h2 : m ≤ a) (h3 : -b ≤ u) (h4 : u ≤ b) : -(a * b) ≤ m * u ∧ m * u ≤ a * b := by
  have ha : 0 ≤ a := by omega
  have hb : 0 ≤ b := by omega
  have p1 := Int.mul_nonneg (show 0 ≤ a - m by omega) (show 0 ≤ b - u by omega)
  have p2 := Int.mul_nonneg (show 0 ≤ a + m by omega) (show 0 ≤ b + u by omega)
  have p3 := Int.mul_nonneg (show 0 ≤ a - m by omega) (show 0 ≤ b + u by omega)
  have p4 := Int.mul_nonneg (show 0 ≤ a + m by omega) (show 0 ≤ b - u by omega)
  simp only [Int.sub_mul, Int.mul_sub, Int.add_mul, Int.mul_add] at p1 p2 p3 p4
  constructor <;> omega
theorem scalar_any (a b c d : Int) (w : World) (h : insP (a, b) = true) (h2 : insP (c, d) = true) : Calls Try.prog 35 #[.agg #[.int .i64 a, .int .i64 b], .agg #[.int .i64 c, .int .i64 d]] w fun e w' => e = .returned (.int .i64 (scl (a, b) (c, d))) ∧ Bw w w' := by
  have HF := Lib.hid (show scl (a, b) (c, d) = a * c + b * d from rfl)
  obtain ⟨a1, a2, a3, a4⟩ := (insP_iff _).1 h
  obtain ⟨b1, b2, b3, b4⟩ := (insP_iff _).1 h2
  simp only at a1 a2 a3 a4 b1 b2 b3 b4
  have ⟨m1, m2⟩ := mul_bd3 a c 1048576 1048576 (by omega) (by omega) (by omega) (by omega)
  have ⟨m3, m4⟩ := mul_bd3 b d 1048576 1048576 (by omega) (by omega) (by omega) (by omega)
  clear h h2
  go_enter Try.func35, Try.ntmps35
  go_wp2
  go_ret
  exact ⟨ret_int HF.out.symm, (by repeat (first | exact Bw.refl _ | assumption | refine Bw.alloc ?_ _ | refine Bw.drew ?_ | refine Bw.trans ?_ (by assumption) | refine Bw.setCell ?_ (by simp; try omega) _))⟩
/-- a sync, as a value -/
def syV (v : Value) (seen : Int) (la : Int × Int) : Array Value := #[v, .int .i64 seen, .int .i64 la.1, .int .i64 la.2]
theorem Check_any (ch : List Int) (v : Value) (seen : Int) (x y : Int) (w : World) (hv : RdI w v ch) :
    Calls Try.prog 26 #[.agg #[v, .int .i64 seen, .int .i64 x, .int .i64 y]] w fun e w' => e = .returned (.int .i64 (errS ch seen (x, y))) ∧ Bw w w' := by
  have HV := Lib.hid hv
  obtain ⟨ad, cap, rfl⟩ := hv.form
  clear hv
  have HI := Lib.hid (fun W => inside_any x y W)
  obtain ⟨n, hn⟩ : ∃ n, n = ch.length := ⟨_, rfl⟩
  have HN := Lib.hid hn
  have HBW := Lib.hid (Bw.alloc (Bw.refl w) (.cells #[.slice ad n cap, .int .i64 seen, .int .i64 x, .int .i64 y] 36))
  have BX := Lib.hid (Blk.new w 36 #[.slice ad n cap, .int .i64 seen, .int .i64 x, .int .i64 y])
  by_cases hb : ch.length < 1 ∨ 20 < ch.length ∨ seen < 0 ∨ 1000000 < seen ∨ insP (x, y) = false
  · have HE := Lib.hid (show errS ch seen (x, y) = 2 by unfold errS; rw [if_pos hb])
    rw [HE.out]
    clear HE
    rw [← hn] at hb ⊢
    clear hn
    by_cases q1 : (n : Int) < 1
    · clear hb
      go_enter Try.func26, Try.ntmps26
      go_wp2_with (first | (go_at_call 32; (with_reducible refine Calls.mono (HI.out _) ?_); rintro e1 w1 ⟨rfl, hb1⟩; replace HBW := Lib.hid (HBW.out.trans hb1); replace BX := Lib.hid (BX.out.bw hb1); have k0 : w1.cell? ⟨w.heap.size, 0, none⟩ = some (.slice ad n cap) := BX.out.cell rfl; have k1 : w1.cell? ⟨w.heap.size, 1, none⟩ = some (.int .i64 seen) := BX.out.cell rfl; have k2 : w1.cell? ⟨w.heap.size, 2, none⟩ = some (.int .i64 x) := BX.out.cell rfl; have k3 : w1.cell? ⟨w.heap.size, 3, none⟩ = some (.int .i64 y) := BX.out.cell rfl; clear hb1))
      go_ret
      exact ⟨rfl, HBW.out⟩
    by_cases q2 : (20 : Int) < n
    · clear hb
      go_enter Try.func26, Try.ntmps26
      go_wp2_with (first | (go_at_call 32; (with_reducible refine Calls.mono (HI.out _) ?_); rintro e1 w1 ⟨rfl, hb1⟩; replace HBW := Lib.hid (HBW.out.trans hb1); replace BX := Lib.hid (BX.out.bw hb1); have k0 : w1.cell? ⟨w.heap.size, 0, none⟩ = some (.slice ad n cap) := BX.out.cell rfl; have k1 : w1.cell? ⟨w.heap.size, 1, none⟩ = some (.int .i64 seen) := BX.out.cell rfl; have k2 : w1.cell? ⟨w.heap.size, 2, none⟩ = some (.int .i64 x) := BX.out.cell rfl; have k3 : w1.cell? ⟨w.heap.size, 3, none⟩ = some (.int .i64 y) := BX.out.cell rfl; clear hb1))
      go_ret
      exact ⟨rfl, HBW.out⟩
    by_cases q3 : seen < 0
    · clear hb
      go_enter Try.func26, Try.ntmps26
      go_wp2_with (first | (go_at_call 32; (with_reducible refine Calls.mono (HI.out _) ?_); rintro e1 w1 ⟨rfl, hb1⟩; replace HBW := Lib.hid (HBW.out.trans hb1); replace BX := Lib.hid (BX.out.bw hb1); have k0 : w1.cell? ⟨w.heap.size, 0, none⟩ = some (.slice ad n cap) := BX.out.cell rfl; have k1 : w1.cell? ⟨w.heap.size, 1, none⟩ = some (.int .i64 seen) := BX.out.cell rfl; have k2 : w1.cell? ⟨w.heap.size, 2, none⟩ = some (.int .i64 x) := BX.out.cell rfl; have k3 : w1.cell? ⟨w.heap.size, 3, none⟩ = some (.int .i64 y) := BX.out.cell rfl; clear hb1))
      go_ret
      exact ⟨rfl, HBW.out⟩
    by_cases q4 : 1000000 < seen
    · clear hb
      go_enter Try.func26, Try.ntmps26
      go_wp2_with (first | (go_at_call 32; (with_reducible refine Calls.mono (HI.out _) ?_); rintro e1 w1 ⟨rfl, hb1⟩; replace HBW := Lib.hid (HBW.out.trans hb1); replace BX := Lib.hid (BX.out.bw hb1); have k0 : w1.cell? ⟨w.heap.size, 0, none⟩ = some (.slice ad n cap) := BX.out.cell rfl; have k1 : w1.cell? ⟨w.heap.size, 1, none⟩ = some (.int .i64 seen) := BX.out.cell rfl; have k2 : w1.cell? ⟨w.heap.size, 2, none⟩ = some (.int .i64 x) := BX.out.cell rfl; have k3 : w1.cell? ⟨w.heap.size, 3, none⟩ = some (.int .i64 y) := BX.out.cell rfl; clear hb1))
      go_ret
      exact ⟨rfl, HBW.out⟩
    · have q5 : insP (x, y) = false := by
        rcases hb with h | h | h | h | h
        · omega
        · omega
        · omega
        · omega
        · exact h
      rw [q5] at HI
      clear hb q5
      go_enter Try.func26, Try.ntmps26
      go_wp2_with (first | (go_at_call 32; (with_reducible refine Calls.mono (HI.out _) ?_); rintro e1 w1 ⟨rfl, hb1⟩; replace HBW := Lib.hid (HBW.out.trans hb1); replace BX := Lib.hid (BX.out.bw hb1); have k0 : w1.cell? ⟨w.heap.size, 0, none⟩ = some (.slice ad n cap) := BX.out.cell rfl; have k1 : w1.cell? ⟨w.heap.size, 1, none⟩ = some (.int .i64 seen) := BX.out.cell rfl; have k2 : w1.cell? ⟨w.heap.size, 2, none⟩ = some (.int .i64 x) := BX.out.cell rfl; have k3 : w1.cell? ⟨w.heap.size, 3, none⟩ = some (.int .i64 y) := BX.out.cell rfl; clear hb1))
      go_ret
      exact ⟨rfl, HBW.out⟩
  · have hb2 : 1 ≤ ch.length ∧ ch.length ≤ 20 ∧ 0 ≤ seen ∧ seen ≤ 1000000 ∧ insP (x, y) = true := by
      refine ⟨by omega, by omega, by omega, by omega, by cases h : insP (x, y) with | true => rfl | false => exact absurd (.inr (.inr (.inr (.inr h)))) hb⟩
    have HE := Lib.hid (show errS ch seen (x, y) = if okLeft seen ch = false then 3 else if seen = 0 ∧ (x, y) ≠ ((0, 0) : Int × Int) then 3 else 0 by unfold errS; rw [if_neg hb])
    clear hb
    generalize errS ch seen (x, y) = EE at HE ⊢
    obtain ⟨b1, b2, b3, b4, b5⟩ := hb2
    rw [b5] at HI
    rw [← hn] at b1 b2 ⊢
    have c1 : ¬ (n : Int) < 1 := by omega
    have c2 : ¬ (20 : Int) < n := by omega
    clear hn b5
    go_enter Try.func26, Try.ntmps26
    go_wp2_with (first | (go_at_call 32; (with_reducible refine Calls.mono (HI.out _) ?_); rintro e1 w1 ⟨rfl, hb1⟩; replace HBW := Lib.hid (HBW.out.trans hb1); replace BX := Lib.hid (BX.out.bw hb1); have k0 : w1.cell? ⟨w.heap.size, 0, none⟩ = some (.slice ad n cap) := BX.out.cell rfl; have k1 : w1.cell? ⟨w.heap.size, 1, none⟩ = some (.int .i64 seen) := BX.out.cell rfl; have k2 : w1.cell? ⟨w.heap.size, 2, none⟩ = some (.int .i64 x) := BX.out.cell rfl; have k3 : w1.cell? ⟨w.heap.size, 3, none⟩ = some (.int .i64 y) := BX.out.cell rfl; clear hb1))
    go_loopg [37, 4] 20 (fun gg s37 s4 wr => ∃ k : Nat, k ≤ n ∧ n - k ≤ gg ∧ s37 = .int .i64 k ∧ ∃ left : Int, s4 = .int .i64 left ∧ Hid (okLeft seen ch = okLeft left (ch.drop k)) ∧ (0 ≤ left ∧ left ≤ seen) ∧ wr = w1)
    case atStart => exact ⟨0, Nat.zero_le _, by omega, rfl, seen, rfl, Lib.hid (by simp), ⟨b3, Int.le_refl _⟩, rfl⟩
    case round =>
      obtain ⟨k, hk, hgg, rfl, left, rfl, HO, ⟨l1, l2⟩, hwr⟩ := hrel
      replace hwr := hwr.symm
      subst hwr
      by_cases hlt : k < n
      · have hkz : (k : Int) < n := by omega
        obtain ⟨b, off, cc, hv1, hb1, hd1⟩ := HV.out.at (by have := HN.out; omega)
        injection hv1 with i1 i2 i3; subst i1; clear i2 i3
        have d := HBW.out.cell' (hd1 k (by have := HN.out; omega))
        clear hd1 hb1
        have HD := Lib.hid (show ch.drop k = ch.getD k 0 :: ch.drop (k + 1) by
          have hkl : k < ch.length := by have := HN.out; omega
          rw [List.getD_eq_getElem?_getD, List.getElem?_eq_getElem hkl]; exact List.drop_eq_getElem_cons hkl)
        generalize ch.getD k 0 = z at d HD
        by_cases z1 : z < 0
        · have HF := Lib.hid (show okLeft seen ch = false by rw [HO.out, HD.out]; unfold okLeft; rw [decide_eq_false (by omega)]; rfl)
          go_wp2
          go_ret
          exact ⟨ret_int (by rw [HE.out, if_pos HF.out]), HBW.out⟩
        by_cases z2 : left < z
        · have HF := Lib.hid (show okLeft seen ch = false by rw [HO.out, HD.out]; unfold okLeft; rw [decide_eq_false (by omega)]; rfl)
          go_wp2
          go_ret
          exact ⟨ret_int (by rw [HE.out, if_pos HF.out]), HBW.out⟩
        · have HF := Lib.hid (show okLeft seen ch = okLeft (left - z) (ch.drop (k + 1)) by rw [HO.out, HD.out, okLeft, decide_eq_true (by omega), Bool.true_and])
          go_wp2
          go_roundg (n - (k + 1))
          case measure => omega
          case rel => exact ⟨k + 1, by omega, by omega, by go_num, left - z, rfl, HF, ⟨by omega, by omega⟩, rfl⟩
      · have hkz : ¬ (k : Int) < n := by omega
        have HF := Lib.hid (show okLeft seen ch = true by rw [HO.out, List.drop_eq_nil_of_le (by have := HN.out; omega)]; rfl)
        clear HO
        by_cases s0 : seen = 0
        · subst s0
          by_cases x0 : x = 0
          · subst x0
            by_cases y0 : y = 0
            · subst y0
              have HG := Lib.hid (show (if okLeft 0 ch = false then (3 : Int) else if (0 : Int) = 0 ∧ ((0, 0) : Int × Int) ≠ (0, 0) then 3 else 0) = 0 by rw [HF.out, if_neg (by simp), if_neg (by intro e; exact e.2 rfl)])
              go_wp2
              go_ret
              exact ⟨ret_int (by rw [HE.out, HG.out]), HBW.out⟩
            · have HG := Lib.hid (show (if okLeft 0 ch = false then (3 : Int) else if (0 : Int) = 0 ∧ ((0, y) : Int × Int) ≠ (0, 0) then 3 else 0) = 3 by rw [HF.out, if_neg (by simp), if_pos ⟨rfl, by simpa using y0⟩])
              go_wp2
              go_ret
              exact ⟨ret_int (by rw [HE.out, HG.out]), HBW.out⟩
          · have HG := Lib.hid (show (if okLeft 0 ch = false then (3 : Int) else if (0 : Int) = 0 ∧ ((x, y) : Int × Int) ≠ (0, 0) then 3 else 0) = 3 by rw [HF.out, if_neg (by simp), if_pos ⟨rfl, by intro e; exact x0 (by injection e)⟩])
            go_wp2
            go_ret
            exact ⟨ret_int (by rw [HE.out, HG.out]), HBW.out⟩
        · have HG := Lib.hid (show (if okLeft seen ch = false then (3 : Int) else if seen = 0 ∧ ((x, y) : Int × Int) ≠ (0, 0) then 3 else 0) = 0 by rw [HF.out, if_neg (by simp), if_neg (by intro e; exact s0 e.1)])
          go_wp2
          go_ret
          exact ⟨ret_int (by rw [HE.out, HG.out]), HBW.out⟩
end Go.Proofs.Sky
