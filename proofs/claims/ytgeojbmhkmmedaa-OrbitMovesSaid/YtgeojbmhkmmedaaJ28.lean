/-
  lemmas for the theorems of this claim. No conditions beyond those written in the statements.
-/
import Derived.Test.YtgeojbmhkmmedaaP28
import Derived.Test.YtgeojbmhkmmedaaSUE
import Derived.Deep.Cut
import Derived.BigRegion
import Derived.Test.YtgeojbmhkmmedaaSUA
set_option linter.unusedVariables false
set_option linter.unusedSimpArgs false
set_option linter.unnecessarySimpa false
namespace Go.Proofs.Sky
open Go Go.RowKit Go.Shelf
set_option maxHeartbeats 4000000
set_option maxRecDepth 4000
theorem Wd.form {w : World} {base : Nat} {v : Value} {N : Int} (h : Wd w base v N) : ∃ a n c, v = .slice a n c := by
  obtain ⟨ds, h1, _⟩ := h
  obtain ⟨a, c, h2⟩ := h1.form
  exact ⟨a, _, c, h2⟩
theorem Wd.kx {g base : Nat} {w w' : World} {v : Value} {N : Int} (h : Wd w base v N) (hk : Kx g w w') (hg : g < base) : Wd w' base v N := by
  obtain ⟨ds, h1, h2, h3⟩ := h; exact ⟨ds, hk.rdI h1 h2 hg, h2, h3⟩
def SumAt (w : World) (g base : Nat) (U D : Int) : Prop := ∃ vu vd, Blk w g 62 #[vu, vd] ∧ Wd w base vu U ∧ Wd w base vd D
theorem SumAt.bw {w w' : World} {g base : Nat} {U D : Int} (h : SumAt w g base U D) (hb : Bw w w') : SumAt w' g base U D := by
  obtain ⟨vu, vd, h1, h2, h3⟩ := h; exact ⟨vu, vd, h1.bw hb, h2.mono hb, h3.mono hb⟩
theorem SumAt.kx {w w' : World} {g g' base : Nat} {U D : Int} (h : SumAt w g base U D) (hk : Kx g' w w') (hn : g ≠ g') (hb : g' < base) : SumAt w' g base U D := by
  obtain ⟨vu, vd, h1, h2, h3⟩ := h; exact ⟨vu, vd, hk.blk h1 hn, h2.kx hk hb, h3.kx hk hb⟩
theorem SumAt.lt {w : World} {g base : Nat} {U D : Int} (h : SumAt w g base U D) : g < w.heap.size := by obtain ⟨_, _, h1, _⟩ := h; exact h1.lt
def prodI (ls : List Int) : Int := ls.foldl (· * ·) 1
theorem prodI_snoc (ls : List Int) (x : Int) : prodI (ls ++ [x]) = prodI ls * x := by unfold prodI; rw [List.foldl_append]; rfl
theorem prod_take (ls : List Int) (i : Nat) (h : i < ls.length) : prodI (ls.take (i + 1)) = prodI (ls.take i) * ls.getD i 0 := by
  rw [List.take_add_one, List.getElem?_eq_getElem h, List.getD_eq_getElem?_getD, List.getElem?_eq_getElem h]
  exact prodI_snoc _ _
theorem mul_absbd {x y X Y : Int} (hx : -X ≤ x ∧ x ≤ X) (hy : -Y ≤ y ∧ y ≤ Y) : -(X * Y) ≤ x * y ∧ x * y ≤ X * Y := by
  have h1 : x.natAbs * y.natAbs ≤ X.natAbs * Y.natAbs := Nat.mul_le_mul (by omega) (by omega)
  have h2 : (x * y).natAbs = x.natAbs * y.natAbs := Int.natAbs_mul _ _
  have h3 : (X * Y).natAbs = X.natAbs * Y.natAbs := Int.natAbs_mul _ _
  have h4 : 0 ≤ X * Y := Int.mul_nonneg (by omega) (by omega)
  omega
theorem prod_bd (ls : List Int) (h : ∀ x ∈ ls, -4611686018427387904 ≤ x ∧ x ≤ 4611686018427387904) (hn : ls.length ≤ 6) : ∀ i, -(4611686018427387904 ^ i) ≤ prodI (ls.take i) ∧ prodI (ls.take i) ≤ 4611686018427387904 ^ i := by
  intro i
  induction i with
  | zero => simp [prodI]
  | succ i ih =>
    rcases Nat.lt_or_ge i ls.length with h1 | h1
    · rw [prod_take ls i h1, Int.pow_succ]
      exact mul_absbd ih (h _ (getD_mem ls i 0 h1))
    · rw [List.take_of_length_le (by omega)]
      rw [List.take_of_length_le h1] at ih
      have h2 : (4611686018427387904 : Int) ^ i ≤ 4611686018427387904 ^ (i + 1) := by
        rw [Int.pow_succ]
        have h3 : (0 : Int) ≤ 4611686018427387904 ^ i := Int.le_of_lt (Int.pow_pos (by decide))
        omega
      omega
theorem prod_bd6 (ls : List Int) (h : ∀ x ∈ ls, -4611686018427387904 ≤ x ∧ x ≤ 4611686018427387904) (hn : ls.length ≤ 6) (i : Nat) : -1000000000000000000000000000000000000000000000000000000000000000000000000000000000000000000000000000000000000000000000000 ≤ prodI (ls.take i) ∧ prodI (ls.take i) ≤ 1000000000000000000000000000000000000000000000000000000000000000000000000000000000000000000000000000000000000000000000000 := by
  have h1 : ∀ j, j ≤ 6 → -1000000000000000000000000000000000000000000000000000000000000000000000000000000000000000000000000000000000000000000000000 ≤ prodI (ls.take j) ∧ prodI (ls.take j) ≤ 1000000000000000000000000000000000000000000000000000000000000000000000000000000000000000000000000000000000000000000000000 := fun j hj => by
    have h2 := prod_bd ls h hn j
    have h3 : (4611686018427387904 : Int) ^ j ≤ 1000000000000000000000000000000000000000000000000000000000000000000000000000000000000000000000000000000000000000000000000 := by
      rcases (show j = 0 ∨ j = 1 ∨ j = 2 ∨ j = 3 ∨ j = 4 ∨ j = 5 ∨ j = 6 by omega) with rfl | rfl | rfl | rfl | rfl | rfl | rfl <;> decide
    omega
  rcases Nat.lt_or_ge i 7 with h2 | h2
  · exact h1 i (by omega)
  · have h3 := h1 6 (by omega)
    rw [List.take_of_length_le (by omega)] at h3 ⊢
    exact h3
def ProdP (g base : Nat) (U D P : Int) (w : World) (e : Ending) (w' : World) : Prop := e = .returned (.tuple #[]) ∧ Kx g w w' ∧ ∃ U' D', SumAt w' g base U' D' ∧ U' - D' = U - D + P ∧ U' + D' = U + D + P.natAbs
theorem Product_any (g base : Nat) (U D : Int) (vl : Value) (ls : List Int) (w : World) (hs : SumAt w g base U D) (hgb : g < base) (hbw : base ≤ w.heap.size) (hl : RdI w vl ls) (hn : ls.length ≤ 6) (hls : ∀ x ∈ ls, -4611686018427387904 ≤ x ∧ x ≤ 4611686018427387904) (hU : U ≤ 10000000000000000000000000000000000000000000000000000000000000000000000000000000000000000000000000000000000000000000000000000000000000000000000000000000000000000000000000000000000000000000000000000000000000000000000000000000000000000000000000000000000000000000000000000000000000000000000000000000000000000000000000000000000000000000000000000000000000000000000000000000000000000000000000000000000000000) (hD : D ≤ 10000000000000000000000000000000000000000000000000000000000000000000000000000000000000000000000000000000000000000000000000000000000000000000000000000000000000000000000000000000000000000000000000000000000000000000000000000000000000000000000000000000000000000000000000000000000000000000000000000000000000000000000000000000000000000000000000000000000000000000000000000000000000000000000000000000000000000) :
    Calls Try.prog 32 #[.pointer (some ⟨g, 0, none⟩), vl] w fun e w' => ProdP g base U D (prodI ls) w e w' := by
  have HPB := Lib.hid (prod_bd6 ls hls hn)
  have HLS := Lib.hid (fun i hi => hls _ (getD_mem ls i 0 hi))
  have HPT := Lib.hid (prod_take ls)
  have HTA := Lib.hid (show prodI (ls.take ls.length) = prodI ls by rw [List.take_length])
  have HV := Lib.hid hl
  obtain ⟨ad, cap, rfl⟩ := hl.form
  clear hl hls
  obtain ⟨vu, vd, hB, hu, hd⟩ := hs
  have BX := Lib.hid hB
  have HU := Lib.hid hu
  have HD := Lib.hid hd
  have hU0 := hu.pos
  have hD0 := hd.pos
  clear hB hu hd
  have HGB := Lib.hid hgb
  have HBW := Lib.hid hbw
  clear hgb hbw
  obtain ⟨n, hn9⟩ : ∃ n, n = ls.length := ⟨_, rfl⟩
  rw [← hn9] at HV HTA hn ⊢
  have HN := Lib.hid hn9
  clear hn9
  have W1 := Lib.hid (fun W => wideOf_any 1 W (by decide) (by decide))
  have WO := Lib.hid (fun n W h0 h1 => wideOf_any n W h0 h1)
  have WM := Lib.hid (fun va vb A B ba bb W ha hb h1 h2 => wideMul_any va vb A B ba bb W ha hb h1 h2)
  have WA := Lib.hid (fun va vb A B ba bb W ha hb h1 h2 => wideAdd_any va vb A B ba bb W ha hb h1 h2)
  unfold NumP31 at W1 WO WM WA
  go_enter Try.func32, Try.ntmps32
  go_wp2_with (go_at_call 48; (with_reducible refine Calls.mono (W1.out _) ?_); rintro e1 w1 ⟨⟨v1, rfl, hn1⟩, hb1⟩; have H1 := Lib.hid hn1; have HW1 := Lib.hid hb1; clear hn1 hb1)
  go_loopg [4, 5, 6] n (fun gg s4 s5 s6 wr => ∃ (i : Nat) (p : Int) (nb : Bool), i ≤ n ∧ n - i ≤ gg ∧ s6 = .int .i64 i ∧ s5 = .bool nb ∧ Hid (Wd wr w.heap.size s4 p) ∧ Hid ((if nb then -p else p) = prodI (ls.take i)) ∧ Hid (Bw w wr))
  case atStart => exact ⟨0, 1, false, by omega, by omega, rfl, rfl, H1, Lib.hid rfl, HW1⟩
  case round =>
    clear H1 HW1 W1
    obtain ⟨i, p, nb, hi, hgg, rfl, rfl, H1, HP, HW⟩ := hrel
    have hp0 := H1.out.pos
    have hpb := HPB.out i
    have hpp : p ≤ 1000000000000000000000000000000000000000000000000000000000000000000000000000000000000000000000000000000000000000000000000 := by
      have h9 := HP.out
      cases nb <;> simp at h9 <;> omega
    by_cases hil : i < n
    · have hiz : (i : Int) < n := by omega
      obtain ⟨b1, o1, cc, hv1, _, hd1⟩ := (HV.out.mono HW.out).at (by have := HN.out; omega)
      injection hv1 with i1 i2 i3; subst i1; clear i2 i3
      have d1 := hd1 i (by have := HN.out; omega)
      have hxb := HLS.out i (by have := HN.out; omega)
      have HP2 := Lib.hid (HPT.out i (by have := HN.out; omega))
      clear hd1
      generalize ls.getD i 0 = x at d1 hxb HP2
      by_cases hx : x < 0
      · have WOx := Lib.hid (fun W => WO.out (-x) W (by omega) (by omega))
        have HP3 := Lib.hid (show (if (!nb) then -(p * -x) else p * -x) = prodI (ls.take (i + 1)) by
          rw [HP2.out, ← HP.out]
          cases nb <;> simp [Int.neg_mul, Int.mul_neg])
        go_wp2_with (first | (go_at_call 48; (with_reducible refine Calls.mono (WOx.out _) ?_); rintro e2 w2 ⟨⟨v2, rfl, hn2⟩, hb2⟩; have H2 := Lib.hid (hn2.down HW.out.size); replace H1 := Lib.hid (H1.out.mono hb2); replace HW := Lib.hid (HW.out.trans hb2); clear hn2 hb2 d1) | (go_at_call 49; (with_reducible refine Calls.mono (WM.out _ _ p (-x) _ _ _ H1.out H2.out (Int.le_trans hpp (by decide)) (by omega)) ?_); rintro e3 w3 ⟨⟨v3, rfl, hn3⟩, hb3⟩; replace H1 := Lib.hid (hn3.down HW.out.size); replace HW := Lib.hid (HW.out.trans hb3); clear hn3 hb3 H2))
        go_roundg (n - (i + 1))
        case measure => omega
        case rel => exact ⟨i + 1, p * -x, !nb, by omega, by omega, by go_num, rfl, H1, HP3, HW⟩
      · have WOx := Lib.hid (fun W => WO.out x W (by omega) (by omega))
        have HP3 := Lib.hid (show (if nb then -(p * x) else p * x) = prodI (ls.take (i + 1)) by
          rw [HP2.out, ← HP.out]
          cases nb <;> simp [Int.neg_mul, Int.mul_neg])
        go_wp2_with (first | (go_at_call 48; (with_reducible refine Calls.mono (WOx.out _) ?_); rintro e2 w2 ⟨⟨v2, rfl, hn2⟩, hb2⟩; have H2 := Lib.hid (hn2.down HW.out.size); replace H1 := Lib.hid (H1.out.mono hb2); replace HW := Lib.hid (HW.out.trans hb2); clear hn2 hb2 d1) | (go_at_call 49; (with_reducible refine Calls.mono (WM.out _ _ p x _ _ _ H1.out H2.out (Int.le_trans hpp (by decide)) (by omega)) ?_); rintro e3 w3 ⟨⟨v3, rfl, hn3⟩, hb3⟩; replace H1 := Lib.hid (hn3.down HW.out.size); replace HW := Lib.hid (HW.out.trans hb3); clear hn3 hb3 H2))
        go_roundg (n - (i + 1))
        case measure => omega
        case rel => exact ⟨i + 1, p * x, nb, by omega, by omega, by go_num, rfl, H1, HP3, HW⟩
    · obtain rfl : i = n := by omega
      have hiz : ¬ (i : Int) < i := by omega
      replace BX := Lib.hid (BX.out.bw HW.out)
      have c0 := BX.out.cell (j := 0) (v := vu) rfl
      have c1 := BX.out.cell (j := 1) (v := vd) rfl
      have f0 := BX.out.frozen 0
      have f1 := BX.out.frozen 1
      have HQ := Lib.hid (HP.out.trans HTA.out)
      clear HP
      cases nb with
      | false =>
        go_wp2_with ((go_at_call 50; (with_reducible refine Calls.mono (WA.out _ _ U p _ _ _ (HU.out.mono HW.out) H1.out (Int.le_trans hU (by decide)) (Int.le_trans hpp (by decide))) ?_); rintro e2 w2 ⟨⟨v2, rfl, hn2⟩, hb2⟩; obtain ⟨a2, n2, c2, rfl⟩ := hn2.form; have H2 := Lib.hid (hn2.down (Nat.le_trans HBW.out HW.out.size)); replace HW := Lib.hid (HW.out.trans hb2); replace BX := Lib.hid (BX.out.bw hb2); clear hn2 hb2; clear c0 c1 f0 f1; have c0 := BX.out.cell (j := 0) (v := vu) rfl; have c1 := BX.out.cell (j := 1) (v := vd) rfl; have f0 := BX.out.frozen 0; have f1 := BX.out.frozen 1))
        have hk : Kx g w2 (w2.setCell ⟨g, 0, none⟩ (.slice a2 n2 c2)) := Kx.set BX.out.lt _
        refine bodyPost_ret (v := .tuple #[]) (results_none rfl _ _ _) rfl ⟨rfl, (Kx.of_bw HW.out (by have := HGB.out; have := HBW.out; omega)).trans hk, U + p, D, ⟨_, vd, BX.out.set 0 _, H2.out.kx hk HGB.out, (HD.out.mono HW.out).kx hk HGB.out⟩, ?_, ?_⟩
        · have h9 := HQ.out; simp at h9; omega
        · have h9 := HQ.out; simp at h9; omega
      | true =>
        go_wp2_with ((go_at_call 50; (with_reducible refine Calls.mono (WA.out _ _ D p _ _ _ (HD.out.mono HW.out) H1.out (Int.le_trans hD (by decide)) (Int.le_trans hpp (by decide))) ?_); rintro e2 w2 ⟨⟨v2, rfl, hn2⟩, hb2⟩; obtain ⟨a2, n2, c2, rfl⟩ := hn2.form; have H2 := Lib.hid (hn2.down (Nat.le_trans HBW.out HW.out.size)); replace HW := Lib.hid (HW.out.trans hb2); replace BX := Lib.hid (BX.out.bw hb2); clear hn2 hb2; clear c0 c1 f0 f1; have c0 := BX.out.cell (j := 0) (v := vu) rfl; have c1 := BX.out.cell (j := 1) (v := vd) rfl; have f0 := BX.out.frozen 0; have f1 := BX.out.frozen 1))
        have hk : Kx g w2 (w2.setCell ⟨g, 1, none⟩ (.slice a2 n2 c2)) := Kx.set BX.out.lt _
        refine bodyPost_ret (v := .tuple #[]) (results_none rfl _ _ _) rfl ⟨rfl, (Kx.of_bw HW.out (by have := HGB.out; have := HBW.out; omega)).trans hk, U, D + p, ⟨vu, _, BX.out.set 1 _, (HU.out.mono HW.out).kx hk HGB.out, H2.out.kx hk HGB.out⟩, ?_, ?_⟩
        · have h9 := HQ.out; simp at h9; omega
        · have h9 := HQ.out; simp at h9; omega
end Go.Proofs.Sky

namespace Go.Proofs.Sky
open Go Go.RowKit Go.Shelf
set_option maxHeartbeats 4000000
set_option maxRecDepth 4000
def rndQ (S P : Int) : Int := if S < 0 then -((2 * -S + P) / 2 / P) else (2 * S + P) / 2 / P
theorem prod_pos (ls : List Int) (h : ∀ x ∈ ls, 1 ≤ x) : ∀ i, 1 ≤ prodI (ls.take i) := by
  intro i
  induction i with
  | zero => simp [prodI]
  | succ i ih =>
    rcases Nat.lt_or_ge i ls.length with h1 | h1
    · rw [prod_take ls i h1]
      have h2 := h _ (getD_mem ls i 0 h1)
      have h3 : 1 * 1 ≤ prodI (ls.take i) * ls.getD i 0 := Int.mul_le_mul ih h2 (by omega) (by omega)
      omega
    · rw [List.take_of_length_le (by omega)]
      rw [List.take_of_length_le h1] at ih
      exact ih
theorem Rounded_main (g base : Nat) (U D N : Int) (nb : Bool) (vl : Value) (ls : List Int) (w : World) (hs : SumAt w g base U D) (hl : RdI w vl ls) (hn : ls.length ≤ 6) (hls : ∀ x ∈ ls, 1 ≤ x ∧ x < 1073741824) (hU : U ≤ 10000000000000000000000000000000000000000000000000000000000000000000000000000000000000000000000000000000000000000000000000000000000000000000000000000000000000000000000000000000000000000000000000000000000000000000000000000000000000000000000000000000000000000000000000000000000000000000000000000000000000000000000000000000000000000000000000000000000000000000000000000000000000000000000000000000000000000) (hD : D ≤ 10000000000000000000000000000000000000000000000000000000000000000000000000000000000000000000000000000000000000000000000000000000000000000000000000000000000000000000000000000000000000000000000000000000000000000000000000000000000000000000000000000000000000000000000000000000000000000000000000000000000000000000000000000000000000000000000000000000000000000000000000000000000000000000000000000000000000000)
    (hnb : nb = decide (U < D)) (hN : N = if nb then D - U else U - D) (hr : (2 * N + prodI ls) / 2 / prodI ls < 4611686018427387904) :
    Calls Try.prog 33 #[.pointer (some ⟨g, 0, none⟩), vl] w fun e w' => e = .returned (.int .i64 (if nb then -((2 * N + prodI ls) / 2 / prodI ls) else (2 * N + prodI ls) / 2 / prodI ls)) ∧ Bw w w' := by
  have HPB := Lib.hid (prod_bd6 ls (fun x hx => by have := hls x hx; omega) hn)
  have HPP := Lib.hid (prod_pos ls (fun x hx => (hls x hx).1))
  have HLS := Lib.hid (fun i hi => hls _ (getD_mem ls i 0 hi))
  have HPT := Lib.hid (prod_take ls)
  have hta : prodI (ls.take ls.length) = prodI ls := by rw [List.take_length]
  have HV := Lib.hid hl
  obtain ⟨ad, cap, rfl⟩ := hl.form
  clear hl hls
  obtain ⟨vu, vd, hB, hu, hd⟩ := hs
  have BX := Lib.hid hB
  have HU := Lib.hid hu
  have HD := Lib.hid hd
  have hU0 := hu.pos
  have hD0 := hd.pos
  clear hB hu hd
  obtain ⟨n, hn9⟩ : ∃ n, n = ls.length := ⟨_, rfl⟩
  rw [← hn9] at HV hta hn ⊢
  have HN := Lib.hid hn9
  clear hn9
  obtain ⟨P, hP⟩ : ∃ P, P = prodI ls := ⟨_, rfl⟩
  have hP1 := HPP.out n
  have hP2 := HPB.out n
  rw [hta] at hP1 hP2
  rw [← hP] at hta hr hP1 hP2 ⊢
  have HTA := Lib.hid hta
  have hN0 : 0 ≤ N ∧ N ≤ 10000000000000000000000000000000000000000000000000000000000000000000000000000000000000000000000000000000000000000000000000000000000000000000000000000000000000000000000000000000000000000000000000000000000000000000000000000000000000000000000000000000000000000000000000000000000000000000000000000000000000000000000000000000000000000000000000000000000000000000000000000000000000000000000000000000000000000 := by
    rw [hN, hnb]
    by_cases h : U < D
    · rw [decide_eq_true h]; simp; omega
    · rw [decide_eq_false h]; simp; omega
  obtain ⟨R, hR⟩ : ∃ R, R = (2 * N + P) / 2 / P := ⟨_, rfl⟩
  rw [← hR] at hr ⊢
  have HRR := Lib.hid hR
  clear hta hP hR
  have W1 := Lib.hid (fun W => wideOf_any 1 W (by decide) (by decide))
  have WO := Lib.hid (fun n W h0 h1 => wideOf_any n W h0 h1)
  have WM := Lib.hid (fun va vb A B ba bb W ha hb h1 h2 => wideMul_any va vb A B ba bb W ha hb h1 h2)
  have WA := Lib.hid (fun va vb A B ba bb W ha hb h1 h2 => wideAdd_any va vb A B ba bb W ha hb h1 h2)
  have WS := Lib.hid (fun va vb A B ba bb W ha hb h1 h2 h3 => wideSub_any va vb A B ba bb W ha hb h1 h2 h3)
  have WD := Lib.hid (fun va A d ba W ha h1 h2 h3 => wideDiv_any va A d ba W ha h1 h2 h3)
  have WL := Lib.hid (fun W h1 h2 => wideLess_any vu vd U D base base W h1 h2 (Int.le_trans hU (by decide)) (Int.le_trans hD (by decide)))
  have WI := Lib.hid (fun va A ba W ha h1 => wideInt_any va A ba W ha h1)
  rw [← hnb] at WL
  unfold NumP31 at W1 WO WM WA WS WD
  have HNB := Lib.hid hnb
  have HNN := Lib.hid hN
  clear hnb hN
  have hcut : n = n := rfl
  clear hcut
  have c0 := BX.out.cell (j := 0) (v := vu) rfl
  have c1 := BX.out.cell (j := 1) (v := vd) rfl
  have dd0 := (Bw.drew (Bw.refl w)).cell' c0
  have dd1 := (Bw.drew (Bw.refl w)).cell' c1
  have HW := Lib.hid (Bw.drew (Bw.refl w))
  replace HU := Lib.hid (HU.out.mono HW.out)
  replace HD := Lib.hid (HD.out.mono HW.out)
  have HWF := Lib.hid (show ∀ X, Bw w X → ∀ i, i < n → ∃ b o, ad = some ⟨b, o, none⟩ ∧ X.cell? ⟨b, o + i, none⟩ = some (.int .i64 (ls.getD i 0)) from fun X hX i hi => by
    obtain ⟨b1, o1, cc, hv1, _, hd1⟩ := (HV.out.mono hX).at (by have := HN.out; omega)
    injection hv1 with i1 i2 i3
    exact ⟨b1, o1, i1, hd1 i (by have := HN.out; omega)⟩)
  cases nb with
  | false =>
    simp only [Bool.false_eq_true, if_false] at HNN ⊢
    have HLE := Lib.hid (show D ≤ U by have := of_decide_eq_false HNB.out.symm; omega)
    go_wp2
    go_region
    go_wp2_with (first | (go_at_call 51; (with_reducible refine Calls.mono (WL.out _ HU.out HD.out) ?_); rintro e_l w_l ⟨rfl, hb9⟩; replace HU := Lib.hid (HU.out.mono hb9); replace HD := Lib.hid (HD.out.mono hb9); replace HW := Lib.hid (HW.out.trans hb9); clear hb9) | (go_at_call 52; (with_reducible refine Calls.mono (WS.out _ _ U D _ _ _ HU.out HD.out (Int.le_trans hU (by decide)) (Int.le_trans hD (by decide)) HLE.out) ?_); rintro e_vn w_vn ⟨⟨vn, rfl, hn9⟩, hb9⟩; have H1 := Lib.hid (hn9.down HW.out.size); replace HW := Lib.hid (HW.out.trans hb9); clear hn9 hb9) | (go_at_call 48; (with_reducible refine Calls.mono (W1.out _) ?_); rintro e_vo w_vo ⟨⟨vo, rfl, hn9⟩, hb9⟩; have H2 := Lib.hid (hn9.down HW.out.size); replace H1 := Lib.hid (H1.out.mono hb9); replace HW := Lib.hid (HW.out.trans hb9); clear hn9 hb9))
    replace H1 := Lib.hid (show Wd _ w.heap.size vn N by rw [HNN.out]; exact H1.out)
    clear c0 c1 dd0 dd1 HU HD BX WL WS W1
    go_loopg [9, 10] n (fun gg s9 s10 wr => ∃ i : Nat, i ≤ n ∧ n - i ≤ gg ∧ s10 = .int .i64 i ∧ Hid (Wd wr w.heap.size s9 (prodI (ls.take i))) ∧ Hid (Wd wr w.heap.size vn N) ∧ Hid (Bw w wr))
    case atStart => exact ⟨0, by omega, by omega, rfl, H2, H1, HW⟩
    case round =>
      clear H1 H2 HW
      obtain ⟨i, hi, hgg, rfl, H2, H1, HW⟩ := hrel
      have hpb := HPB.out i
      by_cases hil : i < n
      · have hiz : (i : Int) < n := by omega
        obtain ⟨b1, o1, rfl, d1⟩ := HWF.out _ HW.out i hil
        have hxb := HLS.out i (by have := HN.out; omega)
        have HP2 := Lib.hid (HPT.out i (by have := HN.out; omega))
        generalize ls.getD i 0 = x at d1 hxb HP2
        have WOx := Lib.hid (fun W => WO.out x W (by omega) (by omega))
        generalize prodI (ls.take i) = p at *
        go_wp2_with (first | (go_at_call 48; (with_reducible refine Calls.mono (WOx.out _) ?_); rintro e_vx w_vx ⟨⟨vx, rfl, hn9⟩, hb9⟩; have H3 := Lib.hid (hn9.down HW.out.size); replace H1 := Lib.hid (H1.out.mono hb9); replace H2 := Lib.hid (H2.out.mono hb9); replace HW := Lib.hid (HW.out.trans hb9); clear hn9 hb9; clear d1) | (go_at_call 49; (with_reducible refine Calls.mono (WM.out _ _ p x _ _ _ H2.out H3.out (Int.le_trans hpb.2 (by decide)) (by omega)) ?_); rintro e_vy w_vy ⟨⟨vy, rfl, hn9⟩, hb9⟩; have H4 := Lib.hid (hn9.down HW.out.size); replace H1 := Lib.hid (H1.out.mono hb9); replace HW := Lib.hid (HW.out.trans hb9); clear hn9 hb9))
        go_roundg (n - (i + 1))
        case measure => omega
        case rel => exact ⟨i + 1, by omega, by omega, by go_num, Lib.hid (by rw [HP2.out]; exact H4.out), H1, HW⟩
      · obtain rfl : i = n := by omega
        have hiz : ¬ (i : Int) < i := by omega
        replace H2 := Lib.hid (HTA.out ▸ H2.out)
        go_wp2_with (first | (go_at_call 50; (with_reducible refine Calls.mono (WA.out _ _ N N _ _ _ H1.out H1.out (Int.le_trans hN0.2 (by decide)) (Int.le_trans hN0.2 (by decide))) ?_); rintro e_va w_va ⟨⟨va, rfl, hn9⟩, hb9⟩; have H3 := Lib.hid (hn9.down HW.out.size); replace H2 := Lib.hid (H2.out.mono hb9); replace HW := Lib.hid (HW.out.trans hb9); clear hn9 hb9) | (go_at_call 50; (with_reducible refine Calls.mono (WA.out _ _ (N + N) P _ _ _ H3.out H2.out (by omega) (Int.le_trans hP2.2 (by decide))) ?_); rintro e_vb w_vb ⟨⟨vb, rfl, hn9⟩, hb9⟩; have H4 := Lib.hid (hn9.down HW.out.size); replace HW := Lib.hid (HW.out.trans hb9); clear hn9 hb9) | (go_at_call 53; (with_reducible refine Calls.mono (WD.out _ (N + N + P) 2 _ _ H4.out (by omega) (by decide) (by decide)) ?_); rintro e_vc w_vc ⟨⟨vc, rfl, hn9⟩, hb9⟩; have H5 := Lib.hid (hn9.down HW.out.size); replace HW := Lib.hid (HW.out.trans hb9); clear hn9 hb9))
        replace H5 := Lib.hid (show Wd _ w.heap.size vc ((2 * N + P) / 2) by rw [show 2 * N + P = N + N + P by omega]; exact H5.out)
        clear H1 H2 H3 H4
        go_loopg [8, 11] i (fun gg s8 s11 wr => ∃ k : Nat, k ≤ i ∧ i - k ≤ gg ∧ s11 = .int .i64 k ∧ Hid (Wd wr w.heap.size s8 ((2 * N + P) / 2 / prodI (ls.take k))) ∧ Hid (Bw w wr))
        case atStart => exact ⟨0, by omega, by omega, rfl, Lib.hid (by rw [show prodI (ls.take 0) = 1 from rfl, Int.ediv_one]; exact H5.out), HW⟩
        case round =>
          clear H5 HW
          obtain ⟨k, hk, hgg, rfl, H5, HW⟩ := hrel
          have hpp := HPP.out k
          have hqb : (2 * N + P) / 2 / prodI (ls.take k) ≤ (2 * N + P) / 2 := by
            have h9 := Int.ediv_le_self (prodI (ls.take k)) (show 0 ≤ (2 * N + P) / 2 by omega)
            exact h9
          by_cases hkl : k < i
          · have hkz : (k : Int) < i := by omega
            obtain ⟨b1, o1, rfl, d1⟩ := HWF.out _ HW.out k hkl
            have hxb := HLS.out k (by have := HN.out; omega)
            have HP2 := Lib.hid (show (2 * N + P) / 2 / prodI (ls.take (k + 1)) = (2 * N + P) / 2 / prodI (ls.take k) / ls.getD k 0 by
              rw [HPT.out k (by have := HN.out; omega)]; first | exact (Int.ediv_ediv_of_nonneg (by omega)).symm | exact (Int.ediv_ediv_eq_ediv_mul _ (by omega)).symm)
            generalize ls.getD k 0 = x at d1 hxb HP2
            generalize (2 * N + P) / 2 / prodI (ls.take k) = q at *
            go_wp2_with (go_at_call 53; (with_reducible refine Calls.mono (WD.out _ q x _ _ H5.out (by omega) (by omega) (by omega)) ?_); rintro e_vc2 w_vc2 ⟨⟨vc2, rfl, hn9⟩, hb9⟩; have H6 := Lib.hid (hn9.down HW.out.size); replace HW := Lib.hid (HW.out.trans hb9); clear hn9 hb9; clear d1)
            go_roundg (i - (k + 1))
            case measure => omega
            case rel => exact ⟨k + 1, by omega, by omega, by go_num, Lib.hid (by rw [HP2.out]; exact H6.out), HW⟩
          · obtain rfl : k = i := by omega
            have hkz : ¬ (k : Int) < k := by omega
            replace H5 := Lib.hid (show Wd _ w.heap.size _ R by have h9 := H5.out; rw [HTA.out] at h9; rw [HRR.out]; exact h9)
            have hR0 := H5.out.pos
            go_wp2_with (go_at_call 54; (with_reducible refine Calls.mono (WI.out _ R _ _ H5.out hr) ?_); rintro e_i w_i ⟨rfl, hb9⟩; replace HW := Lib.hid (HW.out.trans hb9); clear hb9)
            go_ret
            exact ⟨rfl, HW.out⟩
  | true =>
    simp only [if_true] at HNN ⊢
    have HLE := Lib.hid (show U ≤ D by have := of_decide_eq_true HNB.out.symm; omega)
    go_wp2
    go_region
    go_wp2_with (first | (go_at_call 51; (with_reducible refine Calls.mono (WL.out _ HU.out HD.out) ?_); rintro e_l w_l ⟨rfl, hb9⟩; replace HU := Lib.hid (HU.out.mono hb9); replace HD := Lib.hid (HD.out.mono hb9); replace HW := Lib.hid (HW.out.trans hb9); clear hb9) | (go_at_call 52; (with_reducible refine Calls.mono (WS.out _ _ D U _ _ _ HD.out HU.out (Int.le_trans hD (by decide)) (Int.le_trans hU (by decide)) HLE.out) ?_); rintro e_vn w_vn ⟨⟨vn, rfl, hn9⟩, hb9⟩; have H1 := Lib.hid (hn9.down HW.out.size); replace HW := Lib.hid (HW.out.trans hb9); clear hn9 hb9) | (go_at_call 48; (with_reducible refine Calls.mono (W1.out _) ?_); rintro e_vo w_vo ⟨⟨vo, rfl, hn9⟩, hb9⟩; have H2 := Lib.hid (hn9.down HW.out.size); replace H1 := Lib.hid (H1.out.mono hb9); replace HW := Lib.hid (HW.out.trans hb9); clear hn9 hb9))
    replace H1 := Lib.hid (show Wd _ w.heap.size vn N by rw [HNN.out]; exact H1.out)
    clear c0 c1 dd0 dd1 HU HD BX WL WS W1
    go_loopg [9, 10] n (fun gg s9 s10 wr => ∃ i : Nat, i ≤ n ∧ n - i ≤ gg ∧ s10 = .int .i64 i ∧ Hid (Wd wr w.heap.size s9 (prodI (ls.take i))) ∧ Hid (Wd wr w.heap.size vn N) ∧ Hid (Bw w wr))
    case atStart => exact ⟨0, by omega, by omega, rfl, H2, H1, HW⟩
    case round =>
      clear H1 H2 HW
      obtain ⟨i, hi, hgg, rfl, H2, H1, HW⟩ := hrel
      have hpb := HPB.out i
      by_cases hil : i < n
      · have hiz : (i : Int) < n := by omega
        obtain ⟨b1, o1, rfl, d1⟩ := HWF.out _ HW.out i hil
        have hxb := HLS.out i (by have := HN.out; omega)
        have HP2 := Lib.hid (HPT.out i (by have := HN.out; omega))
        generalize ls.getD i 0 = x at d1 hxb HP2
        have WOx := Lib.hid (fun W => WO.out x W (by omega) (by omega))
        generalize prodI (ls.take i) = p at *
        go_wp2_with (first | (go_at_call 48; (with_reducible refine Calls.mono (WOx.out _) ?_); rintro e_vx w_vx ⟨⟨vx, rfl, hn9⟩, hb9⟩; have H3 := Lib.hid (hn9.down HW.out.size); replace H1 := Lib.hid (H1.out.mono hb9); replace H2 := Lib.hid (H2.out.mono hb9); replace HW := Lib.hid (HW.out.trans hb9); clear hn9 hb9; clear d1) | (go_at_call 49; (with_reducible refine Calls.mono (WM.out _ _ p x _ _ _ H2.out H3.out (Int.le_trans hpb.2 (by decide)) (by omega)) ?_); rintro e_vy w_vy ⟨⟨vy, rfl, hn9⟩, hb9⟩; have H4 := Lib.hid (hn9.down HW.out.size); replace H1 := Lib.hid (H1.out.mono hb9); replace HW := Lib.hid (HW.out.trans hb9); clear hn9 hb9))
        go_roundg (n - (i + 1))
        case measure => omega
        case rel => exact ⟨i + 1, by omega, by omega, by go_num, Lib.hid (by rw [HP2.out]; exact H4.out), H1, HW⟩
      · obtain rfl : i = n := by omega
        have hiz : ¬ (i : Int) < i := by omega
        replace H2 := Lib.hid (HTA.out ▸ H2.out)
        go_wp2_with (first | (go_at_call 50; (with_reducible refine Calls.mono (WA.out _ _ N N _ _ _ H1.out H1.out (Int.le_trans hN0.2 (by decide)) (Int.le_trans hN0.2 (by decide))) ?_); rintro e_va w_va ⟨⟨va, rfl, hn9⟩, hb9⟩; have H3 := Lib.hid (hn9.down HW.out.size); replace H2 := Lib.hid (H2.out.mono hb9); replace HW := Lib.hid (HW.out.trans hb9); clear hn9 hb9) | (go_at_call 50; (with_reducible refine Calls.mono (WA.out _ _ (N + N) P _ _ _ H3.out H2.out (by omega) (Int.le_trans hP2.2 (by decide))) ?_); rintro e_vb w_vb ⟨⟨vb, rfl, hn9⟩, hb9⟩; have H4 := Lib.hid (hn9.down HW.out.size); replace HW := Lib.hid (HW.out.trans hb9); clear hn9 hb9) | (go_at_call 53; (with_reducible refine Calls.mono (WD.out _ (N + N + P) 2 _ _ H4.out (by omega) (by decide) (by decide)) ?_); rintro e_vc w_vc ⟨⟨vc, rfl, hn9⟩, hb9⟩; have H5 := Lib.hid (hn9.down HW.out.size); replace HW := Lib.hid (HW.out.trans hb9); clear hn9 hb9))
        replace H5 := Lib.hid (show Wd _ w.heap.size vc ((2 * N + P) / 2) by rw [show 2 * N + P = N + N + P by omega]; exact H5.out)
        clear H1 H2 H3 H4
        go_loopg [8, 11] i (fun gg s8 s11 wr => ∃ k : Nat, k ≤ i ∧ i - k ≤ gg ∧ s11 = .int .i64 k ∧ Hid (Wd wr w.heap.size s8 ((2 * N + P) / 2 / prodI (ls.take k))) ∧ Hid (Bw w wr))
        case atStart => exact ⟨0, by omega, by omega, rfl, Lib.hid (by rw [show prodI (ls.take 0) = 1 from rfl, Int.ediv_one]; exact H5.out), HW⟩
        case round =>
          clear H5 HW
          obtain ⟨k, hk, hgg, rfl, H5, HW⟩ := hrel
          have hpp := HPP.out k
          have hqb : (2 * N + P) / 2 / prodI (ls.take k) ≤ (2 * N + P) / 2 := by
            have h9 := Int.ediv_le_self (prodI (ls.take k)) (show 0 ≤ (2 * N + P) / 2 by omega)
            exact h9
          by_cases hkl : k < i
          · have hkz : (k : Int) < i := by omega
            obtain ⟨b1, o1, rfl, d1⟩ := HWF.out _ HW.out k hkl
            have hxb := HLS.out k (by have := HN.out; omega)
            have HP2 := Lib.hid (show (2 * N + P) / 2 / prodI (ls.take (k + 1)) = (2 * N + P) / 2 / prodI (ls.take k) / ls.getD k 0 by
              rw [HPT.out k (by have := HN.out; omega)]; first | exact (Int.ediv_ediv_of_nonneg (by omega)).symm | exact (Int.ediv_ediv_eq_ediv_mul _ (by omega)).symm)
            generalize ls.getD k 0 = x at d1 hxb HP2
            generalize (2 * N + P) / 2 / prodI (ls.take k) = q at *
            go_wp2_with (go_at_call 53; (with_reducible refine Calls.mono (WD.out _ q x _ _ H5.out (by omega) (by omega) (by omega)) ?_); rintro e_vc2 w_vc2 ⟨⟨vc2, rfl, hn9⟩, hb9⟩; have H6 := Lib.hid (hn9.down HW.out.size); replace HW := Lib.hid (HW.out.trans hb9); clear hn9 hb9; clear d1)
            go_roundg (i - (k + 1))
            case measure => omega
            case rel => exact ⟨k + 1, by omega, by omega, by go_num, Lib.hid (by rw [HP2.out]; exact H6.out), HW⟩
          · obtain rfl : k = i := by omega
            have hkz : ¬ (k : Int) < k := by omega
            replace H5 := Lib.hid (show Wd _ w.heap.size _ R by have h9 := H5.out; rw [HTA.out] at h9; rw [HRR.out]; exact h9)
            have hR0 := H5.out.pos
            go_wp2_with (go_at_call 54; (with_reducible refine Calls.mono (WI.out _ R _ _ H5.out hr) ?_); rintro e_i w_i ⟨rfl, hb9⟩; replace HW := Lib.hid (HW.out.trans hb9); clear hb9)
            go_ret
            exact ⟨rfl, HW.out⟩
theorem Rounded_any (g base : Nat) (U D : Int) (vl : Value) (ls : List Int) (w : World) (hs : SumAt w g base U D) (hl : RdI w vl ls) (hn : ls.length ≤ 6) (hls : ∀ x ∈ ls, 1 ≤ x ∧ x < 1073741824) (hU : U ≤ 10000000000000000000000000000000000000000000000000000000000000000000000000000000000000000000000000000000000000000000000000000000000000000000000000000000000000000000000000000000000000000000000000000000000000000000000000000000000000000000000000000000000000000000000000000000000000000000000000000000000000000000000000000000000000000000000000000000000000000000000000000000000000000000000000000000000000000) (hD : D ≤ 10000000000000000000000000000000000000000000000000000000000000000000000000000000000000000000000000000000000000000000000000000000000000000000000000000000000000000000000000000000000000000000000000000000000000000000000000000000000000000000000000000000000000000000000000000000000000000000000000000000000000000000000000000000000000000000000000000000000000000000000000000000000000000000000000000000000000000) (S P : Int) (hS : S = U - D) (hP : P = prodI ls) (hr : (2 * (S.natAbs : Int) + P) / 2 / P < 4611686018427387904) :
    Calls Try.prog 33 #[.pointer (some ⟨g, 0, none⟩), vl] w fun e w' => e = .returned (.int .i64 (rndQ S P)) ∧ Bw w w' := by
  subst hP
  have h := Rounded_main g base U D (S.natAbs : Int) (decide (U < D)) vl ls w hs hl hn hls hU hD rfl (by
    by_cases h : U < D
    · rw [decide_eq_true h]; simp; omega
    · rw [decide_eq_false h]; simp; omega) hr
  unfold rndQ
  by_cases h1 : U < D
  · rw [decide_eq_true h1] at h
    rw [if_pos (by omega)]
    have e : -S = (S.natAbs : Int) := by omega
    rw [e]; simpa using h
  · rw [decide_eq_false h1] at h
    rw [if_neg (by omega)]
    have e : S = (S.natAbs : Int) := by omega
    rw [e]; simpa using h
end Go.Proofs.Sky

namespace Go.Proofs.Sky
open Go Go.RowKit Go.Shelf
set_option maxHeartbeats 2000000
set_option maxRecDepth 8000
/-! chapter 28, plain: what the wide numbers amount to -/
theorem over_q (x : Wn) (V : Nat) (hV : 0 < V) : overR x.1 x.2 V = rndQ (zW x) V := by
  obtain ⟨s, N⟩ := x
  have h1 : (N + N + V) / (V + V) = (2 * N + V) / 2 / V := by rw [Nat.div_div_eq_div_mul]; congr 1 <;> omega
  have h2 : ((2 * (N : Int) + V) / 2 / V) = (((2 * N + V) / 2 / V : Nat) : Int) := by push_cast; rfl
  unfold overR rndQ zW
  dsimp only
  cases s with
  | false =>
    simp only [if_neg (show ¬ (false = true) by decide), Bool.false_eq_true, if_false]
    rw [if_neg (by omega), h1, h2]
  | true =>
    simp only [if_true]
    by_cases h0 : N = 0
    · subst h0
      rw [h1]
      have h3 : (2 * 0 + V) / 2 / V = 0 := Nat.div_eq_of_lt (by omega)
      rw [h3] at h2 ⊢
      rw [if_neg (by simp)]
      simp at h2 ⊢
      exact h2.symm
    · rw [if_pos (by omega), h1, Int.neg_neg, h2]
theorem mag_step {x y : Wn} {d : Int} {A B D : Nat} (hx : x.2 ≤ A) (hy : y.2 ≤ B) (hd : d.natAbs ≤ D) : (timesW x d).2 ≤ A * D ∧ (plusW (timesW x d) y).2 ≤ A * D + B := by
  have h1 : (timesW x d).2 ≤ A * D := Nat.mul_le_mul hx hd
  exact ⟨h1, Nat.le_trans (plusW_le _ _) (Nat.add_le_add h1 hy)⟩
theorem secW_mag {x : Wn} {A : Nat} (h : x.2 ≤ A) : ∀ j, (secW j x).2 ≤ A * 1000000000 ^ j
  | 0 => by rw [Nat.pow_zero, Nat.mul_one]; exact h
  | j + 1 => by
    show (secW j x).2 * 1000000000 ≤ _
    rw [Nat.pow_succ, ← Nat.mul_assoc]
    exact Nat.mul_le_mul (secW_mag h j) (Nat.le_refl _)
theorem secW_z (x : Wn) : ∀ j, zW (secW j x) = zW x * 1000000000 ^ j
  | 0 => by rw [Int.pow_zero, Int.mul_one]; rfl
  | j + 1 => by
    show zW (timesW (secW j x) 1000000000) = _
    rw [zW_times, secW_z x j, Int.pow_succ, Int.mul_assoc]
theorem lW_mag {cs shs : List Int} {n i : Nat} {A : Nat} {sh : Nat} (hc : (cs.getD i 0).natAbs ≤ A) (hs : (shs.getD i 0).toNat = sh) : (lW cs shs n i).2 ≤ A * 2 ^ sh * 1000000000 ^ (n - 1 - i) := by
  unfold lW
  refine secW_mag ?_ _
  rw [hs]
  show (cs.getD i 0).natAbs * ((2 : Int) ^ sh).natAbs ≤ _
  rw [Int.natAbs_pow]
  exact Nat.mul_le_mul hc (Nat.le_refl _)
theorem lW_z {cs shs : List Int} {n i : Nat} : zW (lW cs shs n i) = cs.getD i 0 * 2 ^ (shs.getD i 0).toNat * 1000000000 ^ (n - 1 - i) := by
  unfold lW
  rw [secW_z, zW_times, zW_of]
theorem unitW_2 (p s : Nat) : (unitW p s).2 = 2 ^ s * 1000000000 ^ p := by
  unfold unitW
  have h : ∀ (x : Wn) (j : Nat), (secW j x).2 = x.2 * 1000000000 ^ j := by
    intro x j
    induction j with
    | zero => rw [Nat.pow_zero, Nat.mul_one]; rfl
    | succ j ih => show (secW j x).2 * 1000000000 = _; rw [ih, Nat.pow_succ, Nat.mul_assoc]
  rw [h]
  show ((2 : Int) ^ s).natAbs * _ = _
  rw [Int.natAbs_pow]
  rfl
/-- four coefficients of a place, by their greatest absolute values -/
theorem place4 {c0 c1 c2 c3 d : Int} (h0 : c0.natAbs ≤ 2147483648) (h1 : c1.natAbs ≤ 8388608) (h2 : c2.natAbs ≤ 2097152) (h3 : c3.natAbs ≤ 8388608) (hd : d.natAbs ≤ 7200000000000) :
    (∀ i, i + 1 < 4 → (timesW (hW d ((xsW [c0, c1, c2, c3] [30, 26, 16, 0] 4).drop (i + 1))) d).2 < M256 ∧ ((xsW [c0, c1, c2, c3] [30, 26, 16, 0] 4).getD i (false, 0)).2 < M256) ∧
      (hW d (xsW [c0, c1, c2, c3] [30, 26, 16, 0] 4)).2 ≤ 17000000000000000000000000000000000000000000000 := by
  have a0 := lW_mag (cs := [c0, c1, c2, c3]) (shs := [30, 26, 16, 0]) (n := 4) (i := 0) (sh := 30) h0 rfl
  have a1 := lW_mag (cs := [c0, c1, c2, c3]) (shs := [30, 26, 16, 0]) (n := 4) (i := 1) (sh := 26) h1 rfl
  have a2 := lW_mag (cs := [c0, c1, c2, c3]) (shs := [30, 26, 16, 0]) (n := 4) (i := 2) (sh := 16) h2 rfl
  have a3 := lW_mag (cs := [c0, c1, c2, c3]) (shs := [30, 26, 16, 0]) (n := 4) (i := 3) (sh := 0) h3 rfl
  have e : xsW [c0, c1, c2, c3] [30, 26, 16, 0] 4 = [lW [c0, c1, c2, c3] [30, 26, 16, 0] 4 0, lW [c0, c1, c2, c3] [30, 26, 16, 0] 4 1, lW [c0, c1, c2, c3] [30, 26, 16, 0] 4 2, lW [c0, c1, c2, c3] [30, 26, 16, 0] 4 3] := rfl
  rw [e]
  generalize lW [c0, c1, c2, c3] [30, 26, 16, 0] 4 0 = x0 at *
  generalize lW [c0, c1, c2, c3] [30, 26, 16, 0] 4 1 = x1 at *
  generalize lW [c0, c1, c2, c3] [30, 26, 16, 0] 4 2 = x2 at *
  generalize lW [c0, c1, c2, c3] [30, 26, 16, 0] 4 3 = x3 at *
  obtain ⟨m3, s3⟩ := mag_step a3 a2 hd
  obtain ⟨m2, s2⟩ := mag_step s3 a1 hd
  obtain ⟨m1, s1⟩ := mag_step s2 a0 hd
  refine ⟨fun i hi => ?_, Nat.le_trans (show (hW d [x0, x1, x2, x3]).2 ≤ _ from s1) (by decide)⟩
  rcases (by omega : i = 0 ∨ i = 1 ∨ i = 2) with rfl | rfl | rfl
  · exact ⟨Nat.lt_of_le_of_lt (show (timesW (hW d [x1, x2, x3]) d).2 ≤ _ from m1) (by decide), Nat.lt_of_le_of_lt a0 (by decide)⟩
  · exact ⟨Nat.lt_of_le_of_lt (show (timesW (hW d [x2, x3]) d).2 ≤ _ from m2) (by decide), Nat.lt_of_le_of_lt a1 (by decide)⟩
  · exact ⟨Nat.lt_of_le_of_lt (show (timesW (hW d [x3]) d).2 ≤ _ from m3) (by decide), Nat.lt_of_le_of_lt a2 (by decide)⟩
theorem place4_z (c0 c1 c2 c3 d : Int) : zW (hW d (xsW [c0, c1, c2, c3] [30, 26, 16, 0] 4)) = c0 * 16 * 1000000000 * 1000000000 * 1000000000 * 67108864 + c1 * d * 1000000000 * 1000000000 * 67108864 + c2 * d * d * 1000000000 * 65536 + c3 * d * d * d := by
  have e : xsW [c0, c1, c2, c3] [30, 26, 16, 0] 4 = [lW [c0, c1, c2, c3] [30, 26, 16, 0] 4 0, lW [c0, c1, c2, c3] [30, 26, 16, 0] 4 1, lW [c0, c1, c2, c3] [30, 26, 16, 0] 4 2, lW [c0, c1, c2, c3] [30, 26, 16, 0] 4 3] := rfl
  rw [e]
  show zW (plusW (timesW (plusW (timesW (plusW (timesW (lW [c0, c1, c2, c3] [30, 26, 16, 0] 4 3) d) (lW [c0, c1, c2, c3] [30, 26, 16, 0] 4 2)) d) (lW [c0, c1, c2, c3] [30, 26, 16, 0] 4 1)) d) (lW [c0, c1, c2, c3] [30, 26, 16, 0] 4 0)) = _
  simp only [zW_plus, zW_times, lW_z]
  show ((c3 * 2 ^ 0 * 1000000000 ^ 0 * d + c2 * 2 ^ 16 * 1000000000 ^ 1) * d + c1 * 2 ^ 26 * 1000000000 ^ 2) * d + c0 * 2 ^ 30 * 1000000000 ^ 3 = _
  simp only [Int.add_mul]
  have f3 : c3 * 2 ^ 0 * 1000000000 ^ 0 * d * d * d = c3 * d * d * d := by simp
  have f2 : c2 * 2 ^ 16 * 1000000000 ^ 1 * d * d = c2 * d * d * 65536000000000 := by
    rw [show c2 * 2 ^ 16 * 1000000000 ^ 1 = c2 * 65536000000000 by rw [Int.mul_assoc]; rfl, Int.mul_right_comm c2, Int.mul_right_comm (c2 * d)]
  have f1 : c1 * 2 ^ 26 * 1000000000 ^ 2 * d = c1 * d * 67108864000000000000000000 := by
    rw [show c1 * 2 ^ 26 * 1000000000 ^ 2 = c1 * 67108864000000000000000000 by rw [Int.mul_assoc]; rfl, Int.mul_right_comm c1]
  have f0 : c0 * 2 ^ 30 * 1000000000 ^ 3 = c0 * 1073741824000000000000000000000000000 := by rw [Int.mul_assoc]; rfl
  rw [f3, f2, f1, f0]
  generalize c3 * d * d * d = P3
  generalize c2 * d * d = P2
  generalize c1 * d = P1
  omega
end Go.Proofs.Sky

namespace Go.Proofs.Sky
open Go Go.RowKit Go.Shelf
set_option maxHeartbeats 2000000
set_option maxRecDepth 8000
def mx28 (x y : Int) : Int := if y > x then y else x
theorem run_mx28 {P : Program} {w : World} (ts : Array TypeId) (t : TypeId) (k k' : IntKind) (x y : Int) : (Builtin.max_ ts t #[.int k x, .int k' y]).run P w = .ok (.int k (mx28 x y)) w := run_max_int2 w ts t k k' x y
theorem mx28_abs (n : Int) : mx28 n (-n) = (n.natAbs : Int) := by unfold mx28; split <;> omega
attribute [-go_sem] run_max_int2
attribute [local go_sem] run_mx28
/-! chapter 28: axes, point, up, size -/
theorem axes28_any (b : Nat) (w : World) : Calls Try.prog 21 #[.pointer (some ⟨b, 0, none⟩)] w fun e w' => (∃ ga, e = .returned (.slice (some ⟨ga, 0, none⟩) 3 3) ∧ w.heap.size ≤ ga ∧ Blk w' ga 47 #[.pointer (some ⟨b, 7, none⟩), .pointer (some ⟨b, 11, none⟩), .pointer (some ⟨b, 15, none⟩)]) ∧ Bw w w' := by
  go_enter Try.func21, Try.ntmps21
  go_upto_region 1 with fail
  refine wp_region_held_drew (S := Bw w) (by kernel_rfl) (Bw.drew (Bw.refl _)) (fun hS => ?_)
  generalize World.drew _ = wd at hS ⊢
  refine take1 (i := 0) (some 3) rfl rfl (by kernel_rfl) (by kernel_rfl) (by kernel_rfl) (fun _ _ _ _ h => h) rfl hS ?_
  apply Exists.intro
  apply And.intro
  · intro W9 hW9; skip; go_simp; try with_reducible rfl
  simp only [Act.put, List.setIfInBounds_toArray, List.set_cons_zero, List.set_cons_succ]
  refine take1 (i := 1) (some 4) rfl rfl (by kernel_rfl) (by kernel_rfl) (by kernel_rfl) (fun _ _ _ _ h => h) rfl hS ?_
  apply Exists.intro
  apply And.intro
  · intro W9 hW9; skip; go_simp; try with_reducible rfl
  simp only [Act.put, List.setIfInBounds_toArray, List.set_cons_zero, List.set_cons_succ]
  refine take1 (i := 2) (some 5) rfl rfl (by kernel_rfl) (by kernel_rfl) (by kernel_rfl) (fun _ _ _ _ h => h) rfl hS ?_
  apply Exists.intro
  apply And.intro
  · intro W9 hW9; skip; go_simp; try with_reducible rfl
  simp only [Act.put, List.setIfInBounds_toArray, List.set_cons_zero, List.set_cons_succ]
  refine take1 (i := 3) (some 6) rfl rfl (by kernel_rfl) (by kernel_rfl) (by kernel_rfl) (fun _ _ _ _ h => h) rfl hS ?_
  apply Exists.intro
  apply And.intro
  · intro W9 hW9; skip; go_simp; try with_reducible rfl
  simp only [Act.put, List.setIfInBounds_toArray, List.set_cons_zero, List.set_cons_succ]
  refine take1 (i := 4) (some 7) rfl rfl (by kernel_rfl) (by kernel_rfl) (by kernel_rfl) (fun _ _ _ _ h => h) rfl hS ?_
  apply Exists.intro
  apply And.intro
  · intro W9 hW9; skip; go_simp; try with_reducible rfl
  simp only [Act.put, List.setIfInBounds_toArray, List.set_cons_zero, List.set_cons_succ]
  refine take1 (i := 5) (some 8) rfl rfl (by kernel_rfl) (by kernel_rfl) (by kernel_rfl) (fun _ _ _ _ h => h) rfl hS ?_
  apply Exists.intro
  apply And.intro
  · intro W9 hW9; skip; go_simp; try with_reducible rfl
  simp only [Act.put, List.setIfInBounds_toArray, List.set_cons_zero, List.set_cons_succ]
  refine take1 (i := 6) (some 9) rfl rfl (by kernel_rfl) (by kernel_rfl) (by kernel_rfl) (fun _ _ _ _ h => h) rfl hS ?_
  apply Exists.intro
  apply And.intro
  · intro W9 hW9; skip; go_simp; try with_reducible rfl
  simp only [Act.put, List.setIfInBounds_toArray, List.set_cons_zero, List.set_cons_succ]
  refine take1 (i := 7) (some 10) rfl rfl (by kernel_rfl) (by kernel_rfl) (by kernel_rfl) (fun _ _ _ _ h => h) rfl hS ?_
  apply Exists.intro
  apply And.intro
  · intro W9 hW9; skip; go_simp; try with_reducible rfl
  simp only [Act.put, List.setIfInBounds_toArray, List.set_cons_zero, List.set_cons_succ]
  refine take1 (i := 8) (some 11) rfl rfl (by kernel_rfl) (by kernel_rfl) (by kernel_rfl) (fun _ _ _ _ h => h) rfl hS ?_
  apply Exists.intro
  apply And.intro
  · intro W9 hW9; skip; go_simp; try with_reducible rfl
  simp only [Act.put, List.setIfInBounds_toArray, List.set_cons_zero, List.set_cons_succ]
  refine wpAnyH_ready (rs := [9]) (by kernel_rfl) (by simp) ?_
  refine AllReadyH.cons rfl (fun K hK => ?_) ?_
  have HSZ := Lib.hid (Bw.size hS)
  go_simp
  have hba := Bw.alloc (Bw.refl wd) (.cells #[.pointer (some ⟨b, 7, none⟩), .pointer (some ⟨b, 11, none⟩), .pointer (some ⟨b, 15, none⟩)] 47)
  have KB := Lib.hid (Blk.new wd 47 #[.pointer (some ⟨b, 7, none⟩), .pointer (some ⟨b, 11, none⟩), .pointer (some ⟨b, 15, none⟩)])
  refine hK.out _ _ (hS.trans hba) (fun hS => ?_)
  clear hK K
  clear hba
  refine take1 (i := 10) (some 2) rfl rfl (by kernel_rfl) (by kernel_rfl) (by kernel_rfl) (fun _ _ _ _ h => h) rfl hS ?_
  apply Exists.intro
  apply And.intro
  · intro W9 hW9; skip; go_simp; try with_reducible rfl
  simp only [Act.put, List.setIfInBounds_toArray, List.set_cons_zero, List.set_cons_succ]
  refine wpAnyH_done (by kernel_rfl) ?_ _
  rotate_left
  exact AllReadyH.nil
  all_goals
    go_wp2
    go_ret
    exact ⟨⟨_, rfl, HSZ.out, KB.out⟩, hS⟩
theorem point28_any (x y z : Int) (w : World) : Calls Try.prog 25 #[.agg #[.int .i64 x, .int .i64 y, .int .i64 z]] w fun e w' => e = .returned (.agg #[.int .i64 x, .int .i64 y, .int .i64 z]) ∧ Bw w w' := by
  have KX := Lib.hid ((Blk.new w 22 #[.int .i64 x, .int .i64 y, .int .i64 z]).alloc (.cells #[.int .i64 0, .int .i64 0, .int .i64 0] 27))
  have HW := Lib.hid (Bw.alloc (Bw.alloc (Bw.refl w) (.cells #[.int .i64 x, .int .i64 y, .int .i64 z] 22)) (.cells #[.int .i64 x, .int .i64 y, .int .i64 z] 27))
  have KO : Hid (Blk ((w.alloc (.cells #[.int .i64 x, .int .i64 y, .int .i64 z] 22)).alloc (.cells #[.int .i64 x, .int .i64 y, .int .i64 z] 27)) (w.heap.size + 1) 27 #[.int .i64 x, .int .i64 y, .int .i64 z]) := Lib.hid (by have h9 := Blk.new (w.alloc (.cells #[.int .i64 x, .int .i64 y, .int .i64 z] 22)) 27 #[.int .i64 x, .int .i64 y, .int .i64 z]; simp only [World.size_alloc] at h9; exact h9)
  go_enter Try.func25, Try.ntmps25
  go_wp2
  refine bodyPost_ret (v := .agg #[.int .i64 x, .int .i64 y, .int .i64 z]) ?_ rfl ⟨rfl, HW.out⟩
  exact results_cell_row (p := 2) rfl _ _ (w.heap.size + 1) _ _ (0, 0) _ rfl KO.out Try.underlying27 rfl (by kernel_rfl)
theorem up28_any (x y : Int) (hx : 0 ≤ x ∧ x ≤ 4000000000000000000) (hy : 1 ≤ y ∧ y ≤ 4000000000000000000) (w : World) : Calls Try.prog 38 #[.int .i64 x, .int .i64 y] w fun e w' => e = .returned (.int .i64 ((x + y - 1) / y)) ∧ Bw w w' := by
  have hq : (x + y - 1).tdiv y = (x + y - 1) / y := Int.tdiv_eq_ediv_of_nonneg (by omega)
  have hy0 : (y == 0) = false := by simp; omega
  have hb : 0 ≤ (x + y - 1) / y ∧ (x + y - 1) / y ≤ 9000000000000000000 := by
    refine ⟨Int.ediv_nonneg (by omega) (by omega), ?_⟩
    exact Int.le_trans (Int.ediv_le_self _ (by omega)) (by omega)
  go_enter Try.func38, Try.ntmps38
  go_wp2
  go_ret
  exact ⟨rfl, Bw.refl _⟩
theorem size28_any (x : Int) (hx : -4000000000000000000 ≤ x ∧ x ≤ 4000000000000000000) (w : World) : Calls Try.prog 39 #[.int .i64 x] w fun e w' => e = .returned (.int .i64 (x.natAbs : Int)) ∧ Bw w w' := by
  have hm := mx28_abs x
  go_enter Try.func39, Try.ntmps39
  go_wp2
  go_ret
  exact ⟨rfl, Bw.refl _⟩
end Go.Proofs.Sky

namespace Go.Proofs.Sky
open Go Go.RowKit Go.Shelf
set_option maxHeartbeats 2000000
set_option maxRecDepth 8000
/-! chapter 28: Position -/
def l3V (L : Nat → Int) : Array Value := #[.int .i64 (L 0), .int .i64 (L 1), .int .i64 (L 2)]
theorem l3V_at (L : Nat → Int) (i : Nat) (hi : i < 3) : (l3V L)[i]? = some (.int .i64 (L i)) := by
  match i, hi with
  | 0, _ => rfl
  | 1, _ => rfl
  | 2, _ => rfl
theorem l3V_set (L : Nat → Int) (k : Nat) (hk : k < 3) (v : Int) : (l3V L).setIfInBounds k (.int .i64 v) = l3V (fun j => if j = k then v else L j) := by
  match k, hk with
  | 0, _ => rfl
  | 1, _ => rfl
  | 2, _ => rfl
theorem l3V_congr {x y : Nat → Int} (h : ∀ j, j < 3 → x j = y j) : l3V x = l3V y := by
  unfold l3V; rw [h 0 (by omega), h 1 (by omega), h 2 (by omega)]
theorem ps_at (g i : Nat) (hi : i < 3) : (#[.pointer (some ⟨g, 7, none⟩), .pointer (some ⟨g, 11, none⟩), .pointer (some ⟨g, 15, none⟩)] : Array Value)[i]? = some (.pointer (some ⟨g, 7 + 4 * i, none⟩)) := by
  match i, hi with
  | 0, _ => rfl
  | 1, _ => rfl
  | 2, _ => rfl
theorem rdI_ax {W : World} {g : Nat} {X : Nat → Int} (hB : Blk W g 25 (eV X)) (i : Nat) (hi : i < 3) : RdI W (.slice (some ⟨g, 7 + 4 * i, none⟩) 4 4) [X (7 + 4 * i), X (7 + 4 * i + 1), X (7 + 4 * i + 2), X (7 + 4 * i + 3)] := by
  refine ⟨by simp, _, _, rfl, .inr ⟨g, 7 + 4 * i, rfl, hB.lt, fun k hk => ?_⟩⟩
  have hk4 : k < 4 := hk
  refine hB.cell ((eV_at X (7 + 4 * i + k) (by omega)).trans ?_)
  match k, hk4 with
  | 0, _ => rfl
  | 1, _ => rfl
  | 2, _ => rfl
  | 3, _ => rfl
theorem atE_ok {X : Nat → Int} {t : Int} (h : (atE X t).2 = 0) : errE X = 0 ∧ (atE X t).1.natAbs ≤ 7200000000000 := by
  unfold atE at h ⊢
  by_cases h1 : errE X = 0
  · refine ⟨h1, ?_⟩
    rw [if_neg (by omega)] at h ⊢
    by_cases h2 : t < 0 ∨ 604800000000000 ≤ t
    · rw [if_pos h2] at h; simp at h
    · rw [if_neg h2] at h ⊢
      split at h
      · simp at h
      · rename_i h3
        rw [if_neg h3]
        dsimp only
        omega
  · rw [if_pos h1] at h
    exact absurd h h1
theorem ax_bd {X : Nat → Int} (h : errE X = 0) (j : Nat) (hj : j < 3) : (X (7 + 4 * j)).natAbs ≤ 2147483648 ∧ (X (7 + 4 * j + 1)).natAbs ≤ 8388608 ∧ (X (7 + 4 * j + 2)).natAbs ≤ 2097152 ∧ (X (7 + 4 * j + 3)).natAbs ≤ 8388608 := by
  have hp := (errE_parts h).2.2
  have h0 := hp 0 (by omega)
  have h1 := hp 1 (by omega)
  have h2 := hp 2 (by omega)
  have h3 := hp 3 (by omega)
  unfold okZ at h0 h1 h2 h3
  simp only [decide_eq_true_eq] at h0 h1 h2 h3
  rw [show lowR (axB 0) true = -2147483648 from by decide, show highR (axB 0) true = 2147483647 from by decide] at h0
  rw [show lowR (axB 1) true = -8388608 from by decide, show highR (axB 1) true = 8388607 from by decide] at h1
  rw [show lowR (axB 2) true = -2097152 from by decide, show highR (axB 2) true = 2097151 from by decide] at h2
  rw [show lowR (axB 3) true = -8388608 from by decide, show highR (axB 3) true = 8388607 from by decide] at h3
  rcases (by omega : j = 0 ∨ j = 1 ∨ j = 2) with rfl | rfl | rfl
  · have e0 : -2147483648 ≤ X 7 ∧ X 7 ≤ 2147483647 := h0.1
    have e1 : -8388608 ≤ X 8 ∧ X 8 ≤ 8388607 := h1.1
    have e2 : -2097152 ≤ X 9 ∧ X 9 ≤ 2097151 := h2.1
    have e3 : -8388608 ≤ X 10 ∧ X 10 ≤ 8388607 := h3.1
    show (X 7).natAbs ≤ _ ∧ (X 8).natAbs ≤ _ ∧ (X 9).natAbs ≤ _ ∧ (X 10).natAbs ≤ _
    clear h0 h1 h2 h3
    omega
  · have e0 : -2147483648 ≤ X 11 ∧ X 11 ≤ 2147483647 := h0.2.1
    have e1 : -8388608 ≤ X 12 ∧ X 12 ≤ 8388607 := h1.2.1
    have e2 : -2097152 ≤ X 13 ∧ X 13 ≤ 2097151 := h2.2.1
    have e3 : -8388608 ≤ X 14 ∧ X 14 ≤ 8388607 := h3.2.1
    show (X 11).natAbs ≤ _ ∧ (X 12).natAbs ≤ _ ∧ (X 13).natAbs ≤ _ ∧ (X 14).natAbs ≤ _
    clear h0 h1 h2 h3
    omega
  · have e0 : -2147483648 ≤ X 15 ∧ X 15 ≤ 2147483647 := h0.2.2
    have e1 : -8388608 ≤ X 16 ∧ X 16 ≤ 8388607 := h1.2.2
    have e2 : -2097152 ≤ X 17 ∧ X 17 ≤ 2097151 := h2.2.2
    have e3 : -8388608 ≤ X 18 ∧ X 18 ≤ 8388607 := h3.2.2
    show (X 15).natAbs ≤ _ ∧ (X 16).natAbs ≤ _ ∧ (X 17).natAbs ≤ _ ∧ (X 18).natAbs ≤ _
    clear h0 h1 h2 h3
    omega
/-- a coordinate, in millimetres -/
def coordQ (c0 c1 c2 c3 d : Int) : Int := rndQ (c0 * 16 * 1000000000 * 1000000000 * 1000000000 * 67108864 + c1 * d * 1000000000 * 1000000000 * 67108864 + c2 * d * d * 1000000000 * 65536 + c3 * d * d * d) 67108864000000000000000000000000000
def posQ (X : Nat → Int) (d : Int) (j : Nat) : Int := coordQ (X (7 + 4 * j)) (X (7 + 4 * j + 1)) (X (7 + 4 * j + 2)) (X (7 + 4 * j + 3)) d
theorem over_pos {c0 c1 c2 c3 d : Int} (h0 : c0.natAbs ≤ 2147483648) (h1 : c1.natAbs ≤ 8388608) (h2 : c2.natAbs ≤ 2097152) (h3 : c3.natAbs ≤ 8388608) (hd : d.natAbs ≤ 7200000000000) (W : World) :
    Calls Try.prog 23 #[.agg (nV (hW d (xsW [c0, c1, c2, c3] [30, 26, 16, 0] 4)).1 (hW d (xsW [c0, c1, c2, c3] [30, 26, 16, 0] 4)).2), .agg (nV (unitW 3 26).1 (unitW 3 26).2)] W fun e w' => e = .returned (.int .i64 (coordQ c0 c1 c2 c3 d)) ∧ Bw W w' := by
  have hp := (place4 h0 h1 h2 h3 hd).2
  have hz := place4_z c0 c1 c2 c3 d
  have hu : (unitW 3 26).2 = 67108864000000000000000000000000000 := (unitW_2 3 26).trans (by decide)
  generalize hW d (xsW [c0, c1, c2, c3] [30, 26, 16, 0] 4) = x at *
  have h9 := over28_any x.1 (unitW 3 26).1 x.2 (unitW 3 26).2 W (by rw [hu]; decide) (by rw [hu]; decide) (by rw [hu]; unfold M256; omega) (by
    rw [hu]
    refine Nat.lt_of_le_of_lt (Nat.div_le_div_right (c := 67108864000000000000000000000000000 + 67108864000000000000000000000000000) (show _ ≤ 17000000000000000000000000000000000000000000000 + 17000000000000000000000000000000000000000000000 + 67108864000000000000000000000000000 by omega)) (by decide))
  have he : overR x.1 x.2 (unitW 3 26).2 = coordQ c0 c1 c2 c3 d := by
    rw [over_q x _ (by rw [hu]; decide), hz, hu]; rfl
  rw [he] at h9
  exact h9
end Go.Proofs.Sky
