/-
  lemmas for the theorems of this claim. No conditions beyond those written in the statements.
-/
import Derived.Test.YtiohoallllkagaaSUE
import Derived.Deep.Cut
import Derived.BigRegion
import Derived.Test.YtiohoallllkagaaProg
import Derived.Test.YtiohoallllkagaaBase
import Derived.Test.YtiohoallllkagaaRG
set_option linter.unusedVariables false
set_option linter.unusedSimpArgs false
set_option linter.unnecessarySimpa false
namespace Go.Proofs.Sky
open Go Go.RowKit Go.Shelf
set_option maxHeartbeats 4000000
set_option maxRecDepth 4000
/-- all but one block is kept -/
structure Kx (g : Nat) (w w' : World) : Prop where
  b : Below g w w'
  oth : ∀ b, b < w.heap.size → b ≠ g → w'.heap[b]? = w.heap[b]?
theorem Kx.size {g : Nat} {w w' : World} (h : Kx g w w') : w.heap.size ≤ w'.heap.size := Below.size h.b
theorem Kx.of_bw {g : Nat} {w w' : World} (h : Bw w w') (hg : g ≤ w.heap.size) : Kx g w w' := ⟨Below.mono h hg, fun b hb _ => h.out.block b hb⟩
theorem Kx.trans {g : Nat} {a b c : World} (h : Kx g a b) (k : Kx g b c) : Kx g a c :=
  ⟨Below.trans h.b k.b, fun x hx hn => (k.oth x (Nat.lt_of_lt_of_le hx h.size) hn).trans (h.oth x hx hn)⟩
theorem Kx.blk {g b : Nat} {w w' : World} {T : TypeId} {cs : Array Value} (h : Kx g w w') (hB : Blk w b T cs) (hn : b ≠ g) : Blk w' b T cs := (h.oth b hB.lt hn).trans hB
theorem Kx.bw {g : Nat} {a w w' : World} (h : Kx g w w') (hb : Bw a w) (hg : a.heap.size ≤ g) : Bw a w' := Below.trans hb (Below.mono h.b hg)
theorem Kx.set {g j : Nat} {w : World} (hg : g < w.heap.size) (v : Value) : Kx g w (w.setCell ⟨g, j, none⟩ v) :=
  ⟨Below.setCell (p := ⟨g, j, none⟩) (Below.refl g w) (Nat.le_refl g) v, fun b _ hn => heap_setCell_other w ⟨g, j, none⟩ b v (by simpa using hn)⟩
theorem Kx.rdI {g base : Nat} {w w' : World} {v : Value} {zs : List Int} (h : Kx g w w') (hr : RdI w v zs) (hf : Fresh base v) (hg : g < base) : RdI w' v zs := by
  obtain ⟨h2, a, cap, rfl, h4⟩ := hr
  refine ⟨h2, a, cap, rfl, ?_⟩
  rcases h4 with h4 | ⟨b', off, rfl, h6, h7⟩
  · exact .inl h4
  · have := hf b' rfl
    refine .inr ⟨b', off, rfl, Nat.lt_of_lt_of_le h6 h.size, fun i hi => ?_⟩
    rw [World.cell?_of_block (h.oth b' h6 (by omega))]; exact h7 i hi
theorem Wd.form {w : World} {base : Nat} {v : Value} {N : Int} (h : Wd w base v N) : ∃ a n c, v = .slice a n c := by
  obtain ⟨ds, h1, _⟩ := h
  obtain ⟨a, c, h2⟩ := h1.form
  exact ⟨a, _, c, h2⟩
theorem Wd.kx {g base : Nat} {w w' : World} {v : Value} {N : Int} (h : Wd w base v N) (hk : Kx g w w') (hg : g < base) : Wd w' base v N := by
  obtain ⟨ds, h1, h2, h3⟩ := h; exact ⟨ds, hk.rdI h1 h2 hg, h2, h3⟩
def SumAt (w : World) (g base : Nat) (U D : Int) : Prop := ∃ vu vd, Blk w g 59 #[vu, vd] ∧ Wd w base vu U ∧ Wd w base vd D
theorem SumAt.bw {w w' : World} {g base : Nat} {U D : Int} (h : SumAt w g base U D) (hb : Bw w w') : SumAt w' g base U D := by
  obtain ⟨vu, vd, h1, h2, h3⟩ := h; exact ⟨vu, vd, h1.bw hb, h2.mono hb, h3.mono hb⟩
theorem SumAt.kx {w w' : World} {g g' base : Nat} {U D : Int} (h : SumAt w g base U D) (hk : Kx g' w w') (hn : g ≠ g') (hb : g' < base) : SumAt w' g base U D := by
  obtain ⟨vu, vd, h1, h2, h3⟩ := h; exact ⟨vu, vd, hk.blk h1 hn, h2.kx hk hb, h3.kx hk hb⟩
theorem SumAt.lt {w : World} {g base : Nat} {U D : Int} (h : SumAt w g base U D) : g < w.heap.size := by obtain ⟨_, _, h1, _⟩ := h; exact h1.lt
def prodI (ls : List Int) : Int := ls.foldl (· * ·) 1
theorem prodI_snoc (ls : List Int) (x : Int) : prodI (ls ++ [x]) = prodI ls * x := by unfold prodI; rw [List.foldl_append]; rfl
theorem prod_take (ls : List Int) (i : Nat) (h : i < ls.length) : prodI (ls.take (i + 1)) = prodI (ls.take i) * ls.getD i 0 := by
  rw [List.take_add_one, List.getElem?_eq_getElem h, List.getD_eq_getElem?_getD, List.getElem?_eq_getElem h]
  exact prodI_snoc _ _
theorem mul_absbd {x y X Y : Int} (hx : -X ≤ x ∧ x ≤ X) (hy : -Y ≤ y ∧ y ≤ Y) : -(X * Y) ≤ x * y ∧ x * y ≤ X * Y := by
  have h1 : x.natAbs * y.natAbs ≤ X.natAbs * Y.natAbs := Nat.mul_le_mul (by omega) (by omega)
  have h2 : (x * y).natAbs = x.natAbs * y.natAbs := Int.natAbs_mul _ _
  have h3 : (X * Y).natAbs = X.natAbs * Y.natAbs := Int.natAbs_mul _ _
  have h4 : 0 ≤ X * Y := Int.mul_nonneg (by omega) (by omega)
  omega
theorem prod_bd (ls : List Int) (h : ∀ x ∈ ls, -4611686018427387904 ≤ x ∧ x ≤ 4611686018427387904) (hn : ls.length ≤ 6) : ∀ i, -(4611686018427387904 ^ i) ≤ prodI (ls.take i) ∧ prodI (ls.take i) ≤ 4611686018427387904 ^ i := by
  intro i
  induction i with
  | zero => simp [prodI]
  | succ i ih =>
    rcases Nat.lt_or_ge i ls.length with h1 | h1
    · rw [prod_take ls i h1, Int.pow_succ]
      exact mul_absbd ih (h _ (getD_mem ls i 0 h1))
    · rw [List.take_of_length_le (by omega)]
      rw [List.take_of_length_le h1] at ih
      have h2 : (4611686018427387904 : Int) ^ i ≤ 4611686018427387904 ^ (i + 1) := by
        rw [Int.pow_succ]
        have h3 : (0 : Int) ≤ 4611686018427387904 ^ i := Int.le_of_lt (Int.pow_pos (by decide))
        omega
      omega
theorem prod_bd6 (ls : List Int) (h : ∀ x ∈ ls, -4611686018427387904 ≤ x ∧ x ≤ 4611686018427387904) (hn : ls.length ≤ 6) (i : Nat) : -1000000000000000000000000000000000000000000000000000000000000000000000000000000000000000000000000000000000000000000000000 ≤ prodI (ls.take i) ∧ prodI (ls.take i) ≤ 1000000000000000000000000000000000000000000000000000000000000000000000000000000000000000000000000000000000000000000000000 := by
  have h1 : ∀ j, j ≤ 6 → -1000000000000000000000000000000000000000000000000000000000000000000000000000000000000000000000000000000000000000000000000 ≤ prodI (ls.take j) ∧ prodI (ls.take j) ≤ 1000000000000000000000000000000000000000000000000000000000000000000000000000000000000000000000000000000000000000000000000 := fun j hj => by
    have h2 := prod_bd ls h hn j
    have h3 : (4611686018427387904 : Int) ^ j ≤ 1000000000000000000000000000000000000000000000000000000000000000000000000000000000000000000000000000000000000000000000000 := by
      rcases (show j = 0 ∨ j = 1 ∨ j = 2 ∨ j = 3 ∨ j = 4 ∨ j = 5 ∨ j = 6 by omega) with rfl | rfl | rfl | rfl | rfl | rfl | rfl <;> decide
    omega
  rcases Nat.lt_or_ge i 7 with h2 | h2
  · exact h1 i (by omega)
  · have h3 := h1 6 (by omega)
    rw [List.take_of_length_le (by omega)] at h3 ⊢
    exact h3
def ProdP (g base : Nat) (U D P : Int) (w : World) (e : Ending) (w' : World) : Prop := e = .returned (.tuple #[]) ∧ Kx g w w' ∧ ∃ U' D', SumAt w' g base U' D' ∧ U' - D' = U - D + P ∧ U' + D' = U + D + P.natAbs
theorem Product_any (g base : Nat) (U D : Int) (vl : Value) (ls : List Int) (w : World) (hs : SumAt w g base U D) (hgb : g < base) (hbw : base ≤ w.heap.size) (hl : RdI w vl ls) (hn : ls.length ≤ 6) (hls : ∀ x ∈ ls, -4611686018427387904 ≤ x ∧ x ≤ 4611686018427387904) (hU : U ≤ 10000000000000000000000000000000000000000000000000000000000000000000000000000000000000000000000000000000000000000000000000000000000000000000000000000000000000000000000000000000000000000000000000000000000000000000000000000000000000000000000000000000000000000000000000000000000000000000000000000000000000000000000000000000000000000000000000000000000000000000000000000000000000000000000000000000000000000) (hD : D ≤ 10000000000000000000000000000000000000000000000000000000000000000000000000000000000000000000000000000000000000000000000000000000000000000000000000000000000000000000000000000000000000000000000000000000000000000000000000000000000000000000000000000000000000000000000000000000000000000000000000000000000000000000000000000000000000000000000000000000000000000000000000000000000000000000000000000000000000000) :
    Calls Try.prog 33 #[.pointer (some ⟨g, 0, none⟩), vl] w fun e w' => ProdP g base U D (prodI ls) w e w' := by
  have HPB := Lib.hid (prod_bd6 ls hls hn)
  have HLS := Lib.hid (fun i hi => hls _ (getD_mem ls i 0 hi))
  have HPT := Lib.hid (prod_take ls)
  have HTA := Lib.hid (show prodI (ls.take ls.length) = prodI ls by rw [List.take_length])
  have HV := Lib.hid hl
  obtain ⟨ad, cap, rfl⟩ := hl.form
  clear hl hls
  obtain ⟨vu, vd, hB, hu, hd⟩ := hs
  have BX := Lib.hid hB
  have HU := Lib.hid hu
  have HD := Lib.hid hd
  have hU0 := hu.pos
  have hD0 := hd.pos
  clear hB hu hd
  have HGB := Lib.hid hgb
  have HBW := Lib.hid hbw
  clear hgb hbw
  obtain ⟨n, hn9⟩ : ∃ n, n = ls.length := ⟨_, rfl⟩
  rw [← hn9] at HV HTA hn ⊢
  have HN := Lib.hid hn9
  clear hn9
  have W1 := Lib.hid (fun W => wideOf_any 1 W (by decide) (by decide))
  have WO := Lib.hid (fun n W h0 h1 => wideOf_any n W h0 h1)
  have WM := Lib.hid (fun va vb A B ba bb W ha hb h1 h2 => wideMul_any va vb A B ba bb W ha hb h1 h2)
  have WA := Lib.hid (fun va vb A B ba bb W ha hb h1 h2 => wideAdd_any va vb A B ba bb W ha hb h1 h2)
  unfold NumP31 at W1 WO WM WA
  go_enter Try.func33, Try.ntmps33
  go_wp2_with (go_at_call 50; (with_reducible refine Calls.mono (W1.out _) ?_); rintro e1 w1 ⟨⟨v1, rfl, hn1⟩, hb1⟩; have H1 := Lib.hid hn1; have HW1 := Lib.hid hb1; clear hn1 hb1)
  go_loopg [4, 5, 6] n (fun gg s4 s5 s6 wr => ∃ (i : Nat) (p : Int) (nb : Bool), i ≤ n ∧ n - i ≤ gg ∧ s6 = .int .i64 i ∧ s5 = .bool nb ∧ Hid (Wd wr w.heap.size s4 p) ∧ Hid ((if nb then -p else p) = prodI (ls.take i)) ∧ Hid (Bw w wr))
  case atStart => exact ⟨0, 1, false, by omega, by omega, rfl, rfl, H1, Lib.hid rfl, HW1⟩
  case round =>
    clear H1 HW1 W1
    obtain ⟨i, p, nb, hi, hgg, rfl, rfl, H1, HP, HW⟩ := hrel
    have hp0 := H1.out.pos
    have hpb := HPB.out i
    have hpp : p ≤ 1000000000000000000000000000000000000000000000000000000000000000000000000000000000000000000000000000000000000000000000000 := by
      have h9 := HP.out
      cases nb <;> simp at h9 <;> omega
    by_cases hil : i < n
    · have hiz : (i : Int) < n := by omega
      obtain ⟨b1, o1, cc, hv1, _, hd1⟩ := (HV.out.mono HW.out).at (by have := HN.out; omega)
      injection hv1 with i1 i2 i3; subst i1; clear i2 i3
      have d1 := hd1 i (by have := HN.out; omega)
      have hxb := HLS.out i (by have := HN.out; omega)
      have HP2 := Lib.hid (HPT.out i (by have := HN.out; omega))
      clear hd1
      generalize ls.getD i 0 = x at d1 hxb HP2
      by_cases hx : x < 0
      · have WOx := Lib.hid (fun W => WO.out (-x) W (by omega) (by omega))
        have HP3 := Lib.hid (show (if (!nb) then -(p * -x) else p * -x) = prodI (ls.take (i + 1)) by
          rw [HP2.out, ← HP.out]
          cases nb <;> simp [Int.neg_mul, Int.mul_neg])
        go_wp2_with (first | (go_at_call 50; (with_reducible refine Calls.mono (WOx.out _) ?_); rintro e2 w2 ⟨⟨v2, rfl, hn2⟩, hb2⟩; have H2 := Lib.hid (hn2.down HW.out.size); replace H1 := Lib.hid (H1.out.mono hb2); replace HW := Lib.hid (HW.out.trans hb2); clear hn2 hb2 d1) | (go_at_call 51; (with_reducible refine Calls.mono (WM.out _ _ p (-x) _ _ _ H1.out H2.out (Int.le_trans hpp (by decide)) (by omega)) ?_); rintro e3 w3 ⟨⟨v3, rfl, hn3⟩, hb3⟩; replace H1 := Lib.hid (hn3.down HW.out.size); replace HW := Lib.hid (HW.out.trans hb3); clear hn3 hb3 H2))
        go_roundg (n - (i + 1))
        case measure => omega
        case rel => exact ⟨i + 1, p * -x, !nb, by omega, by omega, by go_num, rfl, H1, HP3, HW⟩
      · have WOx := Lib.hid (fun W => WO.out x W (by omega) (by omega))
        have HP3 := Lib.hid (show (if nb then -(p * x) else p * x) = prodI (ls.take (i + 1)) by
          rw [HP2.out, ← HP.out]
          cases nb <;> simp [Int.neg_mul, Int.mul_neg])
        go_wp2_with (first | (go_at_call 50; (with_reducible refine Calls.mono (WOx.out _) ?_); rintro e2 w2 ⟨⟨v2, rfl, hn2⟩, hb2⟩; have H2 := Lib.hid (hn2.down HW.out.size); replace H1 := Lib.hid (H1.out.mono hb2); replace HW := Lib.hid (HW.out.trans hb2); clear hn2 hb2 d1) | (go_at_call 51; (with_reducible refine Calls.mono (WM.out _ _ p x _ _ _ H1.out H2.out (Int.le_trans hpp (by decide)) (by omega)) ?_); rintro e3 w3 ⟨⟨v3, rfl, hn3⟩, hb3⟩; replace H1 := Lib.hid (hn3.down HW.out.size); replace HW := Lib.hid (HW.out.trans hb3); clear hn3 hb3 H2))
        go_roundg (n - (i + 1))
        case measure => omega
        case rel => exact ⟨i + 1, p * x, nb, by omega, by omega, by go_num, rfl, H1, HP3, HW⟩
    · obtain rfl : i = n := by omega
      have hiz : ¬ (i : Int) < i := by omega
      replace BX := Lib.hid (BX.out.bw HW.out)
      have c0 := BX.out.cell (j := 0) (v := vu) rfl
      have c1 := BX.out.cell (j := 1) (v := vd) rfl
      have f0 := BX.out.frozen 0
      have f1 := BX.out.frozen 1
      have HQ := Lib.hid (HP.out.trans HTA.out)
      clear HP
      cases nb with
      | false =>
        go_wp2_with ((go_at_call 52; (with_reducible refine Calls.mono (WA.out _ _ U p _ _ _ (HU.out.mono HW.out) H1.out (Int.le_trans hU (by decide)) (Int.le_trans hpp (by decide))) ?_); rintro e2 w2 ⟨⟨v2, rfl, hn2⟩, hb2⟩; obtain ⟨a2, n2, c2, rfl⟩ := hn2.form; have H2 := Lib.hid (hn2.down (Nat.le_trans HBW.out HW.out.size)); replace HW := Lib.hid (HW.out.trans hb2); replace BX := Lib.hid (BX.out.bw hb2); clear hn2 hb2; clear c0 c1 f0 f1; have c0 := BX.out.cell (j := 0) (v := vu) rfl; have c1 := BX.out.cell (j := 1) (v := vd) rfl; have f0 := BX.out.frozen 0; have f1 := BX.out.frozen 1))
        have hk : Kx g w2 (w2.setCell ⟨g, 0, none⟩ (.slice a2 n2 c2)) := Kx.set BX.out.lt _
        refine bodyPost_ret (v := .tuple #[]) (results_none rfl _ _ _) rfl ⟨rfl, (Kx.of_bw HW.out (by have := HGB.out; have := HBW.out; omega)).trans hk, U + p, D, ⟨_, vd, BX.out.set 0 _, H2.out.kx hk HGB.out, (HD.out.mono HW.out).kx hk HGB.out⟩, ?_, ?_⟩
        · have h9 := HQ.out; simp at h9; omega
        · have h9 := HQ.out; simp at h9; omega
      | true =>
        go_wp2_with ((go_at_call 52; (with_reducible refine Calls.mono (WA.out _ _ D p _ _ _ (HD.out.mono HW.out) H1.out (Int.le_trans hD (by decide)) (Int.le_trans hpp (by decide))) ?_); rintro e2 w2 ⟨⟨v2, rfl, hn2⟩, hb2⟩; obtain ⟨a2, n2, c2, rfl⟩ := hn2.form; have H2 := Lib.hid (hn2.down (Nat.le_trans HBW.out HW.out.size)); replace HW := Lib.hid (HW.out.trans hb2); replace BX := Lib.hid (BX.out.bw hb2); clear hn2 hb2; clear c0 c1 f0 f1; have c0 := BX.out.cell (j := 0) (v := vu) rfl; have c1 := BX.out.cell (j := 1) (v := vd) rfl; have f0 := BX.out.frozen 0; have f1 := BX.out.frozen 1))
        have hk : Kx g w2 (w2.setCell ⟨g, 1, none⟩ (.slice a2 n2 c2)) := Kx.set BX.out.lt _
        refine bodyPost_ret (v := .tuple #[]) (results_none rfl _ _ _) rfl ⟨rfl, (Kx.of_bw HW.out (by have := HGB.out; have := HBW.out; omega)).trans hk, U, D + p, ⟨vu, _, BX.out.set 1 _, (HU.out.mono HW.out).kx hk HGB.out, H2.out.kx hk HGB.out⟩, ?_, ?_⟩
        · have h9 := HQ.out; simp at h9; omega
        · have h9 := HQ.out; simp at h9; omega
end Go.Proofs.Sky

namespace Go.Proofs.Sky
open Go Go.RowKit Go.Shelf
set_option maxHeartbeats 4000000
set_option maxRecDepth 4000
def rndQ (S P : Int) : Int := if S < 0 then -((2 * -S + P) / 2 / P) else (2 * S + P) / 2 / P
theorem prod_pos (ls : List Int) (h : ∀ x ∈ ls, 1 ≤ x) : ∀ i, 1 ≤ prodI (ls.take i) := by
  intro i
  induction i with
  | zero => simp [prodI]
  | succ i ih =>
    rcases Nat.lt_or_ge i ls.length with h1 | h1
    · rw [prod_take ls i h1]
      have h2 := h _ (getD_mem ls i 0 h1)
      have h3 : 1 * 1 ≤ prodI (ls.take i) * ls.getD i 0 := Int.mul_le_mul ih h2 (by omega) (by omega)
      omega
    · rw [List.take_of_length_le (by omega)]
      rw [List.take_of_length_le h1] at ih
      exact ih
theorem Rounded_main (g base : Nat) (U D N : Int) (nb : Bool) (vl : Value) (ls : List Int) (w : World) (hs : SumAt w g base U D) (hl : RdI w vl ls) (hn : ls.length ≤ 6) (hls : ∀ x ∈ ls, 1 ≤ x ∧ x < 1073741824) (hU : U ≤ 10000000000000000000000000000000000000000000000000000000000000000000000000000000000000000000000000000000000000000000000000000000000000000000000000000000000000000000000000000000000000000000000000000000000000000000000000000000000000000000000000000000000000000000000000000000000000000000000000000000000000000000000000000000000000000000000000000000000000000000000000000000000000000000000000000000000000000) (hD : D ≤ 10000000000000000000000000000000000000000000000000000000000000000000000000000000000000000000000000000000000000000000000000000000000000000000000000000000000000000000000000000000000000000000000000000000000000000000000000000000000000000000000000000000000000000000000000000000000000000000000000000000000000000000000000000000000000000000000000000000000000000000000000000000000000000000000000000000000000000)
    (hnb : nb = decide (U < D)) (hN : N = if nb then D - U else U - D) (hr : (2 * N + prodI ls) / 2 / prodI ls < 4611686018427387904) :
    Calls Try.prog 34 #[.pointer (some ⟨g, 0, none⟩), vl] w fun e w' => e = .returned (.int .i64 (if nb then -((2 * N + prodI ls) / 2 / prodI ls) else (2 * N + prodI ls) / 2 / prodI ls)) ∧ Bw w w' := by
  have HPB := Lib.hid (prod_bd6 ls (fun x hx => by have := hls x hx; omega) hn)
  have HPP := Lib.hid (prod_pos ls (fun x hx => (hls x hx).1))
  have HLS := Lib.hid (fun i hi => hls _ (getD_mem ls i 0 hi))
  have HPT := Lib.hid (prod_take ls)
  have hta : prodI (ls.take ls.length) = prodI ls := by rw [List.take_length]
  have HV := Lib.hid hl
  obtain ⟨ad, cap, rfl⟩ := hl.form
  clear hl hls
  obtain ⟨vu, vd, hB, hu, hd⟩ := hs
  have BX := Lib.hid hB
  have HU := Lib.hid hu
  have HD := Lib.hid hd
  have hU0 := hu.pos
  have hD0 := hd.pos
  clear hB hu hd
  obtain ⟨n, hn9⟩ : ∃ n, n = ls.length := ⟨_, rfl⟩
  rw [← hn9] at HV hta hn ⊢
  have HN := Lib.hid hn9
  clear hn9
  obtain ⟨P, hP⟩ : ∃ P, P = prodI ls := ⟨_, rfl⟩
  have hP1 := HPP.out n
  have hP2 := HPB.out n
  rw [hta] at hP1 hP2
  rw [← hP] at hta hr hP1 hP2 ⊢
  have HTA := Lib.hid hta
  have hN0 : 0 ≤ N ∧ N ≤ 10000000000000000000000000000000000000000000000000000000000000000000000000000000000000000000000000000000000000000000000000000000000000000000000000000000000000000000000000000000000000000000000000000000000000000000000000000000000000000000000000000000000000000000000000000000000000000000000000000000000000000000000000000000000000000000000000000000000000000000000000000000000000000000000000000000000000000 := by
    rw [hN, hnb]
    by_cases h : U < D
    · rw [decide_eq_true h]; simp; omega
    · rw [decide_eq_false h]; simp; omega
  obtain ⟨R, hR⟩ : ∃ R, R = (2 * N + P) / 2 / P := ⟨_, rfl⟩
  rw [← hR] at hr ⊢
  have HRR := Lib.hid hR
  clear hta hP hR
  have W1 := Lib.hid (fun W => wideOf_any 1 W (by decide) (by decide))
  have WO := Lib.hid (fun n W h0 h1 => wideOf_any n W h0 h1)
  have WM := Lib.hid (fun va vb A B ba bb W ha hb h1 h2 => wideMul_any va vb A B ba bb W ha hb h1 h2)
  have WA := Lib.hid (fun va vb A B ba bb W ha hb h1 h2 => wideAdd_any va vb A B ba bb W ha hb h1 h2)
  have WS := Lib.hid (fun va vb A B ba bb W ha hb h1 h2 h3 => wideSub_any va vb A B ba bb W ha hb h1 h2 h3)
  have WD := Lib.hid (fun va A d ba W ha h1 h2 h3 => wideDiv_any va A d ba W ha h1 h2 h3)
  have WL := Lib.hid (fun W h1 h2 => wideLess_any vu vd U D base base W h1 h2 (Int.le_trans hU (by decide)) (Int.le_trans hD (by decide)))
  have WI := Lib.hid (fun va A ba W ha h1 => wideInt_any va A ba W ha h1)
  rw [← hnb] at WL
  unfold NumP31 at W1 WO WM WA WS WD
  have HNB := Lib.hid hnb
  have HNN := Lib.hid hN
  clear hnb hN
  have hcut : n = n := rfl
  clear hcut
  have c0 := BX.out.cell (j := 0) (v := vu) rfl
  have c1 := BX.out.cell (j := 1) (v := vd) rfl
  have dd0 := (Bw.drew (Bw.refl w)).cell' c0
  have dd1 := (Bw.drew (Bw.refl w)).cell' c1
  have HW := Lib.hid (Bw.drew (Bw.refl w))
  replace HU := Lib.hid (HU.out.mono HW.out)
  replace HD := Lib.hid (HD.out.mono HW.out)
  have HWF := Lib.hid (show ∀ X, Bw w X → ∀ i, i < n → ∃ b o, ad = some ⟨b, o, none⟩ ∧ X.cell? ⟨b, o + i, none⟩ = some (.int .i64 (ls.getD i 0)) from fun X hX i hi => by
    obtain ⟨b1, o1, cc, hv1, _, hd1⟩ := (HV.out.mono hX).at (by have := HN.out; omega)
    injection hv1 with i1 i2 i3
    exact ⟨b1, o1, i1, hd1 i (by have := HN.out; omega)⟩)
  cases nb with
  | false =>
    simp only [Bool.false_eq_true, if_false] at HNN ⊢
    have HLE := Lib.hid (show D ≤ U by have := of_decide_eq_false HNB.out.symm; omega)
    go_wp2
    go_region
    go_wp2_with (first | (go_at_call 53; (with_reducible refine Calls.mono (WL.out _ HU.out HD.out) ?_); rintro e_l w_l ⟨rfl, hb9⟩; replace HU := Lib.hid (HU.out.mono hb9); replace HD := Lib.hid (HD.out.mono hb9); replace HW := Lib.hid (HW.out.trans hb9); clear hb9) | (go_at_call 54; (with_reducible refine Calls.mono (WS.out _ _ U D _ _ _ HU.out HD.out (Int.le_trans hU (by decide)) (Int.le_trans hD (by decide)) HLE.out) ?_); rintro e_vn w_vn ⟨⟨vn, rfl, hn9⟩, hb9⟩; have H1 := Lib.hid (hn9.down HW.out.size); replace HW := Lib.hid (HW.out.trans hb9); clear hn9 hb9) | (go_at_call 50; (with_reducible refine Calls.mono (W1.out _) ?_); rintro e_vo w_vo ⟨⟨vo, rfl, hn9⟩, hb9⟩; have H2 := Lib.hid (hn9.down HW.out.size); replace H1 := Lib.hid (H1.out.mono hb9); replace HW := Lib.hid (HW.out.trans hb9); clear hn9 hb9))
    replace H1 := Lib.hid (show Wd _ w.heap.size vn N by rw [HNN.out]; exact H1.out)
    clear c0 c1 dd0 dd1 HU HD BX WL WS W1
    go_loopg [9, 10] n (fun gg s9 s10 wr => ∃ i : Nat, i ≤ n ∧ n - i ≤ gg ∧ s10 = .int .i64 i ∧ Hid (Wd wr w.heap.size s9 (prodI (ls.take i))) ∧ Hid (Wd wr w.heap.size vn N) ∧ Hid (Bw w wr))
    case atStart => exact ⟨0, by omega, by omega, rfl, H2, H1, HW⟩
    case round =>
      clear H1 H2 HW
      obtain ⟨i, hi, hgg, rfl, H2, H1, HW⟩ := hrel
      have hpb := HPB.out i
      by_cases hil : i < n
      · have hiz : (i : Int) < n := by omega
        obtain ⟨b1, o1, rfl, d1⟩ := HWF.out _ HW.out i hil
        have hxb := HLS.out i (by have := HN.out; omega)
        have HP2 := Lib.hid (HPT.out i (by have := HN.out; omega))
        generalize ls.getD i 0 = x at d1 hxb HP2
        have WOx := Lib.hid (fun W => WO.out x W (by omega) (by omega))
        generalize prodI (ls.take i) = p at *
        go_wp2_with (first | (go_at_call 50; (with_reducible refine Calls.mono (WOx.out _) ?_); rintro e_vx w_vx ⟨⟨vx, rfl, hn9⟩, hb9⟩; have H3 := Lib.hid (hn9.down HW.out.size); replace H1 := Lib.hid (H1.out.mono hb9); replace H2 := Lib.hid (H2.out.mono hb9); replace HW := Lib.hid (HW.out.trans hb9); clear hn9 hb9; clear d1) | (go_at_call 51; (with_reducible refine Calls.mono (WM.out _ _ p x _ _ _ H2.out H3.out (Int.le_trans hpb.2 (by decide)) (by omega)) ?_); rintro e_vy w_vy ⟨⟨vy, rfl, hn9⟩, hb9⟩; have H4 := Lib.hid (hn9.down HW.out.size); replace H1 := Lib.hid (H1.out.mono hb9); replace HW := Lib.hid (HW.out.trans hb9); clear hn9 hb9))
        go_roundg (n - (i + 1))
        case measure => omega
        case rel => exact ⟨i + 1, by omega, by omega, by go_num, Lib.hid (by rw [HP2.out]; exact H4.out), H1, HW⟩
      · obtain rfl : i = n := by omega
        have hiz : ¬ (i : Int) < i := by omega
        replace H2 := Lib.hid (HTA.out ▸ H2.out)
        go_wp2_with (first | (go_at_call 52; (with_reducible refine Calls.mono (WA.out _ _ N N _ _ _ H1.out H1.out (Int.le_trans hN0.2 (by decide)) (Int.le_trans hN0.2 (by decide))) ?_); rintro e_va w_va ⟨⟨va, rfl, hn9⟩, hb9⟩; have H3 := Lib.hid (hn9.down HW.out.size); replace H2 := Lib.hid (H2.out.mono hb9); replace HW := Lib.hid (HW.out.trans hb9); clear hn9 hb9) | (go_at_call 52; (with_reducible refine Calls.mono (WA.out _ _ (N + N) P _ _ _ H3.out H2.out (by omega) (Int.le_trans hP2.2 (by decide))) ?_); rintro e_vb w_vb ⟨⟨vb, rfl, hn9⟩, hb9⟩; have H4 := Lib.hid (hn9.down HW.out.size); replace HW := Lib.hid (HW.out.trans hb9); clear hn9 hb9) | (go_at_call 55; (with_reducible refine Calls.mono (WD.out _ (N + N + P) 2 _ _ H4.out (by omega) (by decide) (by decide)) ?_); rintro e_vc w_vc ⟨⟨vc, rfl, hn9⟩, hb9⟩; have H5 := Lib.hid (hn9.down HW.out.size); replace HW := Lib.hid (HW.out.trans hb9); clear hn9 hb9))
        replace H5 := Lib.hid (show Wd _ w.heap.size vc ((2 * N + P) / 2) by rw [show 2 * N + P = N + N + P by omega]; exact H5.out)
        clear H1 H2 H3 H4
        go_loopg [8, 11] i (fun gg s8 s11 wr => ∃ k : Nat, k ≤ i ∧ i - k ≤ gg ∧ s11 = .int .i64 k ∧ Hid (Wd wr w.heap.size s8 ((2 * N + P) / 2 / prodI (ls.take k))) ∧ Hid (Bw w wr))
        case atStart => exact ⟨0, by omega, by omega, rfl, Lib.hid (by rw [show prodI (ls.take 0) = 1 from rfl, Int.ediv_one]; exact H5.out), HW⟩
        case round =>
          clear H5 HW
          obtain ⟨k, hk, hgg, rfl, H5, HW⟩ := hrel
          have hpp := HPP.out k
          have hqb : (2 * N + P) / 2 / prodI (ls.take k) ≤ (2 * N + P) / 2 := by
            have h9 := Int.ediv_le_self (prodI (ls.take k)) (show 0 ≤ (2 * N + P) / 2 by omega)
            exact h9
          by_cases hkl : k < i
          · have hkz : (k : Int) < i := by omega
            obtain ⟨b1, o1, rfl, d1⟩ := HWF.out _ HW.out k hkl
            have hxb := HLS.out k (by have := HN.out; omega)
            have HP2 := Lib.hid (show (2 * N + P) / 2 / prodI (ls.take (k + 1)) = (2 * N + P) / 2 / prodI (ls.take k) / ls.getD k 0 by
              rw [HPT.out k (by have := HN.out; omega)]; first | exact (Int.ediv_ediv_of_nonneg (by omega)).symm | exact (Int.ediv_ediv_eq_ediv_mul _ (by omega)).symm)
            generalize ls.getD k 0 = x at d1 hxb HP2
            generalize (2 * N + P) / 2 / prodI (ls.take k) = q at *
            go_wp2_with (go_at_call 55; (with_reducible refine Calls.mono (WD.out _ q x _ _ H5.out (by omega) (by omega) (by omega)) ?_); rintro e_vc2 w_vc2 ⟨⟨vc2, rfl, hn9⟩, hb9⟩; have H6 := Lib.hid (hn9.down HW.out.size); replace HW := Lib.hid (HW.out.trans hb9); clear hn9 hb9; clear d1)
            go_roundg (i - (k + 1))
            case measure => omega
            case rel => exact ⟨k + 1, by omega, by omega, by go_num, Lib.hid (by rw [HP2.out]; exact H6.out), HW⟩
          · obtain rfl : k = i := by omega
            have hkz : ¬ (k : Int) < k := by omega
            replace H5 := Lib.hid (show Wd _ w.heap.size _ R by have h9 := H5.out; rw [HTA.out] at h9; rw [HRR.out]; exact h9)
            have hR0 := H5.out.pos
            go_wp2_with (go_at_call 56; (with_reducible refine Calls.mono (WI.out _ R _ _ H5.out hr) ?_); rintro e_i w_i ⟨rfl, hb9⟩; replace HW := Lib.hid (HW.out.trans hb9); clear hb9)
            go_ret
            exact ⟨rfl, HW.out⟩
  | true =>
    simp only [if_true] at HNN ⊢
    have HLE := Lib.hid (show U ≤ D by have := of_decide_eq_true HNB.out.symm; omega)
    go_wp2
    go_region
    go_wp2_with (first | (go_at_call 53; (with_reducible refine Calls.mono (WL.out _ HU.out HD.out) ?_); rintro e_l w_l ⟨rfl, hb9⟩; replace HU := Lib.hid (HU.out.mono hb9); replace HD := Lib.hid (HD.out.mono hb9); replace HW := Lib.hid (HW.out.trans hb9); clear hb9) | (go_at_call 54; (with_reducible refine Calls.mono (WS.out _ _ D U _ _ _ HD.out HU.out (Int.le_trans hD (by decide)) (Int.le_trans hU (by decide)) HLE.out) ?_); rintro e_vn w_vn ⟨⟨vn, rfl, hn9⟩, hb9⟩; have H1 := Lib.hid (hn9.down HW.out.size); replace HW := Lib.hid (HW.out.trans hb9); clear hn9 hb9) | (go_at_call 50; (with_reducible refine Calls.mono (W1.out _) ?_); rintro e_vo w_vo ⟨⟨vo, rfl, hn9⟩, hb9⟩; have H2 := Lib.hid (hn9.down HW.out.size); replace H1 := Lib.hid (H1.out.mono hb9); replace HW := Lib.hid (HW.out.trans hb9); clear hn9 hb9))
    replace H1 := Lib.hid (show Wd _ w.heap.size vn N by rw [HNN.out]; exact H1.out)
    clear c0 c1 dd0 dd1 HU HD BX WL WS W1
    go_loopg [9, 10] n (fun gg s9 s10 wr => ∃ i : Nat, i ≤ n ∧ n - i ≤ gg ∧ s10 = .int .i64 i ∧ Hid (Wd wr w.heap.size s9 (prodI (ls.take i))) ∧ Hid (Wd wr w.heap.size vn N) ∧ Hid (Bw w wr))
    case atStart => exact ⟨0, by omega, by omega, rfl, H2, H1, HW⟩
    case round =>
      clear H1 H2 HW
      obtain ⟨i, hi, hgg, rfl, H2, H1, HW⟩ := hrel
      have hpb := HPB.out i
      by_cases hil : i < n
      · have hiz : (i : Int) < n := by omega
        obtain ⟨b1, o1, rfl, d1⟩ := HWF.out _ HW.out i hil
        have hxb := HLS.out i (by have := HN.out; omega)
        have HP2 := Lib.hid (HPT.out i (by have := HN.out; omega))
        generalize ls.getD i 0 = x at d1 hxb HP2
        have WOx := Lib.hid (fun W => WO.out x W (by omega) (by omega))
        generalize prodI (ls.take i) = p at *
        go_wp2_with (first | (go_at_call 50; (with_reducible refine Calls.mono (WOx.out _) ?_); rintro e_vx w_vx ⟨⟨vx, rfl, hn9⟩, hb9⟩; have H3 := Lib.hid (hn9.down HW.out.size); replace H1 := Lib.hid (H1.out.mono hb9); replace H2 := Lib.hid (H2.out.mono hb9); replace HW := Lib.hid (HW.out.trans hb9); clear hn9 hb9; clear d1) | (go_at_call 51; (with_reducible refine Calls.mono (WM.out _ _ p x _ _ _ H2.out H3.out (Int.le_trans hpb.2 (by decide)) (by omega)) ?_); rintro e_vy w_vy ⟨⟨vy, rfl, hn9⟩, hb9⟩; have H4 := Lib.hid (hn9.down HW.out.size); replace H1 := Lib.hid (H1.out.mono hb9); replace HW := Lib.hid (HW.out.trans hb9); clear hn9 hb9))
        go_roundg (n - (i + 1))
        case measure => omega
        case rel => exact ⟨i + 1, by omega, by omega, by go_num, Lib.hid (by rw [HP2.out]; exact H4.out), H1, HW⟩
      · obtain rfl : i = n := by omega
        have hiz : ¬ (i : Int) < i := by omega
        replace H2 := Lib.hid (HTA.out ▸ H2.out)
        go_wp2_with (first | (go_at_call 52; (with_reducible refine Calls.mono (WA.out _ _ N N _ _ _ H1.out H1.out (Int.le_trans hN0.2 (by decide)) (Int.le_trans hN0.2 (by decide))) ?_); rintro e_va w_va ⟨⟨va, rfl, hn9⟩, hb9⟩; have H3 := Lib.hid (hn9.down HW.out.size); replace H2 := Lib.hid (H2.out.mono hb9); replace HW := Lib.hid (HW.out.trans hb9); clear hn9 hb9) | (go_at_call 52; (with_reducible refine Calls.mono (WA.out _ _ (N + N) P _ _ _ H3.out H2.out (by omega) (Int.le_trans hP2.2 (by decide))) ?_); rintro e_vb w_vb ⟨⟨vb, rfl, hn9⟩, hb9⟩; have H4 := Lib.hid (hn9.down HW.out.size); replace HW := Lib.hid (HW.out.trans hb9); clear hn9 hb9) | (go_at_call 55; (with_reducible refine Calls.mono (WD.out _ (N + N + P) 2 _ _ H4.out (by omega) (by decide) (by decide)) ?_); rintro e_vc w_vc ⟨⟨vc, rfl, hn9⟩, hb9⟩; have H5 := Lib.hid (hn9.down HW.out.size); replace HW := Lib.hid (HW.out.trans hb9); clear hn9 hb9))
        replace H5 := Lib.hid (show Wd _ w.heap.size vc ((2 * N + P) / 2) by rw [show 2 * N + P = N + N + P by omega]; exact H5.out)
        clear H1 H2 H3 H4
        go_loopg [8, 11] i (fun gg s8 s11 wr => ∃ k : Nat, k ≤ i ∧ i - k ≤ gg ∧ s11 = .int .i64 k ∧ Hid (Wd wr w.heap.size s8 ((2 * N + P) / 2 / prodI (ls.take k))) ∧ Hid (Bw w wr))
        case atStart => exact ⟨0, by omega, by omega, rfl, Lib.hid (by rw [show prodI (ls.take 0) = 1 from rfl, Int.ediv_one]; exact H5.out), HW⟩
        case round =>
          clear H5 HW
          obtain ⟨k, hk, hgg, rfl, H5, HW⟩ := hrel
          have hpp := HPP.out k
          have hqb : (2 * N + P) / 2 / prodI (ls.take k) ≤ (2 * N + P) / 2 := by
            have h9 := Int.ediv_le_self (prodI (ls.take k)) (show 0 ≤ (2 * N + P) / 2 by omega)
            exact h9
          by_cases hkl : k < i
          · have hkz : (k : Int) < i := by omega
            obtain ⟨b1, o1, rfl, d1⟩ := HWF.out _ HW.out k hkl
            have hxb := HLS.out k (by have := HN.out; omega)
            have HP2 := Lib.hid (show (2 * N + P) / 2 / prodI (ls.take (k + 1)) = (2 * N + P) / 2 / prodI (ls.take k) / ls.getD k 0 by
              rw [HPT.out k (by have := HN.out; omega)]; first | exact (Int.ediv_ediv_of_nonneg (by omega)).symm | exact (Int.ediv_ediv_eq_ediv_mul _ (by omega)).symm)
            generalize ls.getD k 0 = x at d1 hxb HP2
            generalize (2 * N + P) / 2 / prodI (ls.take k) = q at *
            go_wp2_with (go_at_call 55; (with_reducible refine Calls.mono (WD.out _ q x _ _ H5.out (by omega) (by omega) (by omega)) ?_); rintro e_vc2 w_vc2 ⟨⟨vc2, rfl, hn9⟩, hb9⟩; have H6 := Lib.hid (hn9.down HW.out.size); replace HW := Lib.hid (HW.out.trans hb9); clear hn9 hb9; clear d1)
            go_roundg (i - (k + 1))
            case measure => omega
            case rel => exact ⟨k + 1, by omega, by omega, by go_num, Lib.hid (by rw [HP2.out]; exact H6.out), HW⟩
          · obtain rfl : k = i := by omega
            have hkz : ¬ (k : Int) < k := by omega
            replace H5 := Lib.hid (show Wd _ w.heap.size _ R by have h9 := H5.out; rw [HTA.out] at h9; rw [HRR.out]; exact h9)
            have hR0 := H5.out.pos
            go_wp2_with (go_at_call 56; (with_reducible refine Calls.mono (WI.out _ R _ _ H5.out hr) ?_); rintro e_i w_i ⟨rfl, hb9⟩; replace HW := Lib.hid (HW.out.trans hb9); clear hb9)
            go_ret
            exact ⟨rfl, HW.out⟩
theorem Rounded_any (g base : Nat) (U D : Int) (vl : Value) (ls : List Int) (w : World) (hs : SumAt w g base U D) (hl : RdI w vl ls) (hn : ls.length ≤ 6) (hls : ∀ x ∈ ls, 1 ≤ x ∧ x < 1073741824) (hU : U ≤ 10000000000000000000000000000000000000000000000000000000000000000000000000000000000000000000000000000000000000000000000000000000000000000000000000000000000000000000000000000000000000000000000000000000000000000000000000000000000000000000000000000000000000000000000000000000000000000000000000000000000000000000000000000000000000000000000000000000000000000000000000000000000000000000000000000000000000000) (hD : D ≤ 10000000000000000000000000000000000000000000000000000000000000000000000000000000000000000000000000000000000000000000000000000000000000000000000000000000000000000000000000000000000000000000000000000000000000000000000000000000000000000000000000000000000000000000000000000000000000000000000000000000000000000000000000000000000000000000000000000000000000000000000000000000000000000000000000000000000000000) (S P : Int) (hS : S = U - D) (hP : P = prodI ls) (hr : (2 * (S.natAbs : Int) + P) / 2 / P < 4611686018427387904) :
    Calls Try.prog 34 #[.pointer (some ⟨g, 0, none⟩), vl] w fun e w' => e = .returned (.int .i64 (rndQ S P)) ∧ Bw w w' := by
  subst hP
  have h := Rounded_main g base U D (S.natAbs : Int) (decide (U < D)) vl ls w hs hl hn hls hU hD rfl (by
    by_cases h : U < D
    · rw [decide_eq_true h]; simp; omega
    · rw [decide_eq_false h]; simp; omega) hr
  unfold rndQ
  by_cases h1 : U < D
  · rw [decide_eq_true h1] at h
    rw [if_pos (by omega)]
    have e : -S = (S.natAbs : Int) := by omega
    rw [e]; simpa using h
  · rw [decide_eq_false h1] at h
    rw [if_neg (by omega)]
    have e : S = (S.natAbs : Int) := by omega
    rw [e]; simpa using h
end Go.Proofs.Sky

namespace Go.Proofs.Sky
def rnd (x : Int) (s : Nat) : Int := if x < 0 then -((2 ^ s / 2 - x) / 2 ^ s) else (x + 2 ^ s / 2) / 2 ^ s
def gq (b : Int) : Int := 2 ^ (b.toNat - 1) - 1
def clampI (x q : Int) : Int := min (max x (-q)) q
def okG (b s : Int) : Bool := decide (2 ≤ b ∧ b ≤ 8 ∧ 0 ≤ s ∧ s ≤ 30)
theorem okG_iff (b s : Int) : okG b s = true ↔ (2 ≤ b ∧ b ≤ 8 ∧ 0 ≤ s ∧ s ≤ 30) := by simp [okG]
theorem okG_not (b s : Int) (h : ¬ (2 ≤ b ∧ b ≤ 8 ∧ 0 ≤ s ∧ s ≤ 30)) : okG b s = false := by simp only [okG, decide_eq_false_iff_not]; exact h
theorem pow_pos' (s : Nat) : (1 : Int) ≤ 2 ^ s := by
  have : (0:Int) < 2 ^ s := Int.pow_pos (by decide)
  omega
theorem pow_le (s n : Nat) (h : s ≤ n) : (2 : Int) ^ s ≤ 2 ^ n := by
  have := Nat.pow_le_pow_right (n := 2) (by decide) h
  exact_mod_cast this
theorem pow30 (s : Nat) (h : s ≤ 30) : (1 : Int) ≤ 2 ^ s ∧ (2 : Int) ^ s ≤ 1073741824 := ⟨pow_pos' s, by have := pow_le s 30 h; simpa using this⟩
theorem gq_bd (b : Int) (h : 2 ≤ b) (h' : b ≤ 8) : 1 ≤ gq b ∧ gq b ≤ 127 := by
  unfold gq
  have h1 := pow_le 1 (b.toNat - 1) (by omega)
  have h2 := pow_le (b.toNat - 1) 7 (by omega)
  simp at h1 h2
  omega
theorem rnd_zero (x : Int) : rnd x 0 = x := by
  unfold rnd
  split <;> simp
theorem rnd_neg (x : Int) (s : Nat) : rnd (-x) s = - rnd x s := by
  unfold rnd
  by_cases h0 : x = 0
  · subst h0
    have h1 := pow_pos' s
    have : (2:Int) ^ s / 2 / 2 ^ s = 0 := Int.ediv_eq_zero_of_lt (by omega) (by omega)
    simp [this]
  · by_cases h : x < 0
    · rw [if_neg (by omega), if_pos h]
      have : -x + 2 ^ s / 2 = 2 ^ s / 2 - x := by omega
      rw [this]; omega
    · rw [if_pos (by omega), if_neg h]
      have : x + 2 ^ s / 2 = 2 ^ s / 2 - -x := by omega
      rw [this]
theorem rnd_pos (x : Int) (s : Nat) (h : 0 ≤ x) : 0 ≤ rnd x s := by
  unfold rnd
  have h1 := pow_pos' s
  rw [if_neg (by omega)]
  exact Int.ediv_nonneg (by omega) (by omega)
theorem rnd_le (x : Int) (s : Nat) (h : 0 ≤ x) : rnd x s ≤ x := by
  unfold rnd
  have h1 := pow_pos' s
  rw [if_neg (by omega)]
  by_cases hs : (2:Int) ^ s = 1
  · rw [hs]; simp
  · by_cases hx : x = 0
    · subst hx
      rw [Int.ediv_eq_zero_of_lt (by omega) (by omega)]; omega
    · have h2 : (2:Int) ^ s / 2 ≤ x * (2 ^ s - 1) := by
        have : (1:Int) * (2 ^ s - 1) ≤ x * (2 ^ s - 1) := Int.mul_le_mul_of_nonneg_right (by omega) (by omega)
        omega
      have h3 : x + 2 ^ s / 2 ≤ x * 2 ^ s := by
        have : x * (2 ^ s - 1) = x * 2 ^ s - x := by rw [Int.mul_sub]; omega
        omega
      exact Int.ediv_le_of_le_mul (by omega) h3
theorem rnd_bd (x : Int) (s : Nat) (h1 : -70368744177664 ≤ x) (h2 : x ≤ 70368744177664) : -70368744177664 ≤ rnd x s ∧ rnd x s ≤ 70368744177664 := by
  by_cases h : 0 ≤ x
  · have := rnd_pos x s h
    have := rnd_le x s h
    omega
  · have h3 := rnd_neg (-x) s
    rw [Int.neg_neg] at h3
    have := rnd_pos (-x) s (by omega)
    have := rnd_le (-x) s (by omega)
    omega
/-- the reference's way to round -/
theorem rnd_ref (x : Int) (s : Nat) (h : 0 ≤ x) (hs : s ≠ 0) : (x + 2 ^ (s - 1)) / 2 ^ s = rnd x s := by
  unfold rnd
  rw [if_neg (by omega)]
  obtain ⟨k, rfl⟩ : ∃ k, s = k + 1 := ⟨s - 1, by omega⟩
  have : (2:Int) ^ (k + 1) / 2 = 2 ^ k := by rw [Int.pow_succ]; omega
  rw [this]; rfl
theorem clampI_ite (r q : Int) (h : 0 ≤ q) : clampI r q = if r < -q then -q else if q < r then q else r := by
  unfold clampI
  split
  · omega
  · split <;> omega
def errG (b s : Int) : Int := if okG b s then 0 else 2
theorem errG_ok (b s : Int) (h : 2 ≤ b ∧ b ≤ 8 ∧ 0 ≤ s ∧ s ≤ 30) : errG b s = 0 := by unfold errG; rw [(okG_iff b s).2 h]; rfl
theorem errG_no (b s : Int) (h : ¬ (2 ≤ b ∧ b ≤ 8 ∧ 0 ≤ s ∧ s ≤ 30)) : errG b s = 2 := by unfold errG; rw [okG_not b s h]; rfl
end Go.Proofs.Sky

namespace Go.Proofs.Sky
/-! chapter 25, plain -/
def fk (a n u c : Int) : Prop := 0 ≤ a ∧ a ≤ 4000 ∧ 1 ≤ n ∧ n ≤ 40 ∧ a + n ≤ 4000 ∧ 1 ≤ u ∧ u ≤ 1000000 ∧ -1000000000000000 ≤ c ∧ c ≤ 1000000000000000
def lowR (n : Int) (g : Bool) : Int := if g then -(2 ^ (n.toNat - 1)) else 0
def highR (n : Int) (g : Bool) : Int := if g then 2 ^ (n.toNat - 1) - 1 else 2 ^ n.toNat - 1
theorem pow40 (s : Nat) (h : s ≤ 40) : (1 : Int) ≤ 2 ^ s ∧ (2 : Int) ^ s ≤ 1099511627776 := ⟨pow_pos' s, by have := pow_le s 40 h; simpa using this⟩
theorem pow_pred (n : Int) (h : 1 ≤ n) : (2 : Int) ^ n.toNat = 2 * 2 ^ (n.toNat - 1) := by
  obtain ⟨k, hk⟩ : ∃ k, n.toNat = k + 1 := ⟨n.toNat - 1, by omega⟩
  rw [hk, Int.pow_succ]; simp; omega
theorem lowR_bd (n : Int) (g : Bool) (h1 : 1 ≤ n) (h2 : n ≤ 40) : -1099511627776 ≤ lowR n g ∧ lowR n g ≤ 0 := by
  have ⟨p1, p2⟩ := pow40 (n.toNat - 1) (by omega)
  unfold lowR; split <;> omega
theorem highR_bd (n : Int) (g : Bool) (h1 : 1 ≤ n) (h2 : n ≤ 40) : 0 ≤ highR n g ∧ highR n g ≤ 1099511627776 := by
  have ⟨p1, p2⟩ := pow40 (n.toNat - 1) (by omega)
  have ⟨p3, p4⟩ := pow40 n.toNat (by omega)
  unfold highR; split <;> omega
/-- the raw number of a value, before the limits -/
def rawN (d u : Int) : Int := if d < 0 then -((2 * -d + u) / (2 * u)) else (2 * d + u) / (2 * u)
theorem div2 (q r u : Int) (hu : 1 ≤ u) (h0 : 0 ≤ r) (h1 : r < u) : (2 * (u * q + r) + u) / (2 * u) = q + if u ≤ 2 * r then 1 else 0 := by
  have e : 2 * (u * q + r) + u = (2 * r + u) + (2 * u) * q := by
    rw [Int.mul_add, ← Int.mul_assoc]; omega
  rw [e, Int.add_mul_ediv_left _ _ (by omega)]
  split
  · have : (2 * r + u) / (2 * u) = 1 := by
      have h3 : (2 * r + u) = (2 * r - u) + 2 * u * 1 := by omega
      rw [h3, Int.add_mul_ediv_left _ _ (by omega), Int.ediv_eq_zero_of_lt (by omega) (by omega)]; rfl
    omega
  · have : (2 * r + u) / (2 * u) = 0 := Int.ediv_eq_zero_of_lt (by omega) (by omega)
    omega
theorem rawN_pos (d u : Int) (hu : 1 ≤ u) (hd : 0 ≤ d) : rawN d u = d / u + if u ≤ 2 * (d % u) then 1 else 0 := by
  unfold rawN; rw [if_neg (by omega)]
  have h := Int.mul_ediv_add_emod d u
  have := div2 (d / u) (d % u) u hu (Int.emod_nonneg _ (by omega)) (Int.emod_lt_of_pos _ (by omega))
  rw [h] at this; exact this
theorem rawN_neg (d u : Int) (hu : 1 ≤ u) (hd : d < 0) : rawN d u = -(-d / u + if u ≤ 2 * (-d % u) then 1 else 0) := by
  have := rawN_pos (-d) u hu (by omega)
  unfold rawN at this ⊢; rw [if_neg (by omega)] at this; rw [if_pos hd, this]
/-- distance: twice the remainder is at most the unit -/
theorem rawN_near (d u : Int) (hu : 1 ≤ u) : 2 * (rawN d u * u - d) ≤ u ∧ 2 * (d - rawN d u * u) ≤ u := by
  by_cases hd : d < 0
  · rw [rawN_neg d u hu hd]
    have h := Int.mul_ediv_add_emod (-d) u
    have h1 := Int.emod_nonneg (-d) (show u ≠ 0 by omega)
    have h2 := Int.emod_lt_of_pos (-d) (show 0 < u by omega)
    rw [Int.neg_mul, Int.add_mul, Int.mul_comm (-d / u) u]
    split <;> omega
  · rw [rawN_pos d u hu (by omega)]
    have h := Int.mul_ediv_add_emod d u
    have h1 := Int.emod_nonneg d (show u ≠ 0 by omega)
    have h2 := Int.emod_lt_of_pos d (show 0 < u by omega)
    rw [Int.add_mul, Int.mul_comm (d / u) u]
    split <;> omega
def inV (v : Int) : Bool := decide (-2000000000000000000 ≤ v ∧ v ≤ 2000000000000000000)
def rawV (u c v : Int) : Int := if inV v then rawN (v - c) u else 0
def rawB (n : Int) (g : Bool) (u c v : Int) : Bool := inV v && decide (lowR n g ≤ rawN (v - c) u ∧ rawN (v - c) u ≤ highR n g)
/-- the bit of a number at a shift -/
def bitN (x : Int) (s : Nat) : Int := x / 2 ^ s % 2
theorem bitN_01 (x : Int) (s : Nat) : bitN x s = 0 ∨ bitN x s = 1 := by unfold bitN; omega
/-- the list with a raw number in the places of the first k bits (of n) from a on -/
def putL (zs : List Int) (a n : Nat) (x : Int) : Nat → List Int
  | 0 => zs
  | k + 1 => (putL zs a n x k).set (a + k) (bitN x (n - 1 - k))
theorem putL_length (zs : List Int) (a n : Nat) (x : Int) (k : Nat) : (putL zs a n x k).length = zs.length := by
  induction k with
  | zero => rfl
  | succ k ih => simp [putL, ih]
theorem putL_get (zs : List Int) (a n : Nat) (x : Int) (k : Nat) (i : Nat) (h : a + k ≤ zs.length) : (putL zs a n x k).getD i 0 = if a ≤ i ∧ i < a + k then bitN x (n - 1 - (i - a)) else zs.getD i 0 := by
  induction k with
  | zero => rw [if_neg (by omega)]; rfl
  | succ k ih =>
    have ih := ih (by omega)
    simp only [putL, List.getD_eq_getElem?_getD] at ih ⊢
    rw [List.getElem?_set]
    by_cases e : a + k = i
    · subst e
      rw [if_pos rfl, if_pos (by rw [putL_length]; omega), if_pos (by omega)]
      simp
    · rw [if_neg e, ih]
      by_cases h2 : a ≤ i ∧ i < a + k
      · rw [if_pos h2, if_pos (by omega)]
      · rw [if_neg h2, if_neg (by omega)]
/-- the number in the first k places from a on -/
def getN (zs : List Int) (a : Nat) : Nat → Int
  | 0 => 0
  | k + 1 => 2 * getN zs a k + zs.getD (a + k) 0
theorem getN_bd (zs : List Int) (a k : Nat) (h : ∀ i, i < k → zs.getD (a + i) 0 = 0 ∨ zs.getD (a + i) 0 = 1) : 0 ≤ getN zs a k ∧ getN zs a k < 2 ^ k := by
  induction k with
  | zero => simp [getN]
  | succ k ih =>
    have := ih (fun i hi => h i (by omega))
    have h2 := h k (by omega)
    rw [getN, Int.pow_succ]; omega
def sgn (n : Int) (g : Bool) (m : Int) : Int := if highR n g < m then m - 2 ^ n.toNat else m
def oksP (zs : List Int) (a n : Nat) : Bool := (List.range n).all fun i => zs.getD (a + i) 0 == 0 || zs.getD (a + i) 0 == 1
theorem oksP_iff (zs : List Int) (a n : Nat) : oksP zs a n = true ↔ ∀ i, i < n → zs.getD (a + i) 0 = 0 ∨ zs.getD (a + i) 0 = 1 := by
  unfold oksP; simp [List.all_eq_true]
theorem oksP_not (zs : List Int) (a n i : Nat) (hi : i < n) (h0 : zs.getD (a + i) 0 ≠ 0) (h1 : zs.getD (a + i) 0 ≠ 1) : oksP zs a n = false := by
  cases h : oksP zs a n with
  | false => rfl
  | true => have := (oksP_iff zs a n).1 h i hi; omega
end Go.Proofs.Sky

namespace Go.Proofs.Sky
structure Fd where
  a : Int
  n : Int
  g : Bool
  u : Int
  c : Int
deriving instance Inhabited for Fd
def okF (a n u c : Int) : Bool := decide (0 ≤ a ∧ a ≤ 4000 ∧ 1 ≤ n ∧ n ≤ 40 ∧ a + n ≤ 4000 ∧ 1 ≤ u ∧ u ≤ 1000000 ∧ -1000000000000000 ≤ c ∧ c ≤ 1000000000000000)
def errF (a n u c : Int) : Int := if okF a n u c then 0 else 2
theorem errF_ok {a n u c : Int} (h : fk a n u c) : errF a n u c = 0 := by unfold fk at h; unfold errF okF; rw [if_pos (by simpa using h)]
theorem errF_no {a n u c : Int} (h : ¬ fk a n u c) : errF a n u c = 2 := by unfold fk at h; unfold errF okF; rw [if_neg (by simpa using h)]
/-- is a place taken by one of the fields? -/
def tk (pre : List Fd) (p : Int) : Bool := pre.any fun h => decide (h.a ≤ p ∧ p < h.a + h.n)
theorem tk_snoc (pre : List Fd) (f : Fd) (p : Int) : tk (pre ++ [f]) p = (tk pre p || decide (f.a ≤ p ∧ p < f.a + f.n)) := by simp [tk]
def dbl (pre : List Fd) (f : Fd) : Bool := (List.range f.n.toNat).any fun y => tk pre (f.a + (y : Int))
theorem dbl_yes (pre : List Fd) (f : Fd) (y : Nat) (hy : y < f.n.toNat) (h : tk pre (f.a + (y : Int)) = true) : dbl pre f = true := List.any_eq_true.2 ⟨y, List.mem_range.2 hy, h⟩
theorem dbl_no (pre : List Fd) (f : Fd) (h : ∀ y, y < f.n.toNat → tk pre (f.a + (y : Int)) = false) : dbl pre f = false := by
  unfold dbl; rw [List.any_eq_false]; intro y hy; simp [h y (List.mem_range.1 hy)]
def layE (pre : List Fd) (f : Fd) (b : Int) : Int := if errF f.a f.n f.u f.c = 0 then (if b < f.a + f.n then 16 else if dbl pre f then 8 else 0) else 2
def lay (b : Int) : List Fd → List Fd → Int × Int
  | _, [] => (0, 0)
  | pre, f :: r => if layE pre f b = 0 then lay b (pre ++ [f]) r else (layE pre f b, pre.length)
def layout (fs : List Fd) (b : Int) : Int × Int := if 100 < fs.length then (4, 100) else lay b [] fs
theorem lay_step (b : Int) (fs : List Fd) (k : Nat) (f : Fd) (hf : fs[k]? = some f) : lay b (fs.take k) (fs.drop k) = if layE (fs.take k) f b = 0 then lay b (fs.take (k + 1)) (fs.drop (k + 1)) else (layE (fs.take k) f b, (k : Int)) := by
  obtain ⟨hk, rfl⟩ := List.getElem?_eq_some_iff.1 hf
  rw [List.drop_eq_getElem_cons hk, lay, List.take_succ_eq_append_getElem hk, List.length_take, Nat.min_eq_left (by omega)]
end Go.Proofs.Sky

namespace Go.Proofs.Sky
open Go Go.RowKit
set_option maxHeartbeats 1000000
def fld (a n : Int) (g : Bool) (u c : Int) : Value := .agg #[.int .i64 a, .int .i64 n, .bool g, .int .i64 u, .int .i64 c]
theorem Check_any (a n : Int) (g : Bool) (u c : Int) (w : World) : Calls Try.prog 67 #[.agg #[.int .i64 a, .int .i64 n, .bool g, .int .i64 u, .int .i64 c]] w fun e w' => e = .returned (.int .i64 (errF a n u c)) ∧ Bw w w' := by
  by_cases h : 0 ≤ a ∧ a ≤ 4000 ∧ 1 ≤ n ∧ n ≤ 40 ∧ a + n ≤ 4000 ∧ 1 ≤ u ∧ u ≤ 1000000 ∧ -1000000000000000 ≤ c ∧ c ≤ 1000000000000000
  · have HE := Lib.hid (show errF a n u c = 0 by unfold errF okF; rw [if_pos (by simpa using h)])
    obtain ⟨h1, h2, h3, h4, h5, h6, h7, h8, h9⟩ := h
    go_enter Try.func67, Try.ntmps67
    go_wp2
    go_ret
    exact ⟨by rw [HE.out]; rfl, (by repeat (first | exact Bw.refl _ | assumption | refine Bw.alloc ?_ _ | refine Bw.drew ?_ | refine Bw.trans ?_ (by assumption) | refine Bw.setCell ?_ (by simp; try omega) _))⟩
  · have HE := Lib.hid (show errF a n u c = 2 by unfold errF okF; rw [if_neg (by simpa using h)])
    have HN := Lib.hid h; clear h
    go_enter Try.func67, Try.ntmps67
    go_wp2
    all_goals first | (exfalso; have h := HN.out; omega) | (go_ret; exact ⟨by rw [HE.out]; rfl, (by repeat (first | exact Bw.refl _ | assumption | refine Bw.alloc ?_ _ | refine Bw.drew ?_ | refine Bw.trans ?_ (by assumption) | refine Bw.setCell ?_ (by simp; try omega) _))⟩)
end Go.Proofs.Sky

namespace Go.Proofs.Sky
open Go Go.RowKit Go.Shelf
attribute [local go_sem] Oper.semAt_some
set_option maxHeartbeats 1000000
theorem places_any (a n : Int) (g : Bool) (u c : Int) (w : World) : Calls Try.prog 68 #[.agg #[.int .i64 a, .int .i64 n, .bool g, .int .i64 u, .int .i64 c]] w fun e w' => e = .returned (.func (.func 72) #[] #[.pointer (some ⟨w.heap.size, 0, none⟩)]) ∧ w' = w.alloc (.cells #[.int .i64 a, .int .i64 n, .bool g, .int .i64 u, .int .i64 c] 92) := by
  go_enter Try.func68, Try.ntmps68
  go_wp2
  go_ret
  exact ⟨rfl, rfl⟩
def cl (N x : Nat) : Nat := min x (N - 1)
theorem cl_lt (N x : Nat) (h : 0 < N) : cl N x < N := by unfold cl; omega
theorem cl_of (N x : Nat) (h : x < N) : cl N x = x := by unfold cl; omega
def encP (a : Int) (N : Nat) (x : Nat) : Array Value := #[.int .i64 (a + cl N x), .int .i64 (N - 1 - cl N x)]
set_option maxRecDepth 100000 in
set_option maxHeartbeats 2000000 in
theorem places_stops (a : Int) (N : Nat) (ha : 0 ≤ a) (ha2 : a ≤ 4000) (hN : N ≤ 40) (B : Nat) (w : World) (hB : B < w.heap.size) (c0 : w.cell? ⟨B, 0, none⟩ = some (.int .i64 a)) (c1 : w.cell? ⟨B, 1, none⟩ = some (.int .i64 N)) :
    SeqStopsK Fence.wide 9 Try.prog 72 #[.pointer (some ⟨B, 0, none⟩)] (encP a N) (KpB B) (fun xs => xs = List.range N) (fun pre => ∃ k, k ≤ N ∧ pre = List.range k) N w := fun l J Jx W hW _ _ hY h0 => by
  have d0 := (hW.cell (p := ⟨B, 0, none⟩) hB).trans c0
  have d1 := (hW.cell (p := ⟨B, 1, none⟩) hB).trans c1
  refine callsIn_of_wp Try.func72 rfl trivial ?_ rfl
  simp only [Try.ntmps72, List.size_toArray, List.length_cons, List.length_nil, Nat.reduceAdd, Nat.reduceSub, Array.replicate_succ, Array.replicate_zero, List.push_toArray, List.append_toArray, List.nil_append, List.cons_append]
  have hY' := hY; clear hY
  gi_wp2
  gi_loopw [6] (fun i wr => ∃ k : Nat, k ≤ N ∧ i = .int .i64 k ∧ J (List.range k) wr ∧ KpB B W wr) (fun i _ => N - (intOf i).toNat)
  case atStart => exact ⟨0, Nat.zero_le _, rfl, h0, fun _ => rfl⟩
  case round =>
    obtain ⟨k, hk, rfl, hJs, hkp⟩ := hrel
    have e0 := (hkp 0).trans d0
    have e1 := (hkp 1).trans d1
    by_cases hlt : k < N
    · obtain ⟨fn, tmps, assign, body, hy, hR⟩ := hY' _ k wr hJs (by simpa using hlt)
      unfold encP at hy
      rw [cl_of N k hlt] at hy
      have hlti : (k : Int) < N := by omega
      gi_wp2
      refine hR.mono ?_
      rintro e W3 (⟨rfl, hJ3, hk3⟩ | ⟨rfl, hJx3⟩)
      · gi_wp2
        go_roundw
        case rel => exact ⟨k + 1, by omega, by go_num, by rw [List.range_succ]; exact hJ3, kpB_t hkp hk3⟩
        case measure => simp [intOf]; omega
      · gi_wp2
        refine bodyPost_ret (results_none rfl _ _ _) rfl ?_
        exact ⟨⟨_, rfl⟩, .inr ⟨_, ⟨k + 1, by omega, List.range_succ.symm⟩, hJx3⟩⟩
    · obtain rfl : k = N := by omega
      gi_wp2
      go_end0
      exact ⟨⟨_, rfl⟩, .inl ⟨_, rfl, hJs⟩⟩
end Go.Proofs.Sky

namespace Go.Proofs.Sky
open Go Go.RowKit Go.Shelf
attribute [local go_sem] Oper.semAt_some
set_option maxHeartbeats 1000000
theorem map_cl (N : Nat) : ∀ k, k ≤ N → (List.range k).map (cl N) = List.range k := by
  intro k hk
  conv => rhs; rw [← List.map_id (List.range k)]
  apply List.map_congr_left
  intro x hx
  exact cl_of N x (by have := List.mem_range.1 hx; omega)
theorem range_places {g : Operand} {ps : Array Tmp} {assign body : Code} {Q : Exit → Act → World → Prop} {act : Act} {w : World} (a : Int) (N : Nat) (ha : 0 ≤ a) (ha2 : a ≤ 4000) (hN0 : 0 < N) (hN : N ≤ 40) (B : Nat) (hB : B < w.heap.size)
    (c0 : w.cell? ⟨B, 0, none⟩ = some (.int .i64 a)) (c1 : w.cell? ⟨B, 1, none⟩ = some (.int .i64 N)) (hg : act.eval g = .func (.func 72) #[] #[.pointer (some ⟨B, 0, none⟩)]) (hps : ps.size = 2)
    (I : List Nat → World → Prop) (Ix : Code → List Nat → World → Prop) (hI : OwnFrom w.heap.size I) (hIx : ∀ c, OwnFrom w.heap.size (Ix c)) (h0 : I [] w) (ups : Nat → List (Nat × Value))
    (hassign : ∀ (l : Nat) (y : Nat) (W : World) (K : Act → World → Prop), K { tmps := (ups y).foldl (fun t p => t.setIfInBounds p.1 p.2) act.tmps, defers := [] } W →
      assign.wpIn (Fence.wide.inRound l) 8 Try.prog (Exit.then K (fun _ _ _ => False)) { tmps := (ps.zip #[.int .i64 (a + y), .int .i64 (N - 1 - y)]).foldl (fun t (p, v) => t.setIfInBounds p v) act.tmps, defers := [] } W)
    (hbody : ∀ (l : Nat) (pre : List Nat) (y : Nat) (W : World), y < N → pre.length < N → I pre W → body.wpIn (Fence.wide.inRound l) 8 Try.prog (ownPostG w.heap.size (KpB B) I Ix (pre ++ [y]) W) { tmps := (ups y).foldl (fun t p => t.setIfInBounds p.1 p.2) act.tmps, defers := [] } W)
    (hdone : ∀ (D : Nat) (W : World), w.heap.size ≤ D → I (List.range N) W → W.heap[D]? = some (.deferred (some [])) → Q .normal { act with defers := mk D :: act.defers } W)
    (hstop : ∀ (D : Nat) (c : Code) (k : Nat) (W : World), w.heap.size ≤ D → k ≤ N → Ix c (List.range k) W → W.heap[D]? = some (.deferred (some [])) → c.wp Try.prog Q { act with defers := mk D :: act.defers } W) :
    (Code.rangeFunc g ps assign body).wp Try.prog Q act w := by
  refine wp_rangeFunc hg (enters_of Try.func72 (by kernel_rfl) rfl) (places_stops a N ha ha2 hN B w hB c0 c1) kpB_t (kpB_b hB) (fun _ => hps.symm) (fun pre W => I (pre.map (cl N)) W) (fun c pre W => Ix c (pre.map (cl N)) W)
    (fun s W W' row hs hg hr => hI _ W W' row hs hg hr) (fun c s W W' row hs hg hr => hIx c _ W W' row hs hg hr) h0 (fun x => { tmps := (ups (cl N x)).foldl (fun t p => t.setIfInBounds p.1 p.2) act.tmps, defers := [] })
    (fun l x W K hK => hassign l (cl N x) W K hK) (fun l pre x W hi hl => ?_) (fun D xs W hD hS hi hK => ?_) (fun D c pre W hD hS hi hK => by
      obtain ⟨k, hk, rfl⟩ := hS
      rw [map_cl N k hk] at hi
      exact hstop D c k W hD hk hi hK)
  · refine wpIn_mono (hbody l (pre.map (cl N)) (cl N x) W (cl_lt N x hN0) (by simpa using hl) hi) ?_
    intro e a' W' hp
    have hm : (pre ++ [x]).map (cl N) = pre.map (cl N) ++ [cl N x] := by simp
    cases e with
    | normal => exact ⟨hp.1, hp.2.1, by show I _ _; rw [hm]; exact hp.2.2⟩
    | ret => exact ⟨hp.1, by show Ix _ _ _; rw [hm]; exact hp.2⟩
    | exit id => exact ⟨hp.1, by show Ix _ _ _; rw [hm]; exact hp.2⟩
    | goto t => exact ⟨hp.1, by show Ix _ _ _; rw [hm]; exact hp.2⟩
    | panic ch => exact hp.elim
    | outgrown => exact hp.elim
  · subst hS
    rw [map_cl N N (Nat.le_refl _)] at hi
    exact hdone D W hD hi hK
theorem cellK {W W' : World} {row : Option Nat} {p : Addr} {v : Value} {B : Nat} (h : W.cell? p = some v) (hg : W.grownBy W' row) (hr : ∀ r, row = some r → B ≤ r ∧ ∃ o : Obj, W.heap[r]? = some o ∧ o.isCells = false) : W'.cell? p = some v := cell_kept h hg (fun r e => (hr r e).2)
theorem frozenK {W W' : World} {row : Option Nat} {p : Addr} {v : Value} {B : Nat} {b : Bool} (h : W.cell? p = some v) (hf : W.frozen? p = b) (hg : W.grownBy W' row) (hr : ∀ r, row = some r → B ≤ r ∧ ∃ o : Obj, W.heap[r]? = some o ∧ o.isCells = false) : W'.frozen? p = b := (frozen_kept h hg (fun r e => (hr r e).2)).trans hf
theorem bwK {w W W' : World} {row : Option Nat} {B : Nat} (h : Bw w W) (hB : w.heap.size ≤ B) (hg : W.grownBy W' row) (hr : ∀ r, row = some r → B ≤ r ∧ ∃ o : Obj, W.heap[r]? = some o ∧ o.isCells = false) : Bw w W' :=
  Below.grown h hg h.size (fun k e => Nat.le_trans hB (hr k e).1)
end Go.Proofs.Sky
