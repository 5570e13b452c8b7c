/-
  lemmas for the theorems of this claim. No conditions beyond those written in the statements.
-/
import Derived.Test.YtmfiiocadhdhaaaN26
import Derived.Test.YtmfiiocadhdhaaaSG26
import Derived.Test.YtmfiiocadhdhaaaVA26
import Derived.Deep.MidRow
import Derived.Deep.Cut
set_option linter.unusedVariables false
set_option linter.unusedSimpArgs false
set_option linter.unnecessarySimpa false
namespace Go.Proofs.Sky
open Go Go.RowKit Go.Shelf
set_option maxHeartbeats 4000000
set_option maxRecDepth 8000
/-! chapter 26: parts of EphemKnown -/
def ftB (t : Int) : Bool := fitE (plE 7) t && (errFt (plE 7) t == 0)
theorem ftB_at : ftB 7300 = true ∧ ftB 597700 = true ∧ ftB 597699 = false ∧ ftB 604800 = false := by decide
theorem fits_any (t : Int) (w : World) : Calls Try.prog 24 #[.int .i64 t] w fun e w' => e = .returned (.bool (ftB t)) ∧ Bw w w' := by
  have PL := Lib.hid (fun W => plain_any 7 W)
  have FT := Lib.hid (fun W => EFits_any (plE 7) t W)
  have HB := Lib.hid (show ftB t = (fitE (plE 7) t && (errFt (plE 7) t == 0)) from rfl)
  generalize ftB t = S at *
  generalize eV (plE 7) = A at *
  generalize fitE (plE 7) t = B at *
  generalize errFt (plE 7) t = F at *
  cases B with
  | false =>
    have HG := Lib.hid (show false = S from HB.out.symm)
    go_enter Try.func24, Try.ntmps24
    go_wp2_with (first | (go_at_call 23; (with_reducible refine Calls.mono (PL.out _) ?_); rintro e1 w1 ⟨rfl, hb1⟩) | (go_at_call 9; (with_reducible refine Calls.mono (FT.out _) ?_); rintro e1 w2 ⟨rfl, hb2⟩))
    go_ret
    exact ⟨ret_bool HG.out, hb1.trans hb2⟩
  | true =>
    have HG := Lib.hid (show (F == 0) = S from HB.out.symm)
    go_enter Try.func24, Try.ntmps24
    go_wp2_with (first | (go_at_call 23; (with_reducible refine Calls.mono (PL.out _) ?_); rintro e1 w1 ⟨rfl, hb1⟩) | (go_at_call 9; (with_reducible refine Calls.mono (FT.out _) ?_); rintro e1 w2 ⟨rfl, hb2⟩))
    go_ret
    exact ⟨ret_bool HG.out, hb1.trans hb2⟩
def badE (k : Nat) : Nat → Int := fun i => ([[0, 0, 1, 0, 0, 0, 0, 0, 0, 0, 0, 0, 0, 0, 0, 0, 0, 0, 0], [64, 0, 0, 0, 0, 0, 0, 0, 0, 0, 0, 0, 0, 0, 0, 0, 0, 0, 0], [1, 0, 604800, 0, 0, 0, 0, 0, 0, 0, 0, 0, 0, 0, 0, 0, 0, 0, 0], [1, 0, 0, 0, 0, 0, 32768, 0, 0, 0, 0, 0, 0, 0, 0, 0, 0, 0, 0], [1, 256, 0, 0, 0, 0, 0, 0, 0, 0, 0, 0, 0, 0, 0, 0, 0, 0, 0], [1, 0, 0, -1, 0, 0, 0, 0, 0, 0, 0, 0, 0, 0, 0, 0, 0, 0, 0]].getD k []).getD i 0
theorem bad_err : ∀ k, k < 6 → errE (badE k) = 2 := by decide
def bigV : Array Value := #[.int .i64 0, .int .i64 0, .int .i64 1, .int .i64 0, .int .i64 0, .int .i64 0, .int .i64 0, .int .i64 0, .int .i64 0, .int .i64 0, .int .i64 0, .int .i64 0, .int .i64 0, .int .i64 0, .int .i64 0, .int .i64 0, .int .i64 0, .int .i64 0, .int .i64 0, .int .i64 64, .int .i64 0, .int .i64 0, .int .i64 0, .int .i64 0, .int .i64 0, .int .i64 0, .int .i64 0, .int .i64 0, .int .i64 0, .int .i64 0, .int .i64 0, .int .i64 0, .int .i64 0, .int .i64 0, .int .i64 0, .int .i64 0, .int .i64 0, .int .i64 0, .int .i64 1, .int .i64 0, .int .i64 604800, .int .i64 0, .int .i64 0, .int .i64 0, .int .i64 0, .int .i64 0, .int .i64 0, .int .i64 0, .int .i64 0, .int .i64 0, .int .i64 0, .int .i64 0, .int .i64 0, .int .i64 0, .int .i64 0, .int .i64 0, .int .i64 0, .int .i64 1, .int .i64 0, .int .i64 0, .int .i64 0, .int .i64 0, .int .i64 0, .int .i64 32768, .int .i64 0, .int .i64 0, .int .i64 0, .int .i64 0, .int .i64 0, .int .i64 0, .int .i64 0, .int .i64 0, .int .i64 0, .int .i64 0, .int .i64 0, .int .i64 0, .int .i64 1, .int .i64 256, .int .i64 0, .int .i64 0, .int .i64 0, .int .i64 0, .int .i64 0, .int .i64 0, .int .i64 0, .int .i64 0, .int .i64 0, .int .i64 0, .int .i64 0, .int .i64 0, .int .i64 0, .int .i64 0, .int .i64 0, .int .i64 0, .int .i64 0, .int .i64 1, .int .i64 0, .int .i64 0, .int .i64 (-1), .int .i64 0, .int .i64 0, .int .i64 0, .int .i64 0, .int .i64 0, .int .i64 0, .int .i64 0, .int .i64 0, .int .i64 0, .int .i64 0, .int .i64 0, .int .i64 0, .int .i64 0, .int .i64 0, .int .i64 0]
theorem bad_range (W : World) (b : Nat) (hB : Blk W b 25 bigV) (k : Nat) (hk : k < 6) : W.rangeAt b (k * 19) (eV (badE k)).toList := by
  intro j v h
  have hj : j < 19 := by
    have h9 := (List.getElem?_eq_some_iff.1 h).1
    exact h9
  have hc : bigV[k * 19 + j]? = some v := by
    rw [← h]
    rcases (by omega : k = 0 ∨ k = 1 ∨ k = 2 ∨ k = 3 ∨ k = 4 ∨ k = 5) with rfl | rfl | rfl | rfl | rfl | rfl
    · match j, hj with
      | 0, _ => rfl
      | 1, _ => rfl
      | 2, _ => rfl
      | 3, _ => rfl
      | 4, _ => rfl
      | 5, _ => rfl
      | 6, _ => rfl
      | 7, _ => rfl
      | 8, _ => rfl
      | 9, _ => rfl
      | 10, _ => rfl
      | 11, _ => rfl
      | 12, _ => rfl
      | 13, _ => rfl
      | 14, _ => rfl
      | 15, _ => rfl
      | 16, _ => rfl
      | 17, _ => rfl
      | 18, _ => rfl
      | n + 19, h => exact absurd h (by omega)
    · match j, hj with
      | 0, _ => rfl
      | 1, _ => rfl
      | 2, _ => rfl
      | 3, _ => rfl
      | 4, _ => rfl
      | 5, _ => rfl
      | 6, _ => rfl
      | 7, _ => rfl
      | 8, _ => rfl
      | 9, _ => rfl
      | 10, _ => rfl
      | 11, _ => rfl
      | 12, _ => rfl
      | 13, _ => rfl
      | 14, _ => rfl
      | 15, _ => rfl
      | 16, _ => rfl
      | 17, _ => rfl
      | 18, _ => rfl
      | n + 19, h => exact absurd h (by omega)
    · match j, hj with
      | 0, _ => rfl
      | 1, _ => rfl
      | 2, _ => rfl
      | 3, _ => rfl
      | 4, _ => rfl
      | 5, _ => rfl
      | 6, _ => rfl
      | 7, _ => rfl
      | 8, _ => rfl
      | 9, _ => rfl
      | 10, _ => rfl
      | 11, _ => rfl
      | 12, _ => rfl
      | 13, _ => rfl
      | 14, _ => rfl
      | 15, _ => rfl
      | 16, _ => rfl
      | 17, _ => rfl
      | 18, _ => rfl
      | n + 19, h => exact absurd h (by omega)
    · match j, hj with
      | 0, _ => rfl
      | 1, _ => rfl
      | 2, _ => rfl
      | 3, _ => rfl
      | 4, _ => rfl
      | 5, _ => rfl
      | 6, _ => rfl
      | 7, _ => rfl
      | 8, _ => rfl
      | 9, _ => rfl
      | 10, _ => rfl
      | 11, _ => rfl
      | 12, _ => rfl
      | 13, _ => rfl
      | 14, _ => rfl
      | 15, _ => rfl
      | 16, _ => rfl
      | 17, _ => rfl
      | 18, _ => rfl
      | n + 19, h => exact absurd h (by omega)
    · match j, hj with
      | 0, _ => rfl
      | 1, _ => rfl
      | 2, _ => rfl
      | 3, _ => rfl
      | 4, _ => rfl
      | 5, _ => rfl
      | 6, _ => rfl
      | 7, _ => rfl
      | 8, _ => rfl
      | 9, _ => rfl
      | 10, _ => rfl
      | 11, _ => rfl
      | 12, _ => rfl
      | 13, _ => rfl
      | 14, _ => rfl
      | 15, _ => rfl
      | 16, _ => rfl
      | 17, _ => rfl
      | 18, _ => rfl
      | n + 19, h => exact absurd h (by omega)
    · match j, hj with
      | 0, _ => rfl
      | 1, _ => rfl
      | 2, _ => rfl
      | 3, _ => rfl
      | 4, _ => rfl
      | 5, _ => rfl
      | 6, _ => rfl
      | 7, _ => rfl
      | 8, _ => rfl
      | 9, _ => rfl
      | 10, _ => rfl
      | 11, _ => rfl
      | 12, _ => rfl
      | 13, _ => rfl
      | 14, _ => rfl
      | 15, _ => rfl
      | 16, _ => rfl
      | 17, _ => rfl
      | 18, _ => rfl
      | n + 19, h => exact absurd h (by omega)
  exact hB.cell hc
/-- where the ones of the first frame are -/
def onesL : List Int := [5, 6, 7, 13, 27, 28, 31]
def cntO : Nat → Nat
  | 0 => 0
  | i + 1 => cntO i + if (FrE (plE 7) 0).getD i 0 = 1 then 1 else 0
def onesB : Bool := (List.range 206).all fun i => decide ((FrE (plE 7) 0).getD i 0 = 1 → cntO i < 7 ∧ onesL.getD (cntO i) 0 = (i : Int))
theorem ones_ok : onesB = true := by kernel_rfl
theorem ones_at {i : Nat} (hi : i < 206) (h : (FrE (plE 7) 0).getD i 0 = 1) : cntO i < 7 ∧ onesL.getD (cntO i) 0 = (i : Int) := of_decide_eq_true (List.all_eq_true.1 ones_ok i (List.mem_range.2 hi)) h
theorem ones_end : cntO 206 = 7 := by kernel_rfl
theorem pl_ok (n : Int) (h : 0 ≤ n ∧ n ≤ 255) : errE (plE n) = 0 := by
  refine errE_yes ?_ (fun i hi => ?_) (fun i hi => ?_)
  · show 1 ≤ (1 : Int) ∧ (1 : Int) ≤ 63 ∧ 0 ≤ n ∧ n ≤ 255 ∧ (0 : Int) ≤ 100 ∧ (100 : Int) ≤ 604799 ∧ (0 : Int) ≤ 0 ∧ (0 : Int) ≤ 65535
    omega
  · rcases (by omega : i = 0 ∨ i = 1 ∨ i = 2) with rfl | rfl | rfl
    · exact (by decide : okZ 32 0 = true)
    · exact (by decide : okZ 24 0 = true)
    · exact (by decide : okZ 16 0 = true)
  · rcases (by omega : i = 0 ∨ i = 1 ∨ i = 2 ∨ i = 3) with rfl | rfl | rfl | rfl
    · exact (by decide : okZ 32 0 = true ∧ okZ 32 0 = true ∧ okZ 32 0 = true)
    · exact (by decide : okZ 24 0 = true ∧ okZ 24 0 = true ∧ okZ 24 0 = true)
    · exact (by decide : okZ 22 0 = true ∧ okZ 22 0 = true ∧ okZ 22 0 = true)
    · exact (by decide : okZ 24 0 = true ∧ okZ 24 0 = true ∧ okZ 24 0 = true)
/-- the examples' frames -/
def pG (n tow : Int) (d : Value) (k : Nat) : Fr := ⟨(tow + k) % 131072, (k : Int) + 1, d, FrE (plE n) k⟩
theorem read_e (a b c : Value) : (readR [pG 7 131071 a 0, pG 7 131071 b 1, pG 8 5 c 2]).2 = 18 := by kernel_rfl
theorem read_f (a b c : Value) : (readR [pG 7 131071 a 0, pG 7 131071 b 0, pG 7 131071 c 1]).2 = 18 := by kernel_rfl
theorem read_g (a b : Value) : (readR [pG 7 131071 a 0, pG 7 131071 b 1]).2 = 3 := by kernel_rfl
theorem read_err {fs : List Fr} (h : (readR fs).2 ≠ 0) : eV (readR fs).1 = eV zE := by
  unfold readR at h ⊢
  split
  · split
    · rename_i h1 h2
      rw [if_pos h1, if_pos h2] at h
      exact absurd rfl h
    · rfl
  · rfl
end Go.Proofs.Sky

namespace Go.Proofs.Sky
open Go Go.RowKit Go.Shelf
set_option maxHeartbeats 4000000
set_option maxRecDepth 8000
/-! chapter 26: EphemKnown's three readings that fail -/
theorem row3_two {W : World} {gf cap : Nat} {X : Nat → Int} {tm : Nat → Int} {D : Nat → Value} (h : Row3 W gf X tm D) (hc : 3 ≤ cap ∧ cap ≤ 9223372036854775807) : RdFr W (.slice (some ⟨gf, 0, none⟩) 2 cap) [⟨tm 0, 1, D 0, FrE X 0⟩, ⟨tm 1, 2, D 1, FrE X 1⟩] := by
  have h0 := h.c 0 (by omega)
  have h1 := h.c 1 (by omega)
  refine ⟨by simp, fun f hf => ?_, _, cap, rfl, by simp; omega, hc.2, .inr ⟨gf, 0, rfl, lt_of_cell h0.1, fun i f hi => ?_⟩⟩
  · simp only [List.mem_cons, List.not_mem_nil, or_false] at hf
    rcases hf with rfl | rfl
    · exact h.d 0 (by omega)
    · exact h.d 1 (by omega)
  · match i, hi with
    | 0, hi => obtain rfl := Option.some.inj hi; exact ⟨h0.1, h0.2.1, h0.2.2⟩
    | 1, hi => obtain rfl := Option.some.inj hi; exact ⟨h1.1, h1.2.1, h1.2.2⟩
    | i + 2, hi => simp at hi
theorem read_bad {fs : List Fr} {er : Int} {v : Value} {W : World} (h : RdFr W v fs) (he : (readR fs).2 = er) (h0 : er ≠ 0) : Calls Try.prog 18 #[v] W fun e w' => e = .returned (.tuple #[.agg (eV zE), .int .i64 er]) ∧ Bw W w' := by
  have h9 := ERead_any fs v W h
  rw [read_err (fs := fs) (by rw [he]; exact h0), he] at h9
  exact h9
theorem rd_e (a b c : Value) : (readR [⟨131071, 1, a, FrE (plE 7) 0⟩, ⟨0, 2, b, FrE (plE 7) 1⟩, ⟨7, 3, c, FrE (plE 8) 2⟩]).2 = 18 := by kernel_rfl
theorem rd_f (a b c : Value) : (readR [⟨131071, 1, a, FrE (plE 7) 0⟩, ⟨131071, 1, b, FrE (plE 7) 0⟩, ⟨0, 2, c, FrE (plE 7) 1⟩]).2 = 18 := by kernel_rfl
theorem rd_two (fs : List Fr) (h : fs.length = 2) : (readR fs).2 = 3 := by
  unfold readR
  rw [if_neg (fun h9 => by omega)]
theorem read22 {W : World} {gl gm : Nat} {tl tm : Nat → Int} {Dl Dm : Nat → Value} (HL : Row3 W gl (plE 7) tl Dl) (HM : Row3 W gm (plE 8) tm Dm) (b : Nat) (hB : Blk W b 47 #[.int .i64 131071, .int .i64 1, Dl 0, .int .i64 0, .int .i64 2, Dl 1, .int .i64 7, .int .i64 3, Dm 2]) :
    Calls Try.prog 18 #[.slice (some ⟨b, 0, none⟩) 3 3] W fun e w' => e = .returned (.tuple #[.agg (eV zE), .int .i64 18]) ∧ Bw W w' :=
  read_bad (RdFr.three b 131071 1 0 2 7 3 (Dl 0) (Dl 1) (Dm 2) (FrE (plE 7) 0) (FrE (plE 7) 1) (FrE (plE 8) 2) hB (HL.d 0 (by omega)) (HL.d 1 (by omega)) (HM.d 2 (by omega))) (rd_e _ _ _) (by decide)
theorem read23 {W : World} {gl : Nat} {tl : Nat → Int} {Dl : Nat → Value} (HL : Row3 W gl (plE 7) tl Dl) (b : Nat) (hB : Blk W b 47 #[.int .i64 131071, .int .i64 1, Dl 0, .int .i64 131071, .int .i64 1, Dl 0, .int .i64 0, .int .i64 2, Dl 1]) :
    Calls Try.prog 18 #[.slice (some ⟨b, 0, none⟩) 3 3] W fun e w' => e = .returned (.tuple #[.agg (eV zE), .int .i64 18]) ∧ Bw W w' :=
  read_bad (RdFr.three b 131071 1 131071 1 0 2 (Dl 0) (Dl 0) (Dl 1) (FrE (plE 7) 0) (FrE (plE 7) 0) (FrE (plE 7) 1) hB (HL.d 0 (by omega)) (HL.d 0 (by omega)) (HL.d 1 (by omega))) (rd_f _ _ _) (by decide)
theorem read24 {W : World} {gl cap : Nat} {tl : Nat → Int} {Dl : Nat → Value} (HL : Row3 W gl (plE 7) tl Dl) (hc : 3 ≤ cap ∧ cap ≤ 9223372036854775807) :
    Calls Try.prog 18 #[.slice (some ⟨gl, 0, none⟩) 2 cap] W fun e w' => e = .returned (.tuple #[.agg (eV zE), .int .i64 3]) ∧ Bw W w' :=
  read_bad (row3_two HL hc) (rd_two _ rfl) (by decide)
end Go.Proofs.Sky

namespace Go.Proofs.Sky
open Go Go.RowKit Go.Shelf
set_option maxHeartbeats 4000000
set_option maxRecDepth 8000
/-! chapter 26, plain: EphemMixes -/
theorem errE_parts {x : Nat → Int} (h : errE x = 0) : hdE x ∧ (∀ i, i < 3 → okZ (clB i) (x (4 + i)) = true) ∧ (∀ i, i < 4 → okZ (axB i) (x (7 + i)) = true ∧ okZ (axB i) (x (11 + i)) = true ∧ okZ (axB i) (x (15 + i)) = true) := by
  refine ⟨Classical.byContradiction fun h9 => ?_, fun i hi => ?_, fun i hi => ⟨?_, ?_, ?_⟩⟩
  · rw [errE_hd h9] at h; cases h
  · cases hq : okZ (clB i) (x (4 + i)) with
    | true => rfl
    | false => rw [errE_cl hi hq] at h; cases h
  · cases hq : okZ (axB i) (x (7 + i)) with
    | true => rfl
    | false => rw [errE_ax hi (.inl hq)] at h; cases h
  · cases hq : okZ (axB i) (x (11 + i)) with
    | true => rfl
    | false => rw [errE_ax hi (.inr (.inl hq))] at h; cases h
  · cases hq : okZ (axB i) (x (15 + i)) with
    | true => rfl
    | false => rw [errE_ax hi (.inr (.inr hq))] at h; cases h
/-- x with the number and the issue of y -/
def likeE (x y : Nat → Int) : Nat → Int := fun i => if i < 2 then y i else x i
theorem likeE_ok {x y : Nat → Int} (hx : errE x = 0) (hy : errE y = 0) : errE (likeE x y) = 0 := by
  obtain ⟨h1, h2, h3⟩ := errE_parts hx
  obtain ⟨g1, _, _⟩ := errE_parts hy
  refine errE_yes ?_ (fun i hi => ?_) (fun i hi => ?_)
  · have e0 : likeE x y 0 = y 0 := rfl
    have e1 : likeE x y 1 = y 1 := rfl
    have e2 : likeE x y 2 = x 2 := rfl
    have e3 : likeE x y 3 = x 3 := rfl
    unfold hdE at h1 g1 ⊢
    rw [e0, e1, e2, e3]
    omega
  · have e : likeE x y (4 + i) = x (4 + i) := if_neg (by omega)
    rw [e]; exact h2 i hi
  · have e7 : likeE x y (7 + i) = x (7 + i) := if_neg (by omega)
    have e11 : likeE x y (11 + i) = x (11 + i) := if_neg (by omega)
    have e15 : likeE x y (15 + i) = x (15 + i) := if_neg (by omega)
    rw [e7, e11, e15]; exact h3 i hi
/-- which kinds there are, by the numbers of their ephemerides -/
def hL (L : Nat → Int) : Nat → Bool := fun j => decide (0 ≤ L j)
def yL (E : Nat → Nat → Int) (L : Nat → Int) : Nat → Nat → Int := fun j => E (L j).toNat
/-- whether a frame of another ephemeris comes -/
def resB (E : Nat → Nat → Int) (now : Int) (c : Nat) : Bool := decide (0 ≤ now) && decide (¬ (E c 0 = E now.toNat 0) ∨ ¬ (E c 1 = E now.toNat 1))
def nxL (L : Nat → Int) (r : Bool) (c k : Nat) : Nat → Int := fun j => if j = k then (c : Int) else if r then -1 else L j
structure Mix (E : Nat → Nat → Int) (P : Pm) (L : Nat → Int) (now : Int) : Prop where
  inv : Inv P (hL L) (yL E L) (E now.toNat 1) (E now.toNat 0)
  now0 : anyH (hL L) = true → 0 ≤ now
  lo : ∀ j, j < 3 → -1 ≤ L j ∧ L j < 3
  nlo : -1 ≤ now ∧ now < 3
theorem Mix.zero (E : Nat → Nat → Int) : Mix E zP (fun _ => -1) (-1) :=
  ⟨⟨fun _ _ => rfl, fun _ _ => rfl, fun _ => ⟨rfl, rfl⟩, fun h => (by cases h), fun _ _ h => (by cases h)⟩, fun h => (by cases h), fun _ _ => (by omega), by omega⟩
theorem mix_h {E : Nat → Nat → Int} {P : Pm} {L : Nat → Int} {now : Int} (M : Mix E P L now) (c k : Nat) : ∀ j, j < 3 → newH (hL L) (samH (hL L) (E now.toNat 1) (E now.toNat 0) (E c)) k j = hL (nxL L (resB E now c) c k) j := by
  intro j hj
  unfold newH
  by_cases e : j = k
  · rw [if_pos e]
    show _ = decide (0 ≤ nxL L _ c k j)
    unfold nxL
    rw [if_pos e]
    exact (decide_eq_true (by omega)).symm
  · rw [if_neg e]
    show _ = decide (0 ≤ nxL L _ c k j)
    unfold nxL
    rw [if_neg e]
    cases hh : hL L j with
    | false =>
      rw [Bool.and_false]
      refine (decide_eq_false ?_).symm
      have h9 : ¬ 0 ≤ L j := of_decide_eq_false hh
      split
      · omega
      · exact h9
    | true =>
      have ha := anyH_of hj hh
      have hn := M.now0 ha
      have h9 : 0 ≤ L j := of_decide_eq_true hh
      unfold samH resB
      rw [ha, decide_eq_true hn, Bool.true_and, Bool.true_and, Bool.and_true]
      by_cases hd : E now.toNat 1 = E c 1 ∧ E now.toNat 0 = E c 0
      · have e2 : decide (¬ (E c 0 = E now.toNat 0) ∨ ¬ (E c 1 = E now.toNat 1)) = false := decide_eq_false (by omega)
        rw [decide_eq_true hd, e2]
        exact (decide_eq_true h9).symm
      · have e2 : decide (¬ (E c 0 = E now.toNat 0) ∨ ¬ (E c 1 = E now.toNat 1)) = true := decide_eq_true (by omega)
        rw [decide_eq_false hd, e2]
        rfl
theorem mix_y {E : Nat → Nat → Int} {P : Pm} {L : Nat → Int} {now : Int} (M : Mix E P L now) (c k : Nat) : ∀ j, j < 3 → hL (nxL L (resB E now c) c k) j = true → upN (yL E L) k (E c) j = yL E (nxL L (resB E now c) c k) j := by
  intro j hj hh
  unfold upN yL nxL
  by_cases e : j = k
  · rw [if_pos e, if_pos e]; rfl
  · rw [if_neg e, if_neg e]
    have h9 : 0 ≤ nxL L (resB E now c) c k j := of_decide_eq_true hh
    unfold nxL at h9
    rw [if_neg e] at h9
    cases hr : resB E now c with
    | false => rfl
    | true => rw [hr, if_pos rfl] at h9; omega
theorem Inv.congr2 {p : Pm} {h h' : Nat → Bool} {Y Y' : Nat → Nat → Int} {is pr : Int} (I : Inv p h Y is pr) (hh : ∀ j, j < 3 → h j = h' j) (hY : ∀ j, j < 3 → h' j = true → Y j = Y' j) : Inv p h' Y' is pr := by
  have ha : anyH h = anyH h' := by unfold anyH; rw [hh 0 (by omega), hh 1 (by omega), hh 2 (by omega)]
  refine ⟨fun j hj => (I.hh j hj).trans (hh j hj), fun j hj => ?_, fun h9 => I.no (ha.trans h9), fun h9 => I.yes (ha.trans h9), fun j hj h9 => by rw [← hY j hj h9]; exact I.each j hj ((hh j hj).trans h9)⟩
  rw [I.hz j hj, hh j hj]
  cases h1 : h' j with
  | false => rfl
  | true => rw [hY j hj h1]
theorem mix_add {E : Nat → Nat → Int} {P : Pm} {L : Nat → Int} {now : Int} (M : Mix E P L now) {c k : Nat} (hc : c < 3) (hk : k < 3) (hE : errE (E c) = 0) {t : Int} (ht : 0 ≤ t ∧ t < 131072) :
    (addR P t ((k : Int) + 1) (FrE (E c) k)).2.2.2 = 0 ∧ (addR P t ((k : Int) + 1) (FrE (E c) k)).2.2.1 = allH (hL (nxL L (resB E now c) c k)) ∧
      (allH (hL (nxL L (resB E now c) c k)) = true → eV (addR P t ((k : Int) + 1) (FrE (E c) k)).2.1 = eV (mixE (E (nxL L (resB E now c) c k 0).toNat) (E (nxL L (resB E now c) c k 1).toNat) (E (nxL L (resB E now c) c k 2).toNat)) ∧ (addR P t ((k : Int) + 1) (FrE (E c) k)).1 = zP) ∧
      (allH (hL (nxL L (resB E now c) c k)) = false → Mix E (addR P t ((k : Int) + 1) (FrE (E c) k)).1 (nxL L (resB E now c) c k) c) := by
  obtain ⟨a1, a2, a3, a4⟩ := M.inv.add hE hk ht
  have hn := mix_h M c k
  have hy := mix_y M c k
  have hA : allH (newH (hL L) (samH (hL L) (E now.toNat 1) (E now.toNat 0) (E c)) k) = allH (hL (nxL L (resB E now c) c k)) := by
    unfold allH; rw [hn 0 (by omega), hn 1 (by omega), hn 2 (by omega)]
  rw [hA] at a2 a3 a4
  refine ⟨a1, a2, fun h9 => ?_, fun h9 => ?_⟩
  · obtain ⟨b1, b2⟩ := a3 h9
    have h8 := h9
    unfold allH at h8
    simp only [Bool.and_eq_true] at h8
    rw [hy 0 (by omega) h8.1, hy 1 (by omega) h8.2.1, hy 2 (by omega) h8.2.2] at b1
    exact ⟨b1, b2⟩
  · refine ⟨(a4 h9).2.congr2 hn hy, fun _ => by omega, fun j hj => ?_, by omega⟩
    have h8 := M.lo j hj
    unfold nxL
    split
    · omega
    · split
      · omega
      · exact h8
end Go.Proofs.Sky

namespace Go.Proofs.Sky
open Go Go.RowKit Go.Shelf
set_option maxHeartbeats 4000000
set_option maxRecDepth 8000
/-! chapter 26, plain: the six additions of EphemKnown -/
def kS (i : Nat) : Nat := [0, 1, 2, 0, 2, 1].getD i 0
def xS (i : Nat) : Int := [7, 7, 8, 7, 7, 7].getD i 0
def tS (i : Nat) : Int := [131071, 0, 7, 131071, 1, 0].getD i 0
def pS (i : Nat) : Int := [7, 7, 7, 8, 7, 7, 7].getD i 0
def hS (i : Nat) : Nat → Bool := fun j => ([[false, false, false], [true, false, false], [true, true, false], [false, false, true], [true, false, false], [true, false, true], [false, false, false]].getD i []).getD j false
def StK (i : Nat) (P : Pm) : Prop := Inv P (hS i) (fun _ => plE (pS i)) (pS i) 1
theorem stk_zero : StK 0 zP := ⟨fun j _ => by rcases (by omega : j = 0 ∨ j = 1 ∨ j = 2) with rfl | rfl | rfl <;> rfl, fun j _ => by rcases (by omega : j = 0 ∨ j = 1 ∨ j = 2) with rfl | rfl | rfl <;> rfl, fun _ => ⟨rfl, rfl⟩, fun h => (by cases h), fun j _ h => by
  rcases (by omega : j = 0 ∨ j = 1 ∨ j = 2) with rfl | rfl | rfl <;> cases h⟩
theorem ks_lt : ∀ i, i < 6 → kS i < 3 ∧ 0 ≤ tS i ∧ tS i < 131072 ∧ (xS i = 7 ∨ xS i = 8) := by decide
theorem xs_ok {i : Nat} (hi : i < 6) : errE (plE (xS i)) = 0 := pl_ok _ (by have := (ks_lt i hi).2.2.2; omega)
theorem new_known : ∀ i, i < 6 → ∀ j, j < 3 → newH (hS i) (anyH (hS i) && decide (pS i = xS i)) (kS i) j = if i = 5 then true else hS (i + 1) j := by decide
theorem all_known : ∀ i, i < 6 → allH (newH (hS i) (anyH (hS i) && decide (pS i = xS i)) (kS i)) = decide (i = 5) := by decide
theorem nxt_known : ∀ i, i < 5 → xS i = pS (i + 1) ∧ ∀ j, j < 3 → hS (i + 1) j = true → (j = kS i ∨ pS i = pS (i + 1)) := by decide
theorem sam_known (i : Nat) : samH (hS i) (pS i) 1 (plE (xS i)) = (anyH (hS i) && decide (pS i = xS i)) := by
  unfold samH
  congr 1
  rw [decide_eq_decide]
  show (pS i = xS i ∧ (1 : Int) = 1) ↔ pS i = xS i
  exact ⟨fun h => h.1, fun h => ⟨h, rfl⟩⟩
theorem known_add {i : Nat} (hi : i < 6) {P : Pm} (S : StK i P) :
    (addR P (tS i) ((kS i : Int) + 1) (FrE (plE (xS i)) (kS i))).2.2.2 = 0 ∧ (addR P (tS i) ((kS i : Int) + 1) (FrE (plE (xS i)) (kS i))).2.2.1 = decide (i = 5) ∧
      eV (addR P (tS i) ((kS i : Int) + 1) (FrE (plE (xS i)) (kS i))).2.1 = (if i = 5 then eV (plE 7) else eV zE) ∧ StK (i + 1) (addR P (tS i) ((kS i : Int) + 1) (FrE (plE (xS i)) (kS i))).1 := by
  obtain ⟨k1, k2, k3, _⟩ := ks_lt i hi
  obtain ⟨a1, a2, a3, a4⟩ := Inv.add S (xs_ok hi) k1 ⟨k2, k3⟩
  rw [sam_known, all_known i hi] at a2 a3 a4
  refine ⟨a1, a2, ?_⟩
  by_cases h5 : i = 5
  · subst h5
    obtain ⟨b1, b2⟩ := a3 rfl
    rw [if_pos rfl, b1, b2]
    refine ⟨rfl, ?_⟩
    exact ⟨fun j _ => by rcases (by omega : j = 0 ∨ j = 1 ∨ j = 2) with rfl | rfl | rfl <;> rfl, fun j _ => by rcases (by omega : j = 0 ∨ j = 1 ∨ j = 2) with rfl | rfl | rfl <;> rfl, fun _ => ⟨rfl, rfl⟩, fun h => (by cases h), fun j _ h => by
      rcases (by omega : j = 0 ∨ j = 1 ∨ j = 2) with rfl | rfl | rfl <;> cases h⟩
  · obtain ⟨b1, b2⟩ := a4 (decide_eq_false h5)
    rw [if_neg h5]
    refine ⟨b1, ?_⟩
    obtain ⟨n1, n2⟩ := nxt_known i (by omega)
    have hn := new_known i hi
    have b3 := b2.congr2 (h' := hS (i + 1)) (Y' := fun _ => plE (pS (i + 1))) (fun j hj => by rw [hn j hj, if_neg h5]) (fun j hj hh => by
      unfold upN
      by_cases e : j = kS i
      · rw [if_pos e, n1]
      · rw [if_neg e]
        rcases n2 j hj hh with h9 | h9
        · exact absurd h9 e
        · rw [h9])
    have e1 : plE (xS i) 1 = pS (i + 1) := n1
    have e0 : plE (xS i) 0 = 1 := rfl
    rw [e1, e0] at b3
    exact b3
end Go.Proofs.Sky
