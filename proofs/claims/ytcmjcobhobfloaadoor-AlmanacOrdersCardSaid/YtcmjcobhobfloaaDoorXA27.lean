/-
  lemmas for the theorems of this claim. No conditions beyond those written in the statements.
-/
import Derived.Test.YtcmjcobhobfloaaDoorI27
import Derived.Test.YtcmjcobhobfloaaDoorOA27
import Derived.Test.YtcmjcobhobfloaaDoorMS27
import Derived.Test.YtcmjcobhobfloaaDoorPA27
import Derived.Laws.MakeOwn
import Derived.Deep.Cut
set_option linter.unusedVariables false
set_option linter.unusedSimpArgs false
set_option linter.unnecessarySimpa false
namespace Go.Proofs.Sky
open Go Go.RowKit Go.Shelf
set_option maxHeartbeats 4000000
set_option maxRecDepth 4000
/-! chapter 27, plain: which page any frame is -/
def rv27 (zs : List Int) (i : Nat) : Int := if 3 < i ∧ zs.getD (atN i) 0 = 1 then getN zs (atN i) (nN i) - 2 ^ nN i else getN zs (atN i) (nN i)
theorem getN_head (zs : List Int) (a : Nat) : ∀ k, getN zs a (k + 1) = zs.getD a 0 * 2 ^ k + getN zs (a + 1) k := by
  intro k
  induction k with
  | zero => simp [getN]
  | succ k ih =>
    rw [getN, ih]
    show _ = _ * 2 ^ (k + 1) + (2 * getN zs (a + 1) k + zs.getD (a + 1 + k) 0)
    rw [show a + (k + 1) = a + 1 + k by omega, Int.pow_succ, ← Int.mul_assoc]
    omega
theorem rv27_get (zs : List Int) (i : Nat) (hi : i < 13) (hl : 200 ≤ zs.length) (hb : ∀ p, p < 200 → zs.getD p 0 = 0 ∨ zs.getD p 0 = 1) :
    errT zs (fdS PGL i).a (fdS PGL i).n (fdS PGL i).u (fdS PGL i).c = 0 ∧ getR zs (fdS PGL i).a (fdS PGL i).n (fdS PGL i).g (fdS PGL i).u (fdS PGL i).c = rv27 zs i := by
  have hA := nN_bd i hi
  rw [fdS_at hi]
  dsimp only
  have hfk : fk (atN i : Int) (nN i : Int) 1 0 := by unfold fk; omega
  have hE : errT zs (atN i : Int) (nN i : Int) 1 0 = 0 := by
    unfold errT
    rw [errF_ok hfk, if_pos rfl, if_neg (by omega), if_pos ((oksP_iff _ _ _).2 (fun j hj => ?_))]
    exact hb _ (by omega)
  refine ⟨hE, ?_⟩
  unfold getR
  rw [if_pos hE]
  unfold getV rv27
  rw [Int.toNat_natCast, Int.toNat_natCast, Int.mul_one, Int.zero_add]
  by_cases h7 : 3 < i
  · obtain ⟨m, hm⟩ : ∃ m, nN i = m + 1 := ⟨nN i - 1, by omega⟩
    have e2 := getN_head zs (atN i) m
    have hbd := getN_bd zs (atN i + 1) m (fun j hj => hb _ (by omega))
    have h0 := hb (atN i) (by omega)
    rw [hm]
    simp only [h7, decide_true, sgnV, if_true, true_and]
    unfold sx
    rw [show m + 1 - 1 = m from rfl]
    have e4 : (2 : Int) ^ (m + 1) = 2 * 2 ^ m := by rw [Int.pow_succ, Int.mul_comm]
    rw [e4]
    generalize (2 : Int) ^ m = P at *
    rcases h0 with h0 | h0
    · rw [h0] at e2 ⊢
      rw [if_neg (show ¬ ((0 : Int) = 1) by decide)]
      split <;> omega
    · rw [h0] at e2 ⊢
      rw [if_pos (show (1 : Int) = 1 from rfl)]
      split <;> omega
  · simp only [h7, decide_false, sgnV, Bool.false_eq_true, if_false, false_and]
theorem unR_zero (zs : List Int) : ∀ (fs : List Fd) (i : Nat) (out : List Int), (unR i zs out fs).2.1 = 0 → ∀ f ∈ fs, errT zs f.a f.n f.u f.c = 0 := by
  intro fs
  induction fs with
  | nil => intro i out _ f hf; cases hf
  | cons f r ih =>
    intro i out h g hg
    rw [unR] at h
    by_cases he : errT zs f.a f.n f.u f.c = 0
    · rw [if_pos he] at h
      rcases List.mem_cons.1 hg with rfl | hg
      · exact he
      · exact ih _ _ h g hg
    · rw [if_neg he] at h
      exact absurd h he
def rdGood27 (t k : Int) (zs : List Int) : Prop := k = 4 ∧ 0 ≤ t ∧ t < 131072 ∧ zs.length = 206 ∧ (∀ p, p < 206 → zs.getD p 0 = 0 ∨ (zs.getD p 0 = 1 ∧ p < 200)) ∧ errPg (rv27 zs) = 0
theorem layout27 : layout (fdsS PGL) 206 = (0, 0) := by decide +kernel
theorem unpack27 (zs : List Int) (hl : zs.length = 206) (hb : ∀ p, p < 200 → zs.getD p 0 = 0 ∨ zs.getD p 0 = 1) : unpackR (fdsS PGL) zs = ((List.range 13).map (rv27 zs), (0, 0)) := by
  have h := unR_ok zs (ps27 (rv27 zs)) 0 [] (fun p hp => by
    obtain ⟨i, hi, rfl⟩ := List.mem_map.1 hp
    have hi9 := List.mem_range.1 hi
    have h9 := rv27_get zs i hi9 (by omega) hb
    refine ⟨h9.1, ?_⟩
    rw [h9.2]
    show rv27 zs i = (0 : Int) + rv27 zs i * 1
    omega)
  rw [fs27_eq, vs27_eq, List.nil_append] at h
  unfold unpackR
  rw [hl, show layout (fdsS PGL) ((206 : Nat) : Int) = (0, 0) from layout27, if_pos rfl, h]
theorem at_find : ∀ p, p < 200 → ∃ i, i < 13 ∧ atN i ≤ p ∧ p < atN i + nN i := by decide +kernel
theorem rdOk27_iff (t k : Int) (zs : List Int) : RdOk27 t k zs (unpackR (fdsS PGL) zs).1 (unpackR (fdsS PGL) zs).2.1 (fun i => (unpackR (fdsS PGL) zs).1.getD i 0) ↔ rdGood27 t k zs := by
  unfold RdOk27 rdGood27
  constructor
  · rintro ⟨h1, h2, h3, h4, h5, h6, h7⟩
    have hz : ∀ f ∈ fdsS PGL, errT zs f.a f.n f.u f.c = 0 := by
      unfold unpackR at h5
      rw [h4, show layout (fdsS PGL) ((206 : Nat) : Int) = (0, 0) from layout27, if_pos rfl] at h5
      exact unR_zero zs (fdsS PGL) 0 [] h5
    have hb : ∀ p, p < 200 → zs.getD p 0 = 0 ∨ zs.getD p 0 = 1 := fun p hp => by
      obtain ⟨i, hi, h8, h9⟩ := at_find p hp
      have hm : fdS PGL i ∈ fdsS PGL := List.mem_map.2 ⟨i, List.mem_range.2 hi, rfl⟩
      have he := hz _ hm
      have hA := nN_bd i hi
      rw [fdS_at hi] at he
      dsimp only at he
      have hfk : fk (atN i : Int) (nN i : Int) 1 0 := by unfold fk; omega
      unfold errT at he
      rw [errF_ok hfk, if_pos rfl, if_neg (by omega)] at he
      cases hq : oksP zs (atN i : Int).toNat (nN i : Int).toNat with
      | false => rw [hq] at he; exact absurd he (by decide)
      | true =>
        have h10 := (oksP_iff _ _ _).1 hq (p - atN i) (by omega)
        rw [Int.toNat_natCast, show atN i + (p - atN i) = p by omega] at h10
        exact h10
    rw [unpack27 zs h4 hb] at h6
    dsimp only at h6
    rw [errPg_congr (fun i hi => getD_map13 (rv27 zs) i hi)] at h6
    refine ⟨h1, h2, h3, h4, fun p hp => ?_, h6⟩
    rcases Nat.lt_or_ge p 200 with h | h
    · rcases hb p h with h8 | h8
      · exact .inl h8
      · exact .inr ⟨h8, h⟩
    · left
      have h12 := List.any_eq_false.1 h7 (zs.getD p 0) (by
        rw [List.getD_eq_getElem?_getD, List.getElem?_eq_getElem (by omega), Option.getD_some]
        exact List.mem_iff_getElem.2 ⟨p - 200, by rw [List.length_drop]; omega, by rw [List.getElem_drop]; congr 1; omega⟩)
      simpa using h12
  · rintro ⟨h1, h2, h3, h4, h5, h6⟩
    have hb : ∀ p, p < 200 → zs.getD p 0 = 0 ∨ zs.getD p 0 = 1 := fun p hp => (h5 p (by omega)).imp id (·.1)
    rw [unpack27 zs h4 hb]
    refine ⟨h1, h2, h3, h4, rfl, ?_, ?_⟩
    · dsimp only
      rw [errPg_congr (fun i hi => getD_map13 (rv27 zs) i hi)]; exact h6
    · rw [List.any_eq_false]
      intro d hd
      obtain ⟨j, hj, rfl⟩ := List.mem_iff_getElem.1 hd
      rw [List.length_drop] at hj
      rw [List.getElem_drop]
      have h9 := h5 (200 + j) (by omega)
      rw [List.getD_eq_getElem?_getD, List.getElem?_eq_getElem (by omega), Option.getD_some] at h9
      rcases h9 with h9 | h9
      · rw [h9]; decide
      · omega
theorem AlRead_any (t k : Int) (zs : List Int) (a : Option Addr) (c : Nat) (w : World) (hw : WdAt w) (RX : Nat → Int) (RE : Int) (h : (rdGood27 t k zs ∧ RX = rv27 zs ∧ RE = 0) ∨ (¬ rdGood27 t k zs ∧ RX = (fun _ => 0) ∧ RE = 3)) (hv : RdI w (.slice a zs.length c) zs) (hc : zs.length ≤ c ∧ c ≤ 9223372036854775807) :
    Calls Tryd.prog 25 #[.agg #[.int .i64 t, .int .i64 k, .slice a zs.length c]] w fun e w' => e = .returned (.tuple #[.agg (pgV RX), .int .i64 RE]) ∧ Bw w w' := by
  rcases h with ⟨h, rfl, rfl⟩ | ⟨h, rfl, rfl⟩
  · have h9 := AlRead_main t k zs (unpackR (fdsS PGL) zs).1 (unpackR (fdsS PGL) zs).2.1 (unpackR (fdsS PGL) zs).2.2 a c w hw (fun i => (unpackR (fdsS PGL) zs).1.getD i 0) (fun i => (unpackR (fdsS PGL) zs).1.getD i 0) 0 hv hc rfl (fun _ => rfl) (.inl ⟨(rdOk27_iff t k zs).2 h, rfl, rfl⟩)
    rw [pgV_congr2 (y := rv27 zs) (fun i hi => by rw [unpack27 zs h.2.2.2.1 (fun p hp => (h.2.2.2.2.1 p (by omega)).imp id (·.1))]; exact getD_map13 (rv27 zs) i hi)] at h9
    exact h9
  · exact AlRead_main t k zs (unpackR (fdsS PGL) zs).1 (unpackR (fdsS PGL) zs).2.1 (unpackR (fdsS PGL) zs).2.2 a c w hw (fun i => (unpackR (fdsS PGL) zs).1.getD i 0) (fun _ => 0) 3 hv hc rfl (fun _ => rfl) (.inr ⟨fun h2 => h ((rdOk27_iff t k zs).1 h2), rfl, rfl⟩)
end Go.Proofs.Sky

namespace Go.Proofs.Sky
open Go Go.RowKit Go.Shelf
attribute [local go_sem] Oper.semAt_some
set_option maxHeartbeats 4000000
set_option maxRecDepth 8000
/-! chapter 27: the document's Add -/
theorem take_nextG (ps : List (Nat → Int)) (k : Nat) (h : k < ps.length) : ps.take (k + 1) = ps.take k ++ [ps.getD k fun _ => 0] := by
  rw [List.take_add_one, getD_some h]; rfl
theorem insL_app {l : List (Nat → Int)} {i : Nat} (h : i ≤ l.length) (x y : Nat → Int) : insL (l ++ [y]) i x = insL l i x ++ [y] := by
  unfold insL
  rw [List.take_append_of_le_length h, List.drop_append_of_le_length h]
  simp
theorem set_app {l : List (Nat → Int)} {i : Nat} (h : i < l.length) (x y : Nat → Int) : (l ++ [y]).set i x = l.set i x ++ [y] := by
  rw [List.set_append_left _ _ h]
/-- what stands in out after k rounds: m = 0 insert, 1 replace, 2 keep -/
def accG (m : Nat) (ps : List (Nat → Int)) (i : Nat) (x : Nat → Int) (k : Nat) : List (Nat → Int) :=
  if k ≤ i then ps.take k else if m = 0 then insL (ps.take k) i x else if m = 1 then (ps.take k).set i x else ps.take k
theorem accG_zero (m : Nat) (ps : List (Nat → Int)) (i : Nat) (x : Nat → Int) : accG m ps i x 0 = [] := by
  unfold accG; rw [if_pos (Nat.zero_le _)]; rfl
theorem accG_other (m : Nat) {ps : List (Nat → Int)} {i k : Nat} (x : Nat → Int) (hk : k < ps.length) (h : k ≠ i) : accG m ps i x (k + 1) = accG m ps i x k ++ [ps.getD k fun _ => 0] := by
  unfold accG
  have hl : (ps.take k).length = k := by rw [List.length_take]; omega
  rcases Nat.lt_or_ge k i with h1 | h1
  · rw [if_pos (show k + 1 ≤ i by omega), if_pos (show k ≤ i by omega), take_nextG ps k hk]
  · rw [if_neg (show ¬ k + 1 ≤ i by omega), if_neg (show ¬ k ≤ i by omega), take_nextG ps k hk]
    split
    · rw [insL_app (by omega)]
    · split
      · rw [set_app (by omega)]
      · rfl
theorem accG_ins {ps : List (Nat → Int)} {i : Nat} (x : Nat → Int) (hk : i < ps.length) : accG 0 ps i x (i + 1) = accG 0 ps i x i ++ [x, ps.getD i fun _ => 0] := by
  unfold accG
  have hl : (ps.take i).length = i := by rw [List.length_take]; omega
  rw [if_neg (by omega), if_pos (Nat.le_refl _), if_pos rfl, take_nextG ps i hk, insL_app (by omega)]
  have h9 := insL_end (ps.take i) x
  rw [hl] at h9
  rw [h9]; simp
theorem accG_rep {ps : List (Nat → Int)} {i : Nat} (x : Nat → Int) (hk : i < ps.length) : accG 1 ps i x (i + 1) = accG 1 ps i x i ++ [x] := by
  unfold accG
  have hl : (ps.take i).length = i := by rw [List.length_take]; omega
  rw [if_neg (by omega), if_pos (Nat.le_refl _), if_neg (by decide), if_pos rfl, take_nextG ps i hk, List.set_append_right _ _ (by omega), hl, Nat.sub_self]
  rfl
theorem accG_keep {ps : List (Nat → Int)} {i : Nat} (x : Nat → Int) (hk : i < ps.length) : accG 2 ps i x (i + 1) = accG 2 ps i x i ++ [ps.getD i fun _ => 0] := by
  unfold accG
  rw [if_neg (by omega), if_pos (Nat.le_refl _), if_neg (by decide), if_neg (by decide), take_nextG ps i hk]
theorem accG_len (m : Nat) (ps : List (Nat → Int)) (i : Nat) (x : Nat → Int) (k : Nat) : (accG m ps i x k).length ≤ ps.length + 1 := by
  unfold accG
  have hl : (ps.take k).length ≤ ps.length := by rw [List.length_take]; omega
  split
  · omega
  · split
    · rw [insL_len]; omega
    · split
      · rw [List.length_set]; omega
      · omega
def mdG (ps : List (Nat → Int)) (x : Nat → Int) (i : Nat) : Nat := if thG ps (x 0) i = true then (if 0 ≤ arQ (x 1 - (ps.getD i fun _ => 0) 1) then 1 else 2) else 0
theorem accG_end {ps : List (Nat → Int)} {x : Nat → Int} {i : Nat} (hi : i < ps.length) : accG (mdG ps x i) ps i x ps.length = addL ps x i := by
  unfold accG mdG addL
  rw [if_neg (by omega), List.take_length]
  split
  · split
    · rw [if_neg (by decide), if_pos rfl]
    · rw [if_neg (by decide), if_neg (by decide)]
  · rw [if_pos rfl]
theorem accG_tail {ps : List (Nat → Int)} {x : Nat → Int} : accG (mdG ps x ps.length) ps ps.length x ps.length ++ [x] = addL ps x ps.length := by
  unfold accG addL
  rw [if_pos (Nat.le_refl _), List.take_length, if_neg (by unfold thG; simp), insL_end]
theorem rg_two {w : World} {b : Nat} {x y : Nat → Int} (h : w.rangeAt b 0 (pgc x ++ pgc y)) : ∀ i z, [x, y][i]? = some z → w.rangeAt b (0 + i * 13) (pgc z) := fun i z hi => by
  match i, hi with
  | 0, hi => simp at hi; subst hi; exact fun j u hu => h j u (by rw [List.getElem?_append_left (by exact (List.getElem?_eq_some_iff.1 hu).1)]; exact hu)
  | 1, hi => 
    simp at hi
    subst hi
    intro j u hu
    have h9 := h (13 + j) u (by rw [List.getElem?_append_right (by rw [pgc_len]; omega), pgc_len, Nat.add_sub_cancel_left]; exact hu)
    rwa [show 0 + (13 + j) = 0 + 1 * 13 + j by omega] at h9
section
variable {P : Program} {o : Oper} {a : Act} {w : World} {K : Act → World → Prop} {Q : Exit → Act → World → Prop}
theorem wp_build2 (t : TypeId) (p q : Operand) (ho : o.op = .buildSlice t 2 #[(0, p), (1, q)]) (dst : Option Tmp) (hd : o.dst = dst) (ht : Tryd.prog.underlying t = some (.slice 27)) (x y : Nat → Int) (hp : a.eval p = .agg (pgV x)) (hq : a.eval q = .agg (pgV y))
    (h : K (a.put dst (.slice (some ⟨w.heap.size, 0, none⟩) 2 2)) (w.alloc (.cells (pgc x ++ pgc y).toArray 27))) : o.wp Tryd.prog a w K Q := by
  subst hd
  have hs : ∀ w, (sizeOf 27).run Tryd.prog w = .ok 13 w := fun w => by kernel_rfl
  have hz : ∀ w, (zeroValue 27).run Tryd.prog w = .ok (.agg #[.int .i64 0, .int .i64 0, .int .i64 0, .int .i64 0, .int .i64 0, .int .i64 0, .int .i64 0, .int .i64 0, .int .i64 0, .int .i64 0, .int .i64 0, .int .i64 0, .int .i64 0]) w := fun w => by kernel_rfl
  unfold Oper.wp execOp
  unfold pgc at h
  unfold pgV at h hp hq
  generalize x 0 = a0, x 1 = a1, x 2 = a2, x 3 = a3, x 4 = a4, x 5 = a5, x 6 = a6, x 7 = a7, x 8 = a8, x 9 = a9, x 10 = a10, x 11 = a11, x 12 = a12 at h hp
  generalize y 0 = b0, y 1 = b1, y 2 = b2, y 3 = b3, y 4 = b4, y 5 = b5, y 6 = b6, y 7 = b7, y 8 = b8, y 9 = b9, y 10 = b10, y 11 = b11, y 12 = b12 at h hq
  simp only [ho, List.map_toArray, List.map_cons, List.map_nil, hp, hq]
  simp [go_sem, run_underlying ht, hs, hz]
  exact h
end
end Go.Proofs.Sky

namespace Go.Proofs.Sky
open Go Go.RowKit Go.Shelf
set_option maxHeartbeats 4000000
set_option maxRecDepth 8000
/-! chapter 27: AlmanacKnown, closed facts -/
def plB27 : List Int := [0, 0, 0, 0, 1, 1, 1, 0, 0, 1, 0, 0, 1, 0, 0, 1, 1, 1, 1, 1, 0, 0, 0, 0, 0, 0, 0, 0, 0, 0, 0, 0, 0, 0, 0, 1, 1, 0, 0, 1, 0, 0, 0, 0, 0, 0, 0, 0, 0, 0, 0, 0, 1, 1, 1, 1, 1, 0, 1, 0, 0, 0, 0, 0, 0, 0, 0, 0, 0, 0, 0, 0, 0, 0, 0, 0, 0, 0, 0, 0, 0, 1, 0, 0, 0, 0, 0, 0, 0, 0, 0, 0, 0, 0, 1, 0, 0, 0, 0, 0, 0, 0, 0, 0, 0, 0, 1, 1, 0, 0, 0, 0, 0, 0, 0, 0, 0, 0, 0, 0, 0, 0, 0, 0, 0, 0, 0, 0, 0, 0, 0, 0, 0, 0, 0, 0, 0, 0, 0, 0, 0, 0, 0, 0, 0, 0, 0, 0, 0, 0, 0, 0, 0, 0, 0, 0, 0, 0, 0, 0, 0, 0, 0, 0, 0, 0, 0, 0, 0, 0, 0, 0, 0, 0, 0, 0, 0, 0, 0, 0, 0, 0, 0, 0, 0, 0, 0, 0, 0, 0, 0, 0, 0, 0, 0, 0, 0, 0, 0, 0, 0, 0, 0, 0, 0, 0]
theorem plB27_eq : FrQ plX27 = plB27 := by kernel_rfl
def onesL27 : List Int := [4, 5, 6, 9, 12, 15, 16, 17, 18, 19, 35, 36, 39, 52, 53, 54, 55, 56, 58, 81, 94, 106, 107]
def cntO27 : Nat → Nat
  | 0 => 0
  | i + 1 => cntO27 i + if plB27.getD i 0 = 1 then 1 else 0
def onesB27 : Bool := (List.range 206).all fun i => decide (plB27.getD i 0 = 1 → cntO27 i < 23 ∧ onesL27.getD (cntO27 i) 0 = (i : Int))
theorem ones27_ok : onesB27 = true := by kernel_rfl
theorem ones27_at {i : Nat} (hi : i < 206) (h : plB27.getD i 0 = 1) : cntO27 i < 23 ∧ onesL27.getD (cntO27 i) 0 = (i : Int) := of_decide_eq_true (List.all_eq_true.1 ones27_ok i (List.mem_range.2 hi)) h
theorem ones27_end : cntO27 206 = 23 := by kernel_rfl
theorem cnt27_le : ∀ i, cntO27 i ≤ i := by
  intro i
  induction i with
  | zero => exact Nat.le_refl _
  | succ i ih => rw [cntO27]; split <;> omega
def youX27 : Nat → Int := fun i => [3, 0, 5, 1000, 1, 2, 3, 0, 0, 0, 0, 0, 0].getD i 0
def oldX27 : Nat → Int := fun i => [3, 599999, 100, 1000, 1, 2, 3, 0, 0, 0, 0, 0, 0].getD i 0
def big27 (k : Nat) : Nat → Int := fun i => ([[64, 0, 0, 0, 0, 0, 0, 0, 0, 0, 0, 0, 0], [1, 0, 0, 0, 0, 8192, 0, 0, 0, 0, 0, 0, 0], [1, 0, 0, 0, 0, -8192, 0, 0, 0, 0, 0, 0, 0]].getD k []).getD i 0
theorem big27_0 : errPg (big27 0) = 2 := by kernel_rfl
theorem big27_1 : errPg (big27 1) = 2 := by kernel_rfl
theorem big27_2 : errPg (big27 2) = 0 := by kernel_rfl
theorem you27_ok : errPg youX27 = 0 := by kernel_rfl
theorem old27_ok : errPg oldX27 = 0 := by kernel_rfl
theorem row27_nil : errRow [] = 0 := by kernel_rfl
theorem row27_one : errRow [plX27] = 0 := by kernel_rfl
theorem row27_two : errRow [plX27, plX27] = 9 := by kernel_rfl
theorem row27_long : errRow (List.replicate 64 zrX) = 4 := by kernel_rfl
theorem posnil27 : PosG [] 3 0 := ⟨Nat.le_refl _, fun j h => absurd h (Nat.not_lt_zero _), fun j _ h => absurd h (Nat.not_lt_zero _)⟩
theorem posone27 : PosG [plX27] 3 0 := ⟨Nat.zero_le _, fun j h => absurd h (Nat.not_lt_zero _), fun j _ h => by
  have : j = 0 := by simp at h; omega
  subst this; decide⟩
theorem add27_1 : AddQ [] plX27 [plX27] 0 := .inr (.inr ⟨row27_nil, pl27_ok, rfl, 0, posnil27, rfl⟩)
theorem add27_2 : AddQ [plX27] youX27 [youX27] 0 := .inr (.inr ⟨row27_one, you27_ok, rfl, 0, posone27, by
  unfold addL
  rw [if_pos (show thG [plX27] (youX27 0) 0 = true by decide), if_pos (by decide)]; rfl⟩)
theorem add27_3 : AddQ [plX27] oldX27 [plX27] 0 := .inr (.inr ⟨row27_one, old27_ok, rfl, 0, posone27, by
  unfold addL
  rw [if_pos (show thG [plX27] (oldX27 0) 0 = true by decide), if_neg (by decide)]⟩)
theorem add27_4 : AddQ [plX27, plX27] plX27 [] 9 := .inl ⟨by rw [row27_two]; decide, rfl, row27_two.symm⟩
theorem find27_1 : FindQ [plX27] 3 plX27 0 := .inr (.inl ⟨row27_one, 0, by simp, rfl, rfl, rfl⟩)
theorem find27_2 : FindQ [plX27] 4 zrX 18 := .inr (.inr ⟨row27_one, fun i hi => by
  have : i = 0 := by simp at hi; omega
  subst this; decide, rfl, rfl⟩)
theorem find27_3 : FindQ (List.replicate 64 zrX) 3 zrX 4 := .inl ⟨by rw [row27_long]; decide, rfl, row27_long.symm⟩
theorem ms27_1 : errMs [plX27] 600000 = 0 := by kernel_rfl
theorem ms27_2 : errMs [plX27] 600001 = 0 := by kernel_rfl
theorem ms27_3 : msR [plX27] 600000 100 [4, 3, 5] = [4, 5] := by kernel_rfl
theorem ms27_4 : msR [plX27] 600001 100 [3] = [3] := by kernel_rfl
theorem nob27 : errTm plX27 604800 = 2 := by kernel_rfl
theorem bound27_no (w : World) (hw : WdAt w) : Calls Tryd.prog 31 #[.int .i64 604800, .int .i64 0] w fun e w' => e = .returned (.bool false) ∧ Bw w w' := by
  have HWD := Lib.hid hw
  have PLN := Lib.hid (fun W => plain27_any W)
  have PS := Lib.hid (fun W h => AlError_any plX27 604800 W h)
  rw [nob27, show bdP plX27 604800 = 0 by kernel_rfl] at PS
  obtain ⟨A, hA⟩ : ∃ A, A = pgV plX27 := ⟨_, rfl⟩
  rw [← hA] at PLN PS
  clear hA hw
  have HW := Lib.hid (Bw.refl w)
  go_enter Tryd.func31, Tryd.ntmps31
  go_wp2_with (first | (go_at_call 32; (with_reducible refine Calls.mono (PLN.out _) ?_); rintro e1 w1 ⟨rfl, hb1⟩; replace HW := Lib.hid (HW.out.trans hb1); clear hb1) | (go_at_call 20; (with_reducible refine Calls.mono (PS.out _ (HWD.out.bw HW.out)) ?_); rintro e1 w2 ⟨rfl, hb1⟩; replace HW := Lib.hid (HW.out.trans hb1); clear hb1))
  go_ret
  exact ⟨rfl, HW.out⟩
theorem rd_at27 {W : World} {b o n c : Nat} {zs : List Int} (h : RdI W (.slice (some ⟨b, o, none⟩) n c) zs) {i : Nat} (hi : i < zs.length) : W.cell? ⟨b, o + i, none⟩ = some (.int .i64 (zs.getD i 0)) := by
  obtain ⟨b2, o2, c2, hv, _, hc⟩ := h.at (by omega)
  injection hv with a1 a2 a3
  injection a1 with a1
  injection a1 with a1 a4 a5
  subst a1 a4
  exact hc i hi
theorem lit1G (W : World) (x : Nat → Int) : RdG (W.alloc (.cells (pgV x) 27)) (.slice (some ⟨W.heap.size, 0, none⟩) 1 1) [x] :=
  ⟨by simp, _, 1, rfl, .inr ⟨_, 0, rfl, by simp, rg_one (blk_rg (Blk.new W 27 (pgc x).toArray))⟩⟩
theorem lit2G (W : World) (x y : Nat → Int) : RdG (W.alloc (.cells (pgc x ++ pgc y).toArray 27)) (.slice (some ⟨W.heap.size, 0, none⟩) 2 2) [x, y] :=
  ⟨by simp, _, 2, rfl, .inr ⟨_, 0, rfl, by simp, rg_two (blk_rg (Blk.new W 27 (pgc x ++ pgc y).toArray))⟩⟩
theorem at_build2 {P : Program} {ops : Array Oper} {Q : Exit → Act → World → Prop} {rest : List Oper} {a : Act} {w : World} (t : TypeId) (n : Nat) (el : Array (Nat × Operand)) {dst : Option Tmp} {type : TypeId} {pos : String} {after : Array Edge} {g : Option (Nat × Bool)}
    (h : wpList P ops Q ({ dst := dst, op := .buildSlice t n el, type := type, pos := pos, after := after, guard := g } :: rest) a w) : wpList P ops Q ({ dst := dst, op := .buildSlice t n el, type := type, pos := pos, after := after, guard := g } :: rest) a w := h
def mz27 : Array Value := madeCells #[.int .i64 0, .int .i64 0, .int .i64 0, .int .i64 0, .int .i64 0, .int .i64 0, .int .i64 0, .int .i64 0, .int .i64 0, .int .i64 0, .int .i64 0, .int .i64 0, .int .i64 0] (64 * 13)
theorem makePg64 (w : World) : (Instr.makeSlice 24 (.int .i64 64) (.int .i64 64)).run Tryd.prog w = .ok (.slice (some ⟨w.heap.size, 0, none⟩) 64 64) (w.alloc (.cells mz27 27)) := by
  obtain ⟨i, hi, hzz⟩ := Option.map_eq_some_iff.1 infoPg
  simp only [Prod.mk.injEq] at hzz
  obtain ⟨hz, hs, hb⟩ := hzz
  have h := run_make (P := Tryd.prog) w 24 27 i _ Tryd.underlying24 hi hz .i64 .i64 64 64 (by omega) (by omega) (by rw [hb]; omega) (by omega)
  rw [hs] at h
  exact h
theorem mz27_at (i j : Nat) (hi : i < 64) (hj : j < 13) : mz27[i * 13 + j]? = some (.int .i64 0) := by
  unfold mz27 madeCells
  rw [Array.getElem?_map, Array.getElem?_range, if_pos (by omega)]
  show some ((#[.int .i64 0, .int .i64 0, .int .i64 0, .int .i64 0, .int .i64 0, .int .i64 0, .int .i64 0, .int .i64 0, .int .i64 0, .int .i64 0, .int .i64 0, .int .i64 0, .int .i64 0] : Array Value)[(i * 13 + j) % 13]!) = _
  rw [show (i * 13 + j) % 13 = j by omega]
  rcases (by omega : j = 0 ∨ j = 1 ∨ j = 2 ∨ j = 3 ∨ j = 4 ∨ j = 5 ∨ j = 6 ∨ j = 7 ∨ j = 8 ∨ j = 9 ∨ j = 10 ∨ j = 11 ∨ j = 12) with rfl | rfl | rfl | rfl | rfl | rfl | rfl | rfl | rfl | rfl | rfl | rfl | rfl <;> rfl
theorem lit64G (W : World) : RdG (W.alloc (.cells mz27 27)) (.slice (some ⟨W.heap.size, 0, none⟩) 64 64) (List.replicate 64 zrX) := by
  refine ⟨by rw [List.length_replicate]; omega, _, 64, by rw [List.length_replicate], .inr ⟨_, 0, rfl, by simp, fun i x hx => ?_⟩⟩
  obtain ⟨hi, hx2⟩ := List.getElem?_eq_some_iff.1 hx
  rw [List.getElem_replicate] at hx2
  rw [List.length_replicate] at hi
  subst hx2
  intro j u hu
  have hj : j < 13 := (List.getElem?_eq_some_iff.1 hu).1
  rw [pgc_at _ j hj] at hu
  injection hu with hu
  subst hu
  rw [Nat.zero_add]
  exact (Blk.new W 27 mz27).cell (mz27_at i j hi hj)
end Go.Proofs.Sky
