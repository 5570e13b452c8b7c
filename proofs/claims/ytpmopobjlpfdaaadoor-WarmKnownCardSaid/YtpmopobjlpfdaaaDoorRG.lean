/-
  lemmas for the theorems of this claim. No conditions beyond those written in the statements.
-/
import Derived.StillTail
import Derived.Deep.Quiet
import Derived.Test.YtpmopobjlpfdaaaDoorP25L
import Derived.Test.YtpmopobjlpfdaaaDoorE25
set_option linter.unusedVariables false
set_option linter.unusedSimpArgs false
set_option linter.unnecessarySimpa false
namespace Go.Proofs.Sky
open Go Go.RowKit
section
variable {P : Program} {ops : Array Oper} {md : Region.Mode} {C : World → Prop}
/-- the first n operations, in whatever order, all of them quiet in the class; then L -/
def headQ (P : Program) (md : Region.Mode) (ops : Array Oper) (C : World → Prop) (n : Nat) (L : Array Bool → Act → Prop) : Nat → Array Bool → Act → Prop
  | 0, done, a => L done a
  | f + 1, done, a => Region.ready md ops done ≠ [] ∧ ∀ i ∈ Region.ready md ops done, i < n ∧ qOp P ops C i (headQ P md ops C n L f (done.setIfInBounds i true)) a
theorem any_of_headQ {n g : Nat} {L : Array Bool → Act → Prop} {Q' : Exit → Act → World → Prop} (hL : ∀ done a w, C w → L done a → wpAny P md ops Q' g done a w) :
    ∀ (f : Nat) (done : Array Bool) (a : Act) (w : World), C w → headQ P md ops C n L f done a → wpAny P md ops Q' (f + g) done a w := by
  intro f
  induction f with
  | zero => intro done a w hw h; rw [Nat.zero_add]; exact hL _ _ _ hw h
  | succ f ih =>
    intro done a w hw h
    rw [show f + 1 + g = (f + g) + 1 by omega]
    refine ⟨fun h0 => absurd h0 h.1, fun i hi => ?_⟩
    exact wpOp_of_qOp hw (fun a' w' hw' h' => ih _ a' w' hw' h') (h.2 i hi).2
theorem headQ_first {n i : Nat} {oi : Oper} {v : Value} {L : Array Bool → Act → Prop} (hi : ops[i]? = some oi) (hsel : ∀ (j : Nat) (o : Oper) cs b, ops[j]? = some o → o.op ≠ .select cs b)
    (tw : ∀ done : Array Bool, HeadInv md ops n done → done.getD i true = false → ∀ t, n ≤ t → t ∉ Region.ready md ops done) (hdone : ∀ done a, L done a → ∀ j ∈ Region.ready md ops done, n ≤ j) :
    ∀ (f : Nat) (done : Array Bool) (a : Act), HeadInv md ops n done →
      (∀ j oj, ops[j]? = some oj → j ≠ i → done.getD j true = false → (∀ e ∈ oj.after, Region.binds md e = true → e.on ≠ i) → oi.apart ops oj = true) →
      i ∈ Region.ready md ops done → YieldsIn P ops C oi v a → headQ P md ops C n L f (done.setIfInBounds i true) (a.put oi.dst v) → headQ P md ops C n L (f + 1) done a := by
  intro f
  induction f with
  | zero =>
    intro done a inv _ hr hy H
    refine ⟨fun h => (by rw [h] at hr; cases hr), fun j hj => ?_⟩
    have hjn : j < n := Nat.lt_of_not_le fun h => tw done inv (mem_ready.1 hr).1 j h hj
    refine ⟨hjn, ?_⟩
    by_cases e : j = i
    · subst e; exact hy.qOp hi H
    · exact absurd (hdone _ _ H j (ready_mono hj e)) (Nat.not_le_of_lt hjn)
  | succ f ih =>
    intro done a inv hfree hr hy H
    have hun := (mem_ready.1 hr).1
    refine ⟨fun h => (by rw [h] at hr; cases hr), fun j hj => ?_⟩
    have hjn : j < n := Nat.lt_of_not_le fun h => tw done inv hun j h hj
    refine ⟨hjn, ?_⟩
    by_cases e : j = i
    · subst e; exact hy.qOp hi H
    · obtain ⟨hjun, oj, hoj, hall⟩ := mem_ready.1 hj
      have hnot : ∀ e ∈ oj.after, Region.binds md e = true → e.on ≠ i := by
        intro e he hb heq
        have h1 := hall e he hb
        rw [heq, getD_both hun] at h1
        cases h1
      have h2 := qOp_put hoj (hfree j oj hoj e hjun hnot) (fun cs b => hsel i oi cs b hi) (fun cs b => hsel j oj cs b hoj) hy (H.2 j (ready_mono hj e)).2
      refine qOp_mono (fun a' h3 => ih (done.setIfInBounds j true) a' (inv.set hj hjn) (fun k ok hk hki hun' hno => hfree k ok hk hki ?_ hno) (ready_mono hr (Ne.symm e)) h3.1 ?_) h2
      · by_cases hjk : j = k
        · subst hjk; exact hjun
        · rwa [getD_set_ne true hjk] at hun'
      · rw [Array.setIfInBounds_comm _ _ e]; exact h3.2
theorem headQ_lex {n g m : Nat} {K : Act → Prop} (hsel : Region.noSelect ops = true) (tw : ∀ i, m ≤ i → i < n → ∀ done : Array Bool, HeadInv md ops n done → done.getD i true = false → ∀ t, n ≤ t → t ∉ Region.ready md ops done) :
    ∀ (l : List Oper) (k : Nat) (done : Array Bool) (a : Act), m ≤ k → (∀ j, j < l.length → l[j]? = ops[k + j]?) → k + l.length = n → HeadInv md ops n done →
    Region.lexHead md ops g l.length k done = true → wpQuiet P ops C K l a → headQ P md ops C n (fun done' a' => Region.seqB md ops g n done' = true ∧ K a') l.length done a := by
  intro l
  induction l with
  | nil =>
    intro k done a _ _ hk _ hB h
    obtain rfl : k = n := by simpa using hk
    exact ⟨by simpa [Region.lexHead] using hB, h⟩
  | cons o l ih =>
    intro k done a hmk hl hk inv hB h
    have h0 : ops[k]? = some o := by simpa using (hl 0 (by simp)).symm
    have hkn : k < n := by simp only [List.length_cons] at hk; omega
    simp only [List.length_cons, Region.lexHead, Bool.and_eq_true] at hB
    have hr : k ∈ Region.ready md ops done := by simpa using hB.1.1
    have hst : qOp P ops C k (wpQuiet P ops C K l) a := by unfold qOp; simp only [h0]; exact h
    obtain ⟨v, hy, hK⟩ := yieldsIn_of_qOp h0 hst
    refine headQ_first h0 (Region.noSelect_spec hsel) (tw k hmk hkn) (fun done' a' hL => seqB_ready hL.1) l.length done a inv (Region.free_spec h0 hB.1.2) hr hy ?_
    exact ih (k + 1) _ _ (by omega) (fun j hj => by have := hl (j + 1) (by simp; omega); simpa [Nat.add_assoc, Nat.add_comm 1 j] using this) (by simp only [List.length_cons] at hk; omega) (inv.set hr hkn) hB.2 hK
theorem wpAny_quiet_tail {Q : Exit → Act → World → Prop} {a : Act} {w : World} {l : List Oper} (n : Nat) (hB : Region.lexTailB .any l.toArray n = true) (hC : C w)
    (h : wpQuiet P l.toArray C (fun a' => ∀ w', C w' → wpList P l.toArray Q (l.drop n) a' w') (l.take n) a) : wpAny P .any l.toArray Q l.toArray.size (Array.replicate l.toArray.size false) a w := by
  simp only [Region.lexTailB, Bool.and_eq_true, decide_eq_true_eq] at hB
  obtain ⟨⟨⟨⟨hsel, hn⟩, hs⟩, hc⟩, hlex⟩ := hB
  have htl : (l.take n).length = n := by simp at hn; simp; omega
  have hdl : (l.drop n).length = l.toArray.size - n := by simp
  have H := headQ_lex (md := .any) (g := l.toArray.size - n) (m := 0) hsel (fun i _ hin done inv hun => tail_waits hs hc hn inv _ i rfl hin hun) (l.take n) 0 (Array.replicate l.toArray.size false) a (Nat.le_refl _)
    (fun j hj => by rw [htl] at hj; simp [hj]) (by simpa using htl)
    ⟨by simp, fun j oj _ hl => (by rw [getD_replicate_false] at hl; cases hl), fun t _ ht => getD_in (by simpa using ht) (getD_replicate_false _ _)⟩ (by rw [htl]; exact hlex) h
  have hT := any_of_headQ (Q' := Q) (g := l.toArray.size - n) (fun done a' w' hw' hL => by
    have h1 := wpAny_of_seq (md := .any) (Q' := Q) (l.drop n) n done a' w' (fun j => by simp [List.getElem?_drop]) (by rw [hdl]; exact hL.1) (hL.2 w' hw')
    rwa [hdl] at h1) _ _ _ _ hC H
  rwa [htl, show n + (l.toArray.size - n) = l.toArray.size by omega] at hT
/-- a region that draws its order: the first n operations quiet in the class, the others in one forced order behind them -/
theorem wp_region_quiet_tail {id : Nat} {Q : Exit → Act → World → Prop} {a : Act} {w : World} {l : List Oper} (n : Nat) (hm : P.follows .mixedOrders = true) (hB : Region.lexTailB .any l.toArray n = true) (hC : C { w with drawn := w.drawn + 1 })
    (h : wpQuiet P l.toArray C (fun a' => ∀ w', C w' → wpList P l.toArray Q (l.drop n) a' w') (l.take n) a) : (Code.region id l.toArray true).wp P Q a w :=
  wp_region_any hm (wpAny_quiet_tail n hB hC h)
theorem wpAny_quiet_all {Q : Exit → Act → World → Prop} {a : Act} {w : World} {l : List Oper} (hB : Region.lexB .any l.toArray = true) (hC : C w)
    (h : wpQuiet P l.toArray C (fun a' => ∀ w', C w' → Q .normal a' w') l a) : wpAny P .any l.toArray Q l.toArray.size (Array.replicate l.toArray.size false) a w := by
  simp only [Region.lexB, Bool.and_eq_true] at hB
  refine wpAny_of_quiet (Q := fun a' => ∀ w', C w' → Q .normal a' w') (fun _ w' hw' h => h w' hw') _ _ _ _ hC ?_
  have := wpAnyQ_lex (C := C) (md := .any) hB.1 l.toArray.toList 0 (Array.replicate l.toArray.size false) a (by simp) (by simpa using hB.2) (by simpa using h)
  simpa using this
theorem wp_region_ext_tail {id : Nat} {Q : Exit → Act → World → Prop} {a : Act} {w : World} {l : List Oper} (n : Nat) (hm : P.follows .mixedOrders = true) (hB : Region.lexTailB .any l.toArray n = true)
    (h : wpQuiet P l.toArray (fun w' => ∃ p : Ext w, w' = p.W) (fun a' => ∀ w', (∃ p : Ext w, w' = p.W) → wpList P l.toArray Q (l.drop n) a' w') (l.take n) a) : (Code.region id l.toArray true).wp P Q a w :=
  wp_region_quiet_tail (C := fun w' => ∃ p : Ext w, w' = p.W) n hm hB ⟨⟨{ w with drawn := w.drawn + 1 }, Bw.drew (Bw.refl w)⟩, rfl⟩ h
/-- every operation from m on and before n is waited for by one behind it, at most n -/
def sinkFrom (md : Region.Mode) (ops : Array Oper) (m n : Nat) : Bool :=
  (List.range n).all fun i => decide (i < m) || (List.range (n + 1)).any fun j => decide (i < j) && Region.waitsFor md ops j i
theorem waits_from {m n : Nat} {done : Array Bool} (hs : sinkFrom md ops m n = true) (hc : Region.chainB md ops n = true) (hn : n < ops.size) (inv : HeadInv md ops n done) :
    ∀ (d i : Nat), n - i = d → m ≤ i → i < n → done.getD i true = false → ∀ t, n ≤ t → t ∉ Region.ready md ops done := by
  intro d
  induction d using Nat.strongRecOn with
  | _ d ih =>
    intro i hd hm hi hun t ht hr
    obtain ⟨_, ot, hot, hall⟩ := mem_ready.1 hr
    have htlt : t < ops.size := (Array.getElem?_eq_some_iff.1 hot).1
    rcases Nat.lt_or_ge n t with h1 | h1
    · have h2 := List.all_eq_true.1 hc t (List.mem_range.2 htlt)
      simp only [Bool.or_eq_true, decide_eq_true_eq] at h2
      obtain ⟨o', ho', e, he, hb, hon⟩ := Region.waitsFor_spec (h2.resolve_left (by omega))
      obtain rfl : o' = ot := Option.some.inj (ho'.symm.trans hot)
      have h3 := hall e he hb
      rw [hon, getD_both (inv.tail (t - 1) (by omega) (by omega))] at h3
      cases h3
    · obtain rfl : t = n := by omega
      have h2 := List.all_eq_true.1 hs i (List.mem_range.2 hi)
      simp only [Bool.or_eq_true, decide_eq_true_eq] at h2
      obtain ⟨j, hj, hj2⟩ := List.any_eq_true.1 (h2.resolve_left (by omega))
      simp only [Bool.and_eq_true, decide_eq_true_eq] at hj2
      obtain ⟨oj, hoj, e, he, hb, hon⟩ := Region.waitsFor_spec hj2.2
      have hjle : j ≤ t := by have := List.mem_range.1 hj; omega
      by_cases hjt : j = t
      · subst hjt
        obtain rfl : oj = ot := Option.some.inj (hoj.symm.trans hot)
        have h3 := hall e he hb
        rw [hon, getD_both hun] at h3
        cases h3
      · cases hl : done.getD j false with
        | true =>
          have h3 := inv.closed j oj hoj hl e he hb
          rw [hon, getD_both hun] at h3
          cases h3
        | false => exact ih (t - j) (by omega) j rfl (by omega) (by omega) (getD_in (by rw [inv.size]; omega) hl) t (Nat.le_refl _) hr
def floatTailB (md : Region.Mode) (ops : Array Oper) (n : Nat) : Bool :=
  Region.noSelect ops && decide (n < ops.size) && decide (0 < n) && (Region.ready md ops (Array.replicate ops.size false)).contains 0 && Region.free md ops (Array.replicate ops.size false) 0 && (match ops[0]? with | some o => o.after.isEmpty | none => false) &&
  sinkFrom md ops 1 n && Region.chainB md ops n && Region.lexHead md ops (ops.size - n) (n - 1) 1 ((Array.replicate ops.size false).setIfInBounds 0 true)
/-- .. where the first operation is a move that may come at any time -/
theorem wpAny_float_tail {Q : Exit → Act → World → Prop} {a : Act} {w : World} {o0 : Oper} {r : List Oper} (n : Nat) (x : Operand) (ho : o0.op = .move x) (hg : o0.guard = none) (hB : floatTailB .any (o0 :: r).toArray n = true) (hC : C w) (hQ : ∀ c a w, Q (.panic c) (a.put o0.dst (a.eval x)) w → Q (.panic c) a w)
    (hQ' : ∀ v c a w, Q (.panic c) (a.put o0.dst v) w → Q (.panic c) a w)
    (h : wpQuiet P (o0 :: r).toArray C (fun a' => ∀ w', C w' → wpList P (o0 :: r).toArray Q ((o0 :: r).drop n) a' w') (r.take (n - 1)) (a.put o0.dst (a.eval x))) : wpAny P .any (o0 :: r).toArray Q (o0 :: r).toArray.size (Array.replicate (o0 :: r).toArray.size false) a w := by
  simp only [floatTailB, Bool.and_eq_true, decide_eq_true_eq] at hB
  obtain ⟨⟨⟨⟨⟨⟨⟨⟨hsel, hn⟩, hn0⟩, hr0⟩, hf0⟩, haft⟩, hs⟩, hc⟩, hlex⟩ := hB
  have h00 : (o0 :: r).toArray[0]? = some o0 := by simp
  have hsz : (o0 :: r).toArray.size = r.length + 1 := by simp
  have htl : (r.take (n - 1)).length = n - 1 := by rw [hsz] at hn; simp; omega
  have hdl : ((o0 :: r).drop n).length = (o0 :: r).toArray.size - n := by simp
  have inv : HeadInv .any (o0 :: r).toArray n ((Array.replicate (o0 :: r).toArray.size false).setIfInBounds 0 true) := by
    refine ⟨by simp, fun j oj hj hl e he hb => ?_, fun t ht ht' => by rw [getD_set_ne true (by omega)]; exact getD_in (by simpa using ht') (getD_replicate_false _ _)⟩
    by_cases hj0 : 0 = j
    · subst hj0
      obtain rfl : oj = o0 := Option.some.inj (hj.symm.trans h00)
      simp at haft
      rw [haft] at he
      simp at he
    · rw [getD_set_ne false hj0, getD_replicate_false] at hl
      cases hl
  have H := headQ_lex (md := .any) (g := (o0 :: r).toArray.size - n) (m := 1) hsel (fun i hi hin done inv hun => waits_from hs hc hn inv _ i rfl hi hin hun) (r.take (n - 1)) 1 _ (a.put o0.dst (a.eval x)) (Nat.le_refl _)
    (fun j hj => by rw [htl] at hj; rw [List.getElem?_take, if_pos hj]; simp [Nat.add_comm 1 j]) (by rw [htl]; omega) inv (by rw [htl]; exact hlex) h
  have hT := any_of_headQ (Q' := Q) (g := (o0 :: r).toArray.size - n) (fun done a' w' hw' hL => by
    have h1 := wpAny_of_seq (md := .any) (Q' := Q) ((o0 :: r).drop n) n done a' w' (fun j => by simp [List.getElem?_drop]) (by rw [hdl]; exact hL.1) (hL.2 w' hw')
    rwa [hdl] at h1) _ _ _ _ hC H
  rw [htl] at hT
  have hy : Yields P (o0 :: r).toArray o0 (a.eval x) a := .inl ⟨by simp [Region.wanted, hg], fun w => by simp [execOp, ho]⟩
  have hF := wpAny_first (md := .any) (Q := Q) h00 (Region.noSelect_spec hsel) (hQ' _) (n - 1 + ((o0 :: r).toArray.size - n)) (Array.replicate (o0 :: r).toArray.size false) a w (Region.free_spec h00 hf0) (by simpa using hr0) hy hT
  rwa [show n - 1 + ((o0 :: r).toArray.size - n) + 1 = (o0 :: r).toArray.size by omega] at hF
theorem wp_region_float_tail {id : Nat} {Q : Exit → Act → World → Prop} {a : Act} {w : World} {o0 : Oper} {r : List Oper} (n : Nat) (x : Operand) (ho : o0.op = .move x) (hg : o0.guard = none) (hm : P.follows .mixedOrders = true)
    (hB : floatTailB .any (o0 :: r).toArray n = true) (hC : C { w with drawn := w.drawn + 1 }) (hQ : ∀ c a w, Q (.panic c) (a.put o0.dst (a.eval x)) w → Q (.panic c) a w)
    (hQ' : ∀ v c a w, Q (.panic c) (a.put o0.dst v) w → Q (.panic c) a w)
    (h : wpQuiet P (o0 :: r).toArray C (fun a' => ∀ w', C w' → wpList P (o0 :: r).toArray Q ((o0 :: r).drop n) a' w') (r.take (n - 1)) (a.put o0.dst (a.eval x))) : (Code.region id (o0 :: r).toArray true).wp P Q a w :=
  wp_region_any hm (wpAny_float_tail n x ho hg hB hC hQ hQ' h)
theorem wp_region_ext_float {id : Nat} {Q : Exit → Act → World → Prop} {a : Act} {w : World} {o0 : Oper} {r : List Oper} (n : Nat) (x : Operand) (ho : o0.op = .move x) (hg : o0.guard = none) (hm : P.follows .mixedOrders = true)
    (hB : floatTailB .any (o0 :: r).toArray n = true) (hQ' : ∀ v c a w, Q (.panic c) (a.put o0.dst v) w → Q (.panic c) a w)
    (h : wpQuiet P (o0 :: r).toArray (fun w' => ∃ p : Ext w, w' = p.W) (fun a' => ∀ w', (∃ p : Ext w, w' = p.W) → wpList P (o0 :: r).toArray Q ((o0 :: r).drop n) a' w') (r.take (n - 1)) (a.put o0.dst (a.eval x))) : (Code.region id (o0 :: r).toArray true).wp P Q a w :=
  wp_region_float_tail (C := fun w' => ∃ p : Ext w, w' = p.W) n x ho hg hm hB ⟨⟨{ w with drawn := w.drawn + 1 }, Bw.drew (Bw.refl w)⟩, rfl⟩ (fun c a w hh => hQ' _ c a w hh) hQ' h
end
end Go.Proofs.Sky

namespace Go.Proofs.Sky
open Go Go.RowKit Go.Shelf
section
variable {P : Program} {ops : Array Oper} {Q : Exit → Act → World → Prop} {l n : Nat}
def noDefer (o : Oper) : Bool := match o.op with | .defer _ => false | _ => true
theorem noDefer_spec {o : Oper} (h : noDefer o = true) : ∀ c, o.op ≠ .defer c := by
  intro c hc; unfold noDefer at h; rw [hc] at h; cases h
theorem callsIn_round {f : FuncId} {args : Array Value} {w : World} {R : Ending → World → Prop} (h : Calls P f args w R) : CallsIn (Fence.wide.inRound l) n P f args w R := CallsIn.inRound l (callsIn_wide.2 h)
theorem Oper.wpIn_round {o : Oper} {a : Act} {w : World} {K : Act → World → Prop} (hd : noDefer o = true) (h : o.wp P a w K Q) : o.wpIn (Fence.wide.inRound l) n P a w K Q := by
  refine ⟨fun f _ => trivial, ?_⟩
  show o.uponIn _ n P a K Q ((o.semAt (some l) a.eval).run P w)
  rw [Oper.semAt_some l _ _ (noDefer_spec hd)]
  unfold Oper.wp at h
  generalize (execOp a.eval o).run P w = r at h ⊢
  cases r with
  | ok x w' =>
    cases x with
    | value v => exact h
    | skip => exact h
    | defer d => exact h
    | enter f args => exact ⟨fun hh => by simp [Fence.wide] at hh, callsIn_round h⟩
    | row r args => exact ⟨fun hh => by simp [Fence.wide] at hh, fun c cs _ => let ⟨v, w'', hr, hs⟩ := h c cs; ⟨v, w'', hr, stepsIn_wide.2 hs⟩⟩
    | _ => first | exact h.elim | exact h
  | halt x w' => cases x <;> first | exact h | exact h.elim
theorem wpListIn_round (hQ : ¬ LetsOut Q) : ∀ (rest : List Oper) (a : Act) (w : World), rest.all noDefer = true → wpList P ops Q rest a w → wpListIn (Fence.wide.inRound l) n P ops Q rest a w := by
  intro rest
  induction rest with
  | nil => exact fun a w _ h => h
  | cons o rest ih =>
    intro a w hd h
    simp only [List.all_cons, Bool.and_eq_true] at hd
    unfold wpList at h
    unfold wpListIn
    split
    · rename_i hw
      rw [if_pos hw] at h
      rcases h with h | ⟨_, h⟩
      · exact Oper.wpIn_mono (fun a w hh => ih a w hd.2 hh) (Oper.wpIn_round hd.1 h)
      · exact absurd h hQ
    · rename_i hw
      rw [if_neg hw] at h
      exact ⟨fun f _ => trivial, ih _ _ hd.2 h⟩
theorem wpIn_region_round {id : Nat} {L : List Oper} {a : Act} {w : World} (hd : L.all noDefer = true) (hQ : ¬ LetsOut Q) (h : wpList P L.toArray Q L a w) : (Code.region id L.toArray false).wpIn (Fence.wide.inRound l) n P Q a w :=
  wpIn_region_lit (wpListIn_round hQ L a w hd h)
theorem wpAnyIn_round {md : Region.Mode} (hQ : ¬ LetsOut Q) (hd : ops.all noDefer = true) : ∀ (fuel : Nat) (done : Array Bool) (a : Act) (w : World), wpAny P md ops Q fuel done a w → wpAnyIn (Fence.wide.inRound l) n P md ops Q fuel done a w := by
  intro fuel
  induction fuel with
  | zero => exact fun done a w h => h
  | succ fuel ih =>
    intro done a w h
    refine ⟨h.1, fun i hi => ?_⟩
    have hh := h.2 i hi
    unfold wpOp at hh
    unfold wpOpIn
    cases ho : ops[i]? with
    | none => rw [ho] at hh; exact ih _ _ _ hh
    | some o =>
      rw [ho] at hh
      simp only at hh ⊢
      split
      · rename_i hw
        rw [if_pos hw] at hh
        rcases hh with hh | ⟨_, hh⟩
        · exact Oper.wpIn_mono (fun a w h' => ih _ a w h') (Oper.wpIn_round (by
            have := Array.all_eq_true.1 hd i (Array.getElem?_eq_some_iff.1 ho).1
            obtain ⟨h1, h2⟩ := Array.getElem?_eq_some_iff.1 ho
            rwa [h2] at this) hh)
        · exact absurd hh hQ
      · rename_i hw
        rw [if_neg hw] at hh
        exact ⟨fun f _ => trivial, ih _ _ _ hh⟩
theorem wpIn_any_round {id : Nat} {a : Act} {w : World} (hm : P.follows .mixedOrders = true) (hd : ops.all noDefer = true) (hQ : ¬ LetsOut Q) (h : wpAny P .any ops Q ops.size (Array.replicate ops.size false) a { w with drawn := w.drawn + 1 }) : (Code.region id ops true).wpIn (Fence.wide.inRound l) n P Q a w :=
  wpIn_region_any hm (wpAnyIn_round hQ hd _ _ _ _ h)
/-- in a round: a region that draws its order, reads and calls, all of it -/
theorem wpIn_region_ext {id : Nat} {a : Act} {w : World} {L : List Oper} (hm : P.follows .mixedOrders = true) (hd : L.toArray.all noDefer = true) (hQ : ¬ LetsOut Q) (hB : Region.lexB .any L.toArray = true)
    (h : wpQuiet P L.toArray (fun w' => ∃ p : Ext w, w' = p.W) (fun a' => ∀ w', (∃ p : Ext w, w' = p.W) → Q .normal a' w') L a) : (Code.region id L.toArray true).wpIn (Fence.wide.inRound l) n P Q a w :=
  wpIn_any_round hm hd hQ (wpAny_quiet_all (C := fun w' => ∃ p : Ext w, w' = p.W) hB ⟨⟨{ w with drawn := w.drawn + 1 }, Bw.drew (Bw.refl w)⟩, rfl⟩ h)
/-- .. with a forced tail -/
theorem wpIn_region_ext_tail {id : Nat} {a : Act} {w : World} {L : List Oper} (k : Nat) (hm : P.follows .mixedOrders = true) (hd : L.toArray.all noDefer = true) (hQ : ¬ LetsOut Q) (hB : Region.lexTailB .any L.toArray k = true)
    (h : wpQuiet P L.toArray (fun w' => ∃ p : Ext w, w' = p.W) (fun a' => ∀ w', (∃ p : Ext w, w' = p.W) → wpList P L.toArray Q (L.drop k) a' w') (L.take k) a) : (Code.region id L.toArray true).wpIn (Fence.wide.inRound l) n P Q a w :=
  wpIn_any_round hm hd hQ (wpAny_quiet_tail (C := fun w' => ∃ p : Ext w, w' = p.W) k hB ⟨⟨{ w with drawn := w.drawn + 1 }, Bw.drew (Bw.refl w)⟩, rfl⟩ h)
/-- .. only reads: the world is as it was but for the draws -/
theorem wpIn_region_drew_tail {id : Nat} {a : Act} {w : World} {L : List Oper} (k : Nat) (hm : P.follows .mixedOrders = true) (hd : L.toArray.all noDefer = true) (hQ : ¬ LetsOut Q) (hB : Region.lexTailB .any L.toArray k = true)
    (h : wpQuiet P L.toArray (fun w' => w' = w.drew) (fun a' => wpList P L.toArray Q (L.drop k) a' w.drew) (L.take k) a) : (Code.region id L.toArray true).wpIn (Fence.wide.inRound l) n P Q a w :=
  wpIn_any_round hm hd hQ (wpAny_quiet_tail (C := fun w' => w' = w.drew) k hB rfl (by
    have : (fun a' => wpList P L.toArray Q (L.drop k) a' w.drew) = (fun a' => ∀ w', w' = w.drew → wpList P L.toArray Q (L.drop k) a' w') := by
      funext a'; exact propext ⟨fun h w' e => by subst e; exact h, fun h => h _ rfl⟩
    rw [← this]; exact h))
theorem wp_region_drew_tail {id : Nat} {a : Act} {w : World} {L : List Oper} (k : Nat) (hm : P.follows .mixedOrders = true) (hB : Region.lexTailB .any L.toArray k = true)
    (h : wpQuiet P L.toArray (fun w' => w' = w.drew) (fun a' => wpList P L.toArray Q (L.drop k) a' w.drew) (L.take k) a) : (Code.region id L.toArray true).wp P Q a w :=
  wp_region_any hm (wpAny_quiet_tail (C := fun w' => w' = w.drew) k hB rfl (by
    have : (fun a' => wpList P L.toArray Q (L.drop k) a' w.drew) = (fun a' => ∀ w', w' = w.drew → wpList P L.toArray Q (L.drop k) a' w') := by
      funext a'; exact propext ⟨fun h w' e => by subst e; exact h, fun h => h _ rfl⟩
    rw [← this]; exact h))
end
theorem lt_of_cell {w : World} {b o : Nat} {v : Value} (h : w.cell? ⟨b, o, none⟩ = some v) : b < w.heap.size := by
  rcases Nat.lt_or_ge b w.heap.size with h' | h'
  · exact h'
  · simp [World.cell?, Array.getElem?_eq_none h'] at h
theorem Ext.cell' {w : World} {b o : Nat} {v : Value} (h : w.cell? ⟨b, o, none⟩ = some v) (p : Ext w) : p.W.cell? ⟨b, o, none⟩ = some v := Ext.cell (lt_of_cell h) h p
theorem Bw.cell' {w w' : World} {b o : Nat} {v : Value} (hb : Bw w w') (h : w.cell? ⟨b, o, none⟩ = some v) : w'.cell? ⟨b, o, none⟩ = some v := by rw [hb.cells.1 _ _ (lt_of_cell h)]; exact h
theorem Bw.frozen' {w w' : World} {b o : Nat} {v : Value} {x : Bool} (hb : Bw w w') (h : w.cell? ⟨b, o, none⟩ = some v) (hf : w.frozen? ⟨b, o, none⟩ = x) : w'.frozen? ⟨b, o, none⟩ = x := by rw [hb.cells.2 _ _ (lt_of_cell h)]; exact hf
theorem KeepsFrom.of_bw {B : Nat} {w w' : World} (h : Bw w w') : KeepsFrom B w w' := ⟨h.size, fun k o _ hk _ => (h.out.block k (Array.getElem?_eq_some_iff.1 hk).1).trans hk⟩
theorem KpB.of_bw {B : Nat} {w w' : World} (hB : B < w.heap.size) (h : Bw w w') : KpB B w w' := fun o => h.cells.1 B o hB
theorem KpB.set {B b o : Nat} {w : World} (u : Value) (h : b ≠ B) : KpB B w (w.setCell ⟨b, o, none⟩ u) := fun i => cell_set_ne _ _ _ _ _ _ h
end Go.Proofs.Sky

namespace Go.Proofs.Sky
open Go Go.RowKit Go.Shelf
/-- w has grown to w', but for block bl, which may have been written -/
structure Gr (bl : Nat) (w w' : World) : Prop where
  os : w'.os = w.os
  tape : w'.tape = w.tape
  output : w'.output = w.output
  size : w.heap.size ≤ w'.heap.size
  block : ∀ k, k < w.heap.size → k ≠ bl → w'.heap[k]? = w.heap[k]?
theorem Gr.refl (bl : Nat) (w : World) : Gr bl w w := ⟨rfl, rfl, rfl, Nat.le_refl _, fun _ _ _ => rfl⟩
theorem Gr.trans {bl : Nat} {a b c : World} (h : Gr bl a b) (k : Gr bl b c) : Gr bl a c :=
  ⟨k.os.trans h.os, k.tape.trans h.tape, k.output.trans h.output, Nat.le_trans h.size k.size, fun i hi hn => (k.block i (Nat.lt_of_lt_of_le hi h.size) hn).trans (h.block i hi hn)⟩
theorem Gr.of_bw {bl : Nat} {a b : World} (h : Bw a b) : Gr bl a b := ⟨h.out.os, h.out.tape, h.out.output, h.size, fun k hk _ => h.out.block k hk⟩
theorem Gr.bw {bl : Nat} {a b c : World} (h : Gr bl a b) (k : Bw b c) : Gr bl a c := h.trans (Gr.of_bw k)
theorem Gr.set {bl : Nat} {a b : World} (h : Gr bl a b) {p : Addr} (hp : p.block = bl ∨ a.heap.size ≤ p.block) (u : Value) : Gr bl a (b.setCell p u) :=
  have q := Below.setCell (Below.refl 0 b) (p := p) (Nat.zero_le _) u
  ⟨q.os.trans h.os, q.tape.trans h.tape, q.output.trans h.output, Nat.le_trans h.size q.size, fun k hk hn => (Below.heap_setCell _ _ _ _ (by omega)).trans (h.block k hk hn)⟩
theorem Gr.alloc {bl : Nat} {a b : World} (h : Gr bl a b) (o : Obj) : Gr bl a (b.alloc o) := h.bw (Bw.alloc (Bw.refl _) o)
theorem Gr.drew {bl : Nat} {a b : World} (h : Gr bl a b) : Gr bl a b.drew := h.bw (Bw.drew (Bw.refl _))
theorem Gr.shut {bl : Nat} {a b c : World} (h : Gr bl a b) (hS : Shut a.heap.size b c) : Gr bl a c := by
  have k := hS.below h.size
  exact ⟨k.os.trans h.os, k.tape.trans h.tape, k.output.trans h.output, Nat.le_trans h.size k.size, fun i hi hn => (k.block i hi).trans (h.block i hi hn)⟩
theorem Gr.cell {bl : Nat} {w w' : World} (h : Gr bl w w') {b : Nat} (o : Nat) (hb : b < w.heap.size) (hn : b ≠ bl) : w'.cell? ⟨b, o, none⟩ = w.cell? ⟨b, o, none⟩ := World.cell?_of_block (h.block b hb hn)
theorem Gr.frozen {bl : Nat} {w w' : World} (h : Gr bl w w') {b : Nat} (o : Nat) (hb : b < w.heap.size) (hn : b ≠ bl) : w'.frozen? ⟨b, o, none⟩ = w.frozen? ⟨b, o, none⟩ := World.frozen?_of_block (h.block b hb hn)
theorem Gr.K {bl : Nat} {w W W' : World} {row : Option Nat} {B : Nat} (h : Gr bl w W) (hB : w.heap.size ≤ B) (hg : W.grownBy W' row) (hr : ∀ r, row = some r → B ≤ r ∧ ∃ o : Obj, W.heap[r]? = some o ∧ o.isCells = false) : Gr bl w W' :=
  ⟨hg.os.trans h.os, hg.tape.trans h.tape, hg.output.trans h.output, Nat.le_trans h.size hg.size, fun k hk hn => (hg.block k (Nat.lt_of_lt_of_le hk h.size) (fun e => by have := (hr k e.symm).1; omega)).trans (h.block k hk hn)⟩
/-- a block that the call may write is its caller's own, laid since a: nothing below a turns -/
theorem Gr.to_bw {bl : Nat} {a b c : World} (h : Bw a b) (k : Gr bl b c) (hb : a.heap.size ≤ bl) : Bw a c :=
  ⟨k.os.trans h.out.os, k.tape.trans h.out.tape, k.output.trans h.out.output, Nat.le_trans h.size k.size, fun i hi => (k.block i (Nat.lt_of_lt_of_le hi h.size) (by omega)).trans (h.out.block i hi)⟩
end Go.Proofs.Sky
