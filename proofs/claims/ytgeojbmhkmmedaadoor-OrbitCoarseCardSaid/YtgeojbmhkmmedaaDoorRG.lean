/-
  lemmas for the theorems of this claim. No conditions beyond those written in the statements.
-/
import Derived.Test.YtgeojbmhkmmedaaDoorBase
import Derived.RangeFuncNested
import Derived.RangeFuncWrites
import Derived.RangeFuncBound
import Derived.RangeFuncCalls
import Derived.RangeFuncLeaves
import Derived.Shelf.Abstract
import Derived.Shelf.RegionOpen
import Derived.OwnWalkIn
import Derived.TacticsInMore
import Derived.LoopNIn
import Derived.LoopIn
import Derived.Test.YtgeojbmhkmmedaaDoorQTail
set_option linter.unusedVariables false
set_option linter.unusedSimpArgs false
set_option linter.unnecessarySimpa false
namespace Go.Proofs.Sky
open Go Go.RowKit Go.Shelf
def mk (D : Nat) : Deferred := { target := .collected D, args := #[] }
/-- the deferred calls of a frame are marks alone, each of an empty block from base on -/
def Marks (base : Nat) (ds : List Deferred) (w : World) : Prop := ∃ Ds : List Nat, ds = Ds.map mk ∧ Ds.Nodup ∧ ∀ D ∈ Ds, base ≤ D ∧ w.heap[D]? = some (.deferred (some []))
theorem Marks.nil (base : Nat) (w : World) : Marks base [] w := ⟨[], rfl, by simp, by simp⟩
theorem Marks.cons {base D : Nat} {ds : List Deferred} {w w' : World} (h : Marks base ds w) (hD : w.heap.size ≤ D) (hb : base ≤ w.heap.size) (hw : w'.heap[D]? = some (.deferred (some []))) (hk : ∀ E, E < w.heap.size → w.heap[E]? = some (.deferred (some [])) → w'.heap[E]? = some (.deferred (some []))) : Marks base (mk D :: ds) w' := by
  obtain ⟨Ds, rfl, hn, hd⟩ := h
  have lt : ∀ E ∈ Ds, E < w.heap.size := fun E hE => (Array.getElem?_eq_some_iff.1 (hd E hE).2).1
  refine ⟨D :: Ds, rfl, ?_, ?_⟩
  · refine List.nodup_cons.2 ⟨fun hm => ?_, hn⟩
    have := lt D hm; omega
  · intro E hE
    rcases List.mem_cons.1 hE with rfl | hE
    · exact ⟨by omega, hw⟩
    · exact ⟨(hd E hE).1, hk E (lt E hE) (hd E hE).2⟩
theorem Marks.one {base D : Nat} {w : World} (hb : base ≤ D) (hw : w.heap[D]? = some (.deferred (some []))) : Marks base [mk D] w := ⟨[D], rfl, by simp, fun E hE => by simp at hE; subst hE; exact ⟨hb, hw⟩⟩
theorem Marks.keep {base : Nat} {ds : List Deferred} {w w' : World} (h : Marks base ds w) (hk : ∀ E, base ≤ E → w.heap[E]? = some (.deferred (some [])) → w'.heap[E]? = some (.deferred (some []))) : Marks base ds w' := by
  obtain ⟨Ds, rfl, hn, hd⟩ := h
  exact ⟨Ds, rfl, hn, fun E hE => ⟨(hd E hE).1, hk E (hd E hE).1 (hd E hE).2⟩⟩
/-- the world with such blocks shut -/
structure Shut (base : Nat) (w w' : World) : Prop where
  size : w'.heap.size = w.heap.size
  block : ∀ (k : Nat) (o : Obj), w.heap[k]? = some o → o.isCells = true → w'.heap[k]? = some o
  below : base ≤ w.heap.size → Below base w w'
  cell : ∀ b o v, w.cell? ⟨b, o, none⟩ = some v → w'.cell? ⟨b, o, none⟩ = some v
theorem Shut.refl (base : Nat) (w : World) : Shut base w w := ⟨rfl, fun _ _ h _ => h, fun _ => Below.refl _ _, fun _ _ _ h => h⟩
theorem Shut.put {base D : Nat} {w w' : World} (h : Shut base (w.putObj D (.deferred none)) w') (hb : base ≤ D) (hw : w.heap[D]? = some (.deferred (some []))) : Shut base w w' := by
  refine ⟨h.size.trans (by simp), fun k o hk ho => h.block k o ?_ ho, fun hB => ?_, fun b o v hv => h.cell b o v ?_⟩
  · rw [World.putObj_heap_other (fun e => by subst e; rw [hw] at hk; cases hk; cases ho)]; exact hk
  · exact ((Below.refl base w).grown (grownBy_putObj' w D _) hB (fun k e => by cases e; omega)).trans (h.below (by simpa using hB))
  · exact cell_kept hv (grownBy_putObj' w D _) (fun r e => by cases e; exact ⟨_, hw, rfl⟩)
theorem Shut.frozen {base : Nat} {w w' : World} (h : Shut base w w') {b o : Nat} {v : Value} (hc : w.cell? ⟨b, o, none⟩ = some v) : w'.frozen? ⟨b, o, none⟩ = w.frozen? ⟨b, o, none⟩ := by
  obtain ⟨ob, ho, hcells⟩ := cells_of_cell hc
  exact World.frozen?_of_block ((h.block _ _ ho hcells).trans ho.symm)
theorem leavesM_marks {P : Program} {fn : Func} {tmps : Array Value} {R : Ending → World → Prop} {base : Nat} : ∀ (Ds : List Nat) (w : World), Ds.Nodup → (∀ D ∈ Ds, base ≤ D ∧ w.heap[D]? = some (.deferred (some []))) →
    (∀ w', Shut base w w' → ∃ v, (results fn tmps).run P w' = .ok v w' ∧ R (.returned v) w') → ∀ n, LeavesInM Fence.wide n P fn tmps R (Ds.map mk) .returning w := by
  intro Ds
  induction Ds with
  | nil => intro w _ _ h n; exact h w (Shut.refl _ _)
  | cons D Ds ih =>
    intro w hn hd h n
    obtain ⟨hb, hw⟩ := hd D (by simp)
    have hn' := List.nodup_cons.1 hn
    refine ⟨by simp, .inl ⟨D, _, rfl, run_takeDeferred hw, ih _ hn'.2 (fun E hE => ?_) (fun w' hS => h w' (hS.put hb hw)) n⟩⟩
    obtain ⟨hb', hw'⟩ := hd E (by simp [hE])
    exact ⟨hb', by
      have hne : D ≠ E := fun e => hn'.1 (by rw [e]; exact hE)
      rw [World.putObj_heap_other (by omega)]; exact hw'⟩
theorem Bw.shut {w W W' : World} (h : Bw w W) (hS : Shut w.heap.size W W') : Bw w W' := Below.trans h (hS.below h.size)
/-- what the body of a function that holds ranges over functions must achieve -/
def postM (base : Nat) (P : Program) (fn : Func) (R : Ending → World → Prop) : Exit → Act → World → Prop
  | .normal, a, w | .ret, a, w => Marks base a.defers w ∧ ∀ w', Shut base w w' → ∃ v, (results fn a.tmps).run P w' = .ok v w' ∧ R (.returned v) w'
  | .outgrown, _, w => R .outgrown w
  | _, _, _ => False
theorem calls_of_marks {P : Program} {f : FuncId} {fn : Func} {c : Code} {args : Array Value} {w : World} {R : Ending → World → Prop} (base : Nat)
    (hf : P.funcs[f]? = some fn) (hb : fn.body = some c) (h : c.wp P (postM base P fn R) { tmps := args ++ Array.replicate (fn.ntmps - args.size) undef, defers := [] } w) : Calls P f args w R := by
  refine (callsIn_wide (n := 0)).1 (callsIn_of_wp_marks hf hb trivial (wpIn_wide.2 (wp_mono h ?_)) rfl)
  rintro e a W hp
  cases e with
  | normal => obtain ⟨⟨Ds, hd, hn, hm⟩, hr⟩ := hp; show LeavesInM _ _ _ _ _ _ _ _ _; rw [hd]; exact leavesM_marks Ds W hn hm hr _
  | ret => obtain ⟨⟨Ds, hd, hn, hm⟩, hr⟩ := hp; show LeavesInM _ _ _ _ _ _ _ _ _; rw [hd]; exact leavesM_marks Ds W hn hm hr _
  | exit _ => exact hp.elim
  | goto _ => exact hp.elim
  | panic _ => exact hp.elim
  | outgrown => exact hp
/-- what a round must keep for an iterator that reads block B -/
def KpB (B : Nat) (W W' : World) : Prop := ∀ o, W'.cell? ⟨B, o, none⟩ = W.cell? ⟨B, o, none⟩
theorem kpB_t {B : Nat} {X Y Z : World} (h : KpB B X Y) (k : KpB B Y Z) : KpB B X Z := fun o => (k o).trans (h o)
theorem kpB_b {B n : Nat} (hB : B < n) (W : World) (l : Nat) (o o' : Obj) (hl : n ≤ l) (_ : W.heap[l]? = some o) (_ : o.isCells = false) (_ : o.isWalk = false) : KpB B W (W.putObj l o') := fun i =>
  World.cell?_of_block (World.putObj_heap_other (by show B ≠ l; omega))
/-- the law of a range over a function, in the walk of a plain function -/
theorem wp_rangeFunc {P : Program} {α : Type} {g : Operand} {ps : Array Tmp} {assign body : Code} {Q : Exit → Act → World → Prop} {a : Act} {w : World}
    {gf : Nat} {lb : Array Value} (hg : a.eval g = .func (.func gf) #[] lb) (eg : ∀ args w, (callFunc gf args).run P w = .ok (.enter gf args) w)
    {encs : α → Array Value} {Kp : World → World → Prop} {S Sp : List α → Prop} {N : Nat} (hseq : SeqStopsK Fence.wide 9 P gf lb encs Kp S Sp N w)
    (hKt : ∀ {A B C : World}, Kp A B → Kp B C → Kp A C) (hKb : ∀ (W : World) (l : Nat) (o o' : Obj), w.heap.size ≤ l → W.heap[l]? = some o → o.isCells = false → o.isWalk = false → Kp W (W.putObj l o')) (hps : ∀ x, (encs x).size = ps.size)
    (I : List α → World → Prop) (Ix : Code → List α → World → Prop) (hI : OwnFrom w.heap.size I) (hIx : ∀ c, OwnFrom w.heap.size (Ix c)) (h0 : I [] w) (a₁ : α → Act)
    (hassign : ∀ (l : Nat) (x : α) (W : World) (K : Act → World → Prop), K (a₁ x) W →
      assign.wpIn (Fence.wide.inRound l) 8 P (Exit.then K (fun _ _ _ => False)) { tmps := (ps.zip (encs x)).foldl (fun t (p, v) => t.setIfInBounds p v) a.tmps, defers := [] } W)
    (hbody : ∀ (l : Nat) (pre : List α) (x : α) (W : World), I pre W → pre.length < N → body.wpIn (Fence.wide.inRound l) 8 P (ownPostG w.heap.size Kp I Ix (pre ++ [x]) W) (a₁ x) W)
    (hdone : ∀ (D : Nat) (xs : List α) (W : World), w.heap.size ≤ D → S xs → I xs W → W.heap[D]? = some (.deferred (some [])) → Q .normal { a with defers := mk D :: a.defers } W)
    (hstop : ∀ (D : Nat) (c : Code) (pre : List α) (W : World), w.heap.size ≤ D → Sp pre → Ix c pre W → W.heap[D]? = some (.deferred (some [])) → c.wp P Q { a with defers := mk D :: a.defers } W) :
    (Code.rangeFunc g ps assign body).wp P Q a w :=
  wpIn_wide.1 (wpIn_rangeFunc_ownG (F := Fence.wide) (n := 10) rfl (by decide) hg trivial eg hseq hKt hKb (Below.refl _ _) hps I Ix hI hIx h0 a₁ hassign hbody hdone (fun D c pre W h1 h2 h3 h4 => wpIn_wide.2 (hstop D c pre W h1 h2 h3 h4)))
end Go.Proofs.Sky

namespace Go.Proofs.Sky
open Go Go.RowKit Go.Shelf
section
variable {P : Program} {ops : Array Oper} {Q : Exit → Act → World → Prop} {l n : Nat}
def noDefer (o : Oper) : Bool := match o.op with | .defer _ => false | _ => true
theorem noDefer_spec {o : Oper} (h : noDefer o = true) : ∀ c, o.op ≠ .defer c := by
  intro c hc; unfold noDefer at h; rw [hc] at h; cases h
theorem callsIn_round {f : FuncId} {args : Array Value} {w : World} {R : Ending → World → Prop} (h : Calls P f args w R) : CallsIn (Fence.wide.inRound l) n P f args w R := CallsIn.inRound l (callsIn_wide.2 h)
theorem Oper.wpIn_round {o : Oper} {a : Act} {w : World} {K : Act → World → Prop} (hd : noDefer o = true) (h : o.wp P a w K Q) : o.wpIn (Fence.wide.inRound l) n P a w K Q := by
  refine ⟨fun f _ => trivial, ?_⟩
  show o.uponIn _ n P a K Q ((o.semAt (some l) a.eval).run P w)
  rw [Oper.semAt_some l _ _ (noDefer_spec hd)]
  unfold Oper.wp at h
  generalize (execOp a.eval o).run P w = r at h ⊢
  cases r with
  | ok x w' =>
    cases x with
    | value v => exact h
    | skip => exact h
    | defer d => exact h
    | enter f args => exact ⟨fun hh => by simp [Fence.wide] at hh, callsIn_round h⟩
    | row r args => exact ⟨fun hh => by simp [Fence.wide] at hh, fun c cs _ => let ⟨v, w'', hr, hs⟩ := h c cs; ⟨v, w'', hr, stepsIn_wide.2 hs⟩⟩
    | _ => first | exact h.elim | exact h
  | halt x w' => cases x <;> first | exact h | exact h.elim
theorem wpListIn_round (hQ : ¬ LetsOut Q) : ∀ (rest : List Oper) (a : Act) (w : World), rest.all noDefer = true → wpList P ops Q rest a w → wpListIn (Fence.wide.inRound l) n P ops Q rest a w := by
  intro rest
  induction rest with
  | nil => exact fun a w _ h => h
  | cons o rest ih =>
    intro a w hd h
    simp only [List.all_cons, Bool.and_eq_true] at hd
    unfold wpList at h
    unfold wpListIn
    split
    · rename_i hw
      rw [if_pos hw] at h
      rcases h with h | ⟨_, h⟩
      · exact Oper.wpIn_mono (fun a w hh => ih a w hd.2 hh) (Oper.wpIn_round hd.1 h)
      · exact absurd h hQ
    · rename_i hw
      rw [if_neg hw] at h
      exact ⟨fun f _ => trivial, ih _ _ hd.2 h⟩
theorem wpIn_region_round {id : Nat} {L : List Oper} {a : Act} {w : World} (hd : L.all noDefer = true) (hQ : ¬ LetsOut Q) (h : wpList P L.toArray Q L a w) : (Code.region id L.toArray false).wpIn (Fence.wide.inRound l) n P Q a w :=
  wpIn_region_lit (wpListIn_round hQ L a w hd h)
theorem wpAnyIn_round {md : Region.Mode} (hQ : ¬ LetsOut Q) (hd : ops.all noDefer = true) : ∀ (fuel : Nat) (done : Array Bool) (a : Act) (w : World), wpAny P md ops Q fuel done a w → wpAnyIn (Fence.wide.inRound l) n P md ops Q fuel done a w := by
  intro fuel
  induction fuel with
  | zero => exact fun done a w h => h
  | succ fuel ih =>
    intro done a w h
    refine ⟨h.1, fun i hi => ?_⟩
    have hh := h.2 i hi
    unfold wpOp at hh
    unfold wpOpIn
    cases ho : ops[i]? with
    | none => rw [ho] at hh; exact ih _ _ _ hh
    | some o =>
      rw [ho] at hh
      simp only at hh ⊢
      split
      · rename_i hw
        rw [if_pos hw] at hh
        rcases hh with hh | ⟨_, hh⟩
        · exact Oper.wpIn_mono (fun a w h' => ih _ a w h') (Oper.wpIn_round (by
            have := Array.all_eq_true.1 hd i (Array.getElem?_eq_some_iff.1 ho).1
            obtain ⟨h1, h2⟩ := Array.getElem?_eq_some_iff.1 ho
            rwa [h2] at this) hh)
        · exact absurd hh hQ
      · rename_i hw
        rw [if_neg hw] at hh
        exact ⟨fun f _ => trivial, ih _ _ _ hh⟩
theorem wpIn_any_round {id : Nat} {a : Act} {w : World} (hm : P.follows .mixedOrders = true) (hd : ops.all noDefer = true) (hQ : ¬ LetsOut Q) (h : wpAny P .any ops Q ops.size (Array.replicate ops.size false) a { w with drawn := w.drawn + 1 }) : (Code.region id ops true).wpIn (Fence.wide.inRound l) n P Q a w :=
  wpIn_region_any hm (wpAnyIn_round hQ hd _ _ _ _ h)
/-- in a round: a region that draws its order, reads and calls, all of it -/
theorem wpIn_region_ext {id : Nat} {a : Act} {w : World} {L : List Oper} (hm : P.follows .mixedOrders = true) (hd : L.toArray.all noDefer = true) (hQ : ¬ LetsOut Q) (hB : Region.lexB .any L.toArray = true)
    (h : wpQuiet P L.toArray (fun w' => ∃ p : Ext w, w' = p.W) (fun a' => ∀ w', (∃ p : Ext w, w' = p.W) → Q .normal a' w') L a) : (Code.region id L.toArray true).wpIn (Fence.wide.inRound l) n P Q a w :=
  wpIn_any_round hm hd hQ (wpAny_quiet_all (C := fun w' => ∃ p : Ext w, w' = p.W) hB ⟨⟨{ w with drawn := w.drawn + 1 }, Bw.drew (Bw.refl w)⟩, rfl⟩ h)
/-- .. with a forced tail -/
theorem wpIn_region_ext_tail {id : Nat} {a : Act} {w : World} {L : List Oper} (k : Nat) (hm : P.follows .mixedOrders = true) (hd : L.toArray.all noDefer = true) (hQ : ¬ LetsOut Q) (hB : Region.lexTailB .any L.toArray k = true)
    (h : wpQuiet P L.toArray (fun w' => ∃ p : Ext w, w' = p.W) (fun a' => ∀ w', (∃ p : Ext w, w' = p.W) → wpList P L.toArray Q (L.drop k) a' w') (L.take k) a) : (Code.region id L.toArray true).wpIn (Fence.wide.inRound l) n P Q a w :=
  wpIn_any_round hm hd hQ (wpAny_quiet_tail (C := fun w' => ∃ p : Ext w, w' = p.W) k hB ⟨⟨{ w with drawn := w.drawn + 1 }, Bw.drew (Bw.refl w)⟩, rfl⟩ h)
/-- .. only reads: the world is as it was but for the draws -/
theorem wpIn_region_drew_tail {id : Nat} {a : Act} {w : World} {L : List Oper} (k : Nat) (hm : P.follows .mixedOrders = true) (hd : L.toArray.all noDefer = true) (hQ : ¬ LetsOut Q) (hB : Region.lexTailB .any L.toArray k = true)
    (h : wpQuiet P L.toArray (fun w' => w' = w.drew) (fun a' => wpList P L.toArray Q (L.drop k) a' w.drew) (L.take k) a) : (Code.region id L.toArray true).wpIn (Fence.wide.inRound l) n P Q a w :=
  wpIn_any_round hm hd hQ (wpAny_quiet_tail (C := fun w' => w' = w.drew) k hB rfl (by
    have : (fun a' => wpList P L.toArray Q (L.drop k) a' w.drew) = (fun a' => ∀ w', w' = w.drew → wpList P L.toArray Q (L.drop k) a' w') := by
      funext a'; exact propext ⟨fun h w' e => by subst e; exact h, fun h => h _ rfl⟩
    rw [← this]; exact h))
theorem wp_region_drew_tail {id : Nat} {a : Act} {w : World} {L : List Oper} (k : Nat) (hm : P.follows .mixedOrders = true) (hB : Region.lexTailB .any L.toArray k = true)
    (h : wpQuiet P L.toArray (fun w' => w' = w.drew) (fun a' => wpList P L.toArray Q (L.drop k) a' w.drew) (L.take k) a) : (Code.region id L.toArray true).wp P Q a w :=
  wp_region_any hm (wpAny_quiet_tail (C := fun w' => w' = w.drew) k hB rfl (by
    have : (fun a' => wpList P L.toArray Q (L.drop k) a' w.drew) = (fun a' => ∀ w', w' = w.drew → wpList P L.toArray Q (L.drop k) a' w') := by
      funext a'; exact propext ⟨fun h w' e => by subst e; exact h, fun h => h _ rfl⟩
    rw [← this]; exact h))
end
theorem lt_of_cell {w : World} {b o : Nat} {v : Value} (h : w.cell? ⟨b, o, none⟩ = some v) : b < w.heap.size := by
  rcases Nat.lt_or_ge b w.heap.size with h' | h'
  · exact h'
  · simp [World.cell?, Array.getElem?_eq_none h'] at h
theorem Ext.cell' {w : World} {b o : Nat} {v : Value} (h : w.cell? ⟨b, o, none⟩ = some v) (p : Ext w) : p.W.cell? ⟨b, o, none⟩ = some v := Ext.cell (lt_of_cell h) h p
theorem Bw.cell' {w w' : World} {b o : Nat} {v : Value} (hb : Bw w w') (h : w.cell? ⟨b, o, none⟩ = some v) : w'.cell? ⟨b, o, none⟩ = some v := by rw [hb.cells.1 _ _ (lt_of_cell h)]; exact h
theorem Bw.frozen' {w w' : World} {b o : Nat} {v : Value} {x : Bool} (hb : Bw w w') (h : w.cell? ⟨b, o, none⟩ = some v) (hf : w.frozen? ⟨b, o, none⟩ = x) : w'.frozen? ⟨b, o, none⟩ = x := by rw [hb.cells.2 _ _ (lt_of_cell h)]; exact hf
theorem KeepsFrom.of_bw {B : Nat} {w w' : World} (h : Bw w w') : KeepsFrom B w w' := ⟨h.size, fun k o _ hk _ => (h.out.block k (Array.getElem?_eq_some_iff.1 hk).1).trans hk⟩
theorem KpB.of_bw {B : Nat} {w w' : World} (hB : B < w.heap.size) (h : Bw w w') : KpB B w w' := fun o => h.cells.1 B o hB
theorem KpB.set {B b o : Nat} {w : World} (u : Value) (h : b ≠ B) : KpB B w (w.setCell ⟨b, o, none⟩ u) := fun i => cell_set_ne _ _ _ _ _ _ h
end Go.Proofs.Sky

namespace Go.Proofs.Sky
open Go Go.RowKit Go.Shelf
/-- w has grown to w', but for block bl, which may have been written -/
structure Gr (bl : Nat) (w w' : World) : Prop where
  os : w'.os = w.os
  tape : w'.tape = w.tape
  output : w'.output = w.output
  size : w.heap.size ≤ w'.heap.size
  block : ∀ k, k < w.heap.size → k ≠ bl → w'.heap[k]? = w.heap[k]?
theorem Gr.refl (bl : Nat) (w : World) : Gr bl w w := ⟨rfl, rfl, rfl, Nat.le_refl _, fun _ _ _ => rfl⟩
theorem Gr.trans {bl : Nat} {a b c : World} (h : Gr bl a b) (k : Gr bl b c) : Gr bl a c :=
  ⟨k.os.trans h.os, k.tape.trans h.tape, k.output.trans h.output, Nat.le_trans h.size k.size, fun i hi hn => (k.block i (Nat.lt_of_lt_of_le hi h.size) hn).trans (h.block i hi hn)⟩
theorem Gr.of_bw {bl : Nat} {a b : World} (h : Bw a b) : Gr bl a b := ⟨h.out.os, h.out.tape, h.out.output, h.size, fun k hk _ => h.out.block k hk⟩
theorem Gr.bw {bl : Nat} {a b c : World} (h : Gr bl a b) (k : Bw b c) : Gr bl a c := h.trans (Gr.of_bw k)
theorem Gr.set {bl : Nat} {a b : World} (h : Gr bl a b) {p : Addr} (hp : p.block = bl ∨ a.heap.size ≤ p.block) (u : Value) : Gr bl a (b.setCell p u) :=
  have q := Below.setCell (Below.refl 0 b) (p := p) (Nat.zero_le _) u
  ⟨q.os.trans h.os, q.tape.trans h.tape, q.output.trans h.output, Nat.le_trans h.size q.size, fun k hk hn => (Below.heap_setCell _ _ _ _ (by omega)).trans (h.block k hk hn)⟩
theorem Gr.alloc {bl : Nat} {a b : World} (h : Gr bl a b) (o : Obj) : Gr bl a (b.alloc o) := h.bw (Bw.alloc (Bw.refl _) o)
theorem Gr.drew {bl : Nat} {a b : World} (h : Gr bl a b) : Gr bl a b.drew := h.bw (Bw.drew (Bw.refl _))
theorem Gr.shut {bl : Nat} {a b c : World} (h : Gr bl a b) (hS : Shut a.heap.size b c) : Gr bl a c := by
  have k := hS.below h.size
  exact ⟨k.os.trans h.os, k.tape.trans h.tape, k.output.trans h.output, Nat.le_trans h.size k.size, fun i hi hn => (k.block i hi).trans (h.block i hi hn)⟩
theorem Gr.cell {bl : Nat} {w w' : World} (h : Gr bl w w') {b : Nat} (o : Nat) (hb : b < w.heap.size) (hn : b ≠ bl) : w'.cell? ⟨b, o, none⟩ = w.cell? ⟨b, o, none⟩ := World.cell?_of_block (h.block b hb hn)
theorem Gr.frozen {bl : Nat} {w w' : World} (h : Gr bl w w') {b : Nat} (o : Nat) (hb : b < w.heap.size) (hn : b ≠ bl) : w'.frozen? ⟨b, o, none⟩ = w.frozen? ⟨b, o, none⟩ := World.frozen?_of_block (h.block b hb hn)
theorem Gr.K {bl : Nat} {w W W' : World} {row : Option Nat} {B : Nat} (h : Gr bl w W) (hB : w.heap.size ≤ B) (hg : W.grownBy W' row) (hr : ∀ r, row = some r → B ≤ r ∧ ∃ o : Obj, W.heap[r]? = some o ∧ o.isCells = false) : Gr bl w W' :=
  ⟨hg.os.trans h.os, hg.tape.trans h.tape, hg.output.trans h.output, Nat.le_trans h.size hg.size, fun k hk hn => (hg.block k (Nat.lt_of_lt_of_le hk h.size) (fun e => by have := (hr k e.symm).1; omega)).trans (h.block k hk hn)⟩
/-- a block that the call may write is its caller's own, laid since a: nothing below a turns -/
theorem Gr.to_bw {bl : Nat} {a b c : World} (h : Bw a b) (k : Gr bl b c) (hb : a.heap.size ≤ bl) : Bw a c :=
  ⟨k.os.trans h.out.os, k.tape.trans h.out.tape, k.output.trans h.out.output, Nat.le_trans h.size k.size, fun i hi => (k.block i (Nat.lt_of_lt_of_le hi h.size) (by omega)).trans (h.out.block i hi)⟩
end Go.Proofs.Sky
