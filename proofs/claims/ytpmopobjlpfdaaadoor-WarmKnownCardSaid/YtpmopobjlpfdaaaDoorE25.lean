/-
  lemmas for the theorems of this claim. No conditions beyond those written in the statements.
-/
import Derived.Test.YtpmopobjlpfdaaaDoorP25L
import Derived.RangeFuncNested
import Derived.RangeFuncWrites
import Derived.RangeFuncBound
import Derived.RangeFuncCalls
import Derived.RangeFuncLeaves
import Derived.Shelf.Abstract
import Derived.Shelf.RegionOpen
import Derived.OwnWalkIn
import Derived.TacticsInMore
import Derived.LoopNIn
import Derived.LoopIn
import Derived.Test.YtpmopobjlpfdaaaDoorA25
set_option linter.unusedVariables false
set_option linter.unusedSimpArgs false
set_option linter.unnecessarySimpa false
namespace Go.Proofs.Sky
open Go Go.RowKit Go.Shelf
def mk (D : Nat) : Deferred := { target := .collected D, args := #[] }
/-- the deferred calls of a frame are marks alone, each of an empty block from base on -/
def Marks (base : Nat) (ds : List Deferred) (w : World) : Prop := ∃ Ds : List Nat, ds = Ds.map mk ∧ Ds.Nodup ∧ ∀ D ∈ Ds, base ≤ D ∧ w.heap[D]? = some (.deferred (some []))
theorem Marks.nil (base : Nat) (w : World) : Marks base [] w := ⟨[], rfl, by simp, by simp⟩
theorem Marks.cons {base D : Nat} {ds : List Deferred} {w w' : World} (h : Marks base ds w) (hD : w.heap.size ≤ D) (hb : base ≤ w.heap.size) (hw : w'.heap[D]? = some (.deferred (some []))) (hk : ∀ E, E < w.heap.size → w.heap[E]? = some (.deferred (some [])) → w'.heap[E]? = some (.deferred (some []))) : Marks base (mk D :: ds) w' := by
  obtain ⟨Ds, rfl, hn, hd⟩ := h
  have lt : ∀ E ∈ Ds, E < w.heap.size := fun E hE => (Array.getElem?_eq_some_iff.1 (hd E hE).2).1
  refine ⟨D :: Ds, rfl, ?_, ?_⟩
  · refine List.nodup_cons.2 ⟨fun hm => ?_, hn⟩
    have := lt D hm; omega
  · intro E hE
    rcases List.mem_cons.1 hE with rfl | hE
    · exact ⟨by omega, hw⟩
    · exact ⟨(hd E hE).1, hk E (lt E hE) (hd E hE).2⟩
theorem Marks.one {base D : Nat} {w : World} (hb : base ≤ D) (hw : w.heap[D]? = some (.deferred (some []))) : Marks base [mk D] w := ⟨[D], rfl, by simp, fun E hE => by simp at hE; subst hE; exact ⟨hb, hw⟩⟩
theorem Marks.keep {base : Nat} {ds : List Deferred} {w w' : World} (h : Marks base ds w) (hk : ∀ E, base ≤ E → w.heap[E]? = some (.deferred (some [])) → w'.heap[E]? = some (.deferred (some []))) : Marks base ds w' := by
  obtain ⟨Ds, rfl, hn, hd⟩ := h
  exact ⟨Ds, rfl, hn, fun E hE => ⟨(hd E hE).1, hk E (hd E hE).1 (hd E hE).2⟩⟩
/-- the world with such blocks shut -/
structure Shut (base : Nat) (w w' : World) : Prop where
  size : w'.heap.size = w.heap.size
  block : ∀ (k : Nat) (o : Obj), w.heap[k]? = some o → o.isCells = true → w'.heap[k]? = some o
  below : base ≤ w.heap.size → Below base w w'
  cell : ∀ b o v, w.cell? ⟨b, o, none⟩ = some v → w'.cell? ⟨b, o, none⟩ = some v
theorem Shut.refl (base : Nat) (w : World) : Shut base w w := ⟨rfl, fun _ _ h _ => h, fun _ => Below.refl _ _, fun _ _ _ h => h⟩
theorem Shut.put {base D : Nat} {w w' : World} (h : Shut base (w.putObj D (.deferred none)) w') (hb : base ≤ D) (hw : w.heap[D]? = some (.deferred (some []))) : Shut base w w' := by
  refine ⟨h.size.trans (by simp), fun k o hk ho => h.block k o ?_ ho, fun hB => ?_, fun b o v hv => h.cell b o v ?_⟩
  · rw [World.putObj_heap_other (fun e => by subst e; rw [hw] at hk; cases hk; cases ho)]; exact hk
  · exact ((Below.refl base w).grown (grownBy_putObj' w D _) hB (fun k e => by cases e; omega)).trans (h.below (by simpa using hB))
  · exact cell_kept hv (grownBy_putObj' w D _) (fun r e => by cases e; exact ⟨_, hw, rfl⟩)
theorem Shut.frozen {base : Nat} {w w' : World} (h : Shut base w w') {b o : Nat} {v : Value} (hc : w.cell? ⟨b, o, none⟩ = some v) : w'.frozen? ⟨b, o, none⟩ = w.frozen? ⟨b, o, none⟩ := by
  obtain ⟨ob, ho, hcells⟩ := cells_of_cell hc
  exact World.frozen?_of_block ((h.block _ _ ho hcells).trans ho.symm)
theorem leavesM_marks {P : Program} {fn : Func} {tmps : Array Value} {R : Ending → World → Prop} {base : Nat} : ∀ (Ds : List Nat) (w : World), Ds.Nodup → (∀ D ∈ Ds, base ≤ D ∧ w.heap[D]? = some (.deferred (some []))) →
    (∀ w', Shut base w w' → ∃ v, (results fn tmps).run P w' = .ok v w' ∧ R (.returned v) w') → ∀ n, LeavesInM Fence.wide n P fn tmps R (Ds.map mk) .returning w := by
  intro Ds
  induction Ds with
  | nil => intro w _ _ h n; exact h w (Shut.refl _ _)
  | cons D Ds ih =>
    intro w hn hd h n
    obtain ⟨hb, hw⟩ := hd D (by simp)
    have hn' := List.nodup_cons.1 hn
    refine ⟨by simp, .inl ⟨D, _, rfl, run_takeDeferred hw, ih _ hn'.2 (fun E hE => ?_) (fun w' hS => h w' (hS.put hb hw)) n⟩⟩
    obtain ⟨hb', hw'⟩ := hd E (by simp [hE])
    exact ⟨hb', by
      have hne : D ≠ E := fun e => hn'.1 (by rw [e]; exact hE)
      rw [World.putObj_heap_other (by omega)]; exact hw'⟩
theorem Bw.shut {w W W' : World} (h : Bw w W) (hS : Shut w.heap.size W W') : Bw w W' := Below.trans h (hS.below h.size)
/-- what the body of a function that holds ranges over functions must achieve -/
def postM (base : Nat) (P : Program) (fn : Func) (R : Ending → World → Prop) : Exit → Act → World → Prop
  | .normal, a, w | .ret, a, w => Marks base a.defers w ∧ ∀ w', Shut base w w' → ∃ v, (results fn a.tmps).run P w' = .ok v w' ∧ R (.returned v) w'
  | .outgrown, _, w => R .outgrown w
  | _, _, _ => False
theorem calls_of_marks {P : Program} {f : FuncId} {fn : Func} {c : Code} {args : Array Value} {w : World} {R : Ending → World → Prop} (base : Nat)
    (hf : P.funcs[f]? = some fn) (hb : fn.body = some c) (h : c.wp P (postM base P fn R) { tmps := args ++ Array.replicate (fn.ntmps - args.size) undef, defers := [] } w) : Calls P f args w R := by
  refine (callsIn_wide (n := 0)).1 (callsIn_of_wp_marks hf hb trivial (wpIn_wide.2 (wp_mono h ?_)) rfl)
  rintro e a W hp
  cases e with
  | normal => obtain ⟨⟨Ds, hd, hn, hm⟩, hr⟩ := hp; show LeavesInM _ _ _ _ _ _ _ _ _; rw [hd]; exact leavesM_marks Ds W hn hm hr _
  | ret => obtain ⟨⟨Ds, hd, hn, hm⟩, hr⟩ := hp; show LeavesInM _ _ _ _ _ _ _ _ _; rw [hd]; exact leavesM_marks Ds W hn hm hr _
  | exit _ => exact hp.elim
  | goto _ => exact hp.elim
  | panic _ => exact hp.elim
  | outgrown => exact hp
/-- what a round must keep for an iterator that reads block B -/
def KpB (B : Nat) (W W' : World) : Prop := ∀ o, W'.cell? ⟨B, o, none⟩ = W.cell? ⟨B, o, none⟩
theorem kpB_t {B : Nat} {X Y Z : World} (h : KpB B X Y) (k : KpB B Y Z) : KpB B X Z := fun o => (k o).trans (h o)
theorem kpB_b {B n : Nat} (hB : B < n) (W : World) (l : Nat) (o o' : Obj) (hl : n ≤ l) (_ : W.heap[l]? = some o) (_ : o.isCells = false) (_ : o.isWalk = false) : KpB B W (W.putObj l o') := fun i =>
  World.cell?_of_block (World.putObj_heap_other (by show B ≠ l; omega))
/-- the law of a range over a function, in the walk of a plain function -/
theorem wp_rangeFunc {P : Program} {α : Type} {g : Operand} {ps : Array Tmp} {assign body : Code} {Q : Exit → Act → World → Prop} {a : Act} {w : World}
    {gf : Nat} {lb : Array Value} (hg : a.eval g = .func (.func gf) #[] lb) (eg : ∀ args w, (callFunc gf args).run P w = .ok (.enter gf args) w)
    {encs : α → Array Value} {Kp : World → World → Prop} {S Sp : List α → Prop} {N : Nat} (hseq : SeqStopsK Fence.wide 9 P gf lb encs Kp S Sp N w)
    (hKt : ∀ {A B C : World}, Kp A B → Kp B C → Kp A C) (hKb : ∀ (W : World) (l : Nat) (o o' : Obj), w.heap.size ≤ l → W.heap[l]? = some o → o.isCells = false → o.isWalk = false → Kp W (W.putObj l o')) (hps : ∀ x, (encs x).size = ps.size)
    (I : List α → World → Prop) (Ix : Code → List α → World → Prop) (hI : OwnFrom w.heap.size I) (hIx : ∀ c, OwnFrom w.heap.size (Ix c)) (h0 : I [] w) (a₁ : α → Act)
    (hassign : ∀ (l : Nat) (x : α) (W : World) (K : Act → World → Prop), K (a₁ x) W →
      assign.wpIn (Fence.wide.inRound l) 8 P (Exit.then K (fun _ _ _ => False)) { tmps := (ps.zip (encs x)).foldl (fun t (p, v) => t.setIfInBounds p v) a.tmps, defers := [] } W)
    (hbody : ∀ (l : Nat) (pre : List α) (x : α) (W : World), I pre W → pre.length < N → body.wpIn (Fence.wide.inRound l) 8 P (ownPostG w.heap.size Kp I Ix (pre ++ [x]) W) (a₁ x) W)
    (hdone : ∀ (D : Nat) (xs : List α) (W : World), w.heap.size ≤ D → S xs → I xs W → W.heap[D]? = some (.deferred (some [])) → Q .normal { a with defers := mk D :: a.defers } W)
    (hstop : ∀ (D : Nat) (c : Code) (pre : List α) (W : World), w.heap.size ≤ D → Sp pre → Ix c pre W → W.heap[D]? = some (.deferred (some [])) → c.wp P Q { a with defers := mk D :: a.defers } W) :
    (Code.rangeFunc g ps assign body).wp P Q a w :=
  wpIn_wide.1 (wpIn_rangeFunc_ownG (F := Fence.wide) (n := 10) rfl (by decide) hg trivial eg hseq hKt hKb (Below.refl _ _) hps I Ix hI hIx h0 a₁ hassign hbody hdone (fun D c pre W h1 h2 h3 h4 => wpIn_wide.2 (hstop D c pre W h1 h2 h3 h4)))
end Go.Proofs.Sky

namespace Go.Proofs.Sky
open Go Go.RowKit Go.Shelf
attribute [local go_sem] Oper.semAt_some
set_option maxHeartbeats 1000000
def cl (N x : Nat) : Nat := min x (N - 1)
theorem cl_lt (N x : Nat) (h : 0 < N) : cl N x < N := by unfold cl; omega
theorem cl_of (N x : Nat) (h : x < N) : cl N x = x := by unfold cl; omega
def encP (a : Int) (N : Nat) (x : Nat) : Array Value := #[.int .i64 (a + cl N x), .int .i64 (N - 1 - cl N x)]
end Go.Proofs.Sky

namespace Go.Proofs.Sky
open Go Go.RowKit Go.Shelf
attribute [local go_sem] Oper.semAt_some
set_option maxHeartbeats 1000000
theorem map_cl (N : Nat) : ∀ k, k ≤ N → (List.range k).map (cl N) = List.range k := by
  intro k hk
  conv => rhs; rw [← List.map_id (List.range k)]
  apply List.map_congr_left
  intro x hx
  exact cl_of N x (by have := List.mem_range.1 hx; omega)
theorem cellK {W W' : World} {row : Option Nat} {p : Addr} {v : Value} {B : Nat} (h : W.cell? p = some v) (hg : W.grownBy W' row) (hr : ∀ r, row = some r → B ≤ r ∧ ∃ o : Obj, W.heap[r]? = some o ∧ o.isCells = false) : W'.cell? p = some v := cell_kept h hg (fun r e => (hr r e).2)
theorem frozenK {W W' : World} {row : Option Nat} {p : Addr} {v : Value} {B : Nat} {b : Bool} (h : W.cell? p = some v) (hf : W.frozen? p = b) (hg : W.grownBy W' row) (hr : ∀ r, row = some r → B ≤ r ∧ ∃ o : Obj, W.heap[r]? = some o ∧ o.isCells = false) : W'.frozen? p = b := (frozen_kept h hg (fun r e => (hr r e).2)).trans hf
theorem bwK {w W W' : World} {row : Option Nat} {B : Nat} (h : Bw w W) (hB : w.heap.size ≤ B) (hg : W.grownBy W' row) (hr : ∀ r, row = some r → B ≤ r ∧ ∃ o : Obj, W.heap[r]? = some o ∧ o.isCells = false) : Bw w W' :=
  Below.grown h hg h.size (fun k e => Nat.le_trans hB (hr k e).1)
end Go.Proofs.Sky

namespace Go.Proofs.Sky
open Go Go.RowKit Go.Shelf
attribute [local go_sem] Oper.semAt_some
set_option maxHeartbeats 1000000
def errT (zs : List Int) (a n u c : Int) : Int := if errF a n u c = 0 then (if (zs.length : Int) < a + n then 16 else if oksP zs a.toNat n.toNat then 0 else 3) else 2
end Go.Proofs.Sky
