/-
  lemmas for the theorems of this claim. No conditions beyond those written in the statements.
-/
import Derived.Test.YtcmjcobhobfloaaDoorP25L
import Derived.RangeFuncNested
import Derived.RangeFuncWrites
import Derived.RangeFuncBound
import Derived.RangeFuncCalls
import Derived.RangeFuncLeaves
import Derived.Shelf.Abstract
import Derived.Shelf.RegionOpen
import Derived.OwnWalkIn
import Derived.TacticsInMore
import Derived.LoopNIn
import Derived.LoopIn
import Derived.Test.YtcmjcobhobfloaaDoorA25
set_option linter.unusedVariables false
set_option linter.unusedSimpArgs false
set_option linter.unnecessarySimpa false
namespace Go.Proofs.Sky
open Go Go.RowKit Go.Shelf
def mk (D : Nat) : Deferred := { target := .collected D, args := #[] }
/-- the deferred calls of a frame are marks alone, each of an empty block from base on -/
def Marks (base : Nat) (ds : List Deferred) (w : World) : Prop := ∃ Ds : List Nat, ds = Ds.map mk ∧ Ds.Nodup ∧ ∀ D ∈ Ds, base ≤ D ∧ w.heap[D]? = some (.deferred (some []))
theorem Marks.nil (base : Nat) (w : World) : Marks base [] w := ⟨[], rfl, by simp, by simp⟩
theorem Marks.cons {base D : Nat} {ds : List Deferred} {w w' : World} (h : Marks base ds w) (hD : w.heap.size ≤ D) (hb : base ≤ w.heap.size) (hw : w'.heap[D]? = some (.deferred (some []))) (hk : ∀ E, E < w.heap.size → w.heap[E]? = some (.deferred (some [])) → w'.heap[E]? = some (.deferred (some []))) : Marks base (mk D :: ds) w' := by
  obtain ⟨Ds, rfl, hn, hd⟩ := h
  have lt : ∀ E ∈ Ds, E < w.heap.size := fun E hE => (Array.getElem?_eq_some_iff.1 (hd E hE).2).1
  refine ⟨D :: Ds, rfl, ?_, ?_⟩
  · refine List.nodup_cons.2 ⟨fun hm => ?_, hn⟩
    have := lt D hm; omega
  · intro E hE
    rcases List.mem_cons.1 hE with rfl | hE
    · exact ⟨by omega, hw⟩
    · exact ⟨(hd E hE).1, hk E (lt E hE) (hd E hE).2⟩
theorem Marks.one {base D : Nat} {w : World} (hb : base ≤ D) (hw : w.heap[D]? = some (.deferred (some []))) : Marks base [mk D] w := ⟨[D], rfl, by simp, fun E hE => by simp at hE; subst hE; exact ⟨hb, hw⟩⟩
theorem Marks.keep {base : Nat} {ds : List Deferred} {w w' : World} (h : Marks base ds w) (hk : ∀ E, base ≤ E → w.heap[E]? = some (.deferred (some [])) → w'.heap[E]? = some (.deferred (some []))) : Marks base ds w' := by
  obtain ⟨Ds, rfl, hn, hd⟩ := h
  exact ⟨Ds, rfl, hn, fun E hE => ⟨(hd E hE).1, hk E (hd E hE).1 (hd E hE).2⟩⟩
/-- the world with such blocks shut -/
structure Shut (base : Nat) (w w' : World) : Prop where
  size : w'.heap.size = w.heap.size
  block : ∀ (k : Nat) (o : Obj), w.heap[k]? = some o → o.isCells = true → w'.heap[k]? = some o
  below : base ≤ w.heap.size → Below base w w'
  cell : ∀ b o v, w.cell? ⟨b, o, none⟩ = some v → w'.cell? ⟨b, o, none⟩ = some v
theorem Shut.refl (base : Nat) (w : World) : Shut base w w := ⟨rfl, fun _ _ h _ => h, fun _ => Below.refl _ _, fun _ _ _ h => h⟩
theorem Shut.put {base D : Nat} {w w' : World} (h : Shut base (w.putObj D (.deferred none)) w') (hb : base ≤ D) (hw : w.heap[D]? = some (.deferred (some []))) : Shut base w w' := by
  refine ⟨h.size.trans (by simp), fun k o hk ho => h.block k o ?_ ho, fun hB => ?_, fun b o v hv => h.cell b o v ?_⟩
  · rw [World.putObj_heap_other (fun e => by subst e; rw [hw] at hk; cases hk; cases ho)]; exact hk
  · exact ((Below.refl base w).grown (grownBy_putObj' w D _) hB (fun k e => by cases e; omega)).trans (h.below (by simpa using hB))
  · exact cell_kept hv (grownBy_putObj' w D _) (fun r e => by cases e; exact ⟨_, hw, rfl⟩)
theorem Shut.frozen {base : Nat} {w w' : World} (h : Shut base w w') {b o : Nat} {v : Value} (hc : w.cell? ⟨b, o, none⟩ = some v) : w'.frozen? ⟨b, o, none⟩ = w.frozen? ⟨b, o, none⟩ := by
  obtain ⟨ob, ho, hcells⟩ := cells_of_cell hc
  exact World.frozen?_of_block ((h.block _ _ ho hcells).trans ho.symm)
theorem leavesM_marks {P : Program} {fn : Func} {tmps : Array Value} {R : Ending → World → Prop} {base : Nat} : ∀ (Ds : List Nat) (w : World), Ds.Nodup → (∀ D ∈ Ds, base ≤ D ∧ w.heap[D]? = some (.deferred (some []))) →
    (∀ w', Shut base w w' → ∃ v, (results fn tmps).run P w' = .ok v w' ∧ R (.returned v) w') → ∀ n, LeavesInM Fence.wide n P fn tmps R (Ds.map mk) .returning w := by
  intro Ds
  induction Ds with
  | nil => intro w _ _ h n; exact h w (Shut.refl _ _)
  | cons D Ds ih =>
    intro w hn hd h n
    obtain ⟨hb, hw⟩ := hd D (by simp)
    have hn' := List.nodup_cons.1 hn
    refine ⟨by simp, .inl ⟨D, _, rfl, run_takeDeferred hw, ih _ hn'.2 (fun E hE => ?_) (fun w' hS => h w' (hS.put hb hw)) n⟩⟩
    obtain ⟨hb', hw'⟩ := hd E (by simp [hE])
    exact ⟨hb', by
      have hne : D ≠ E := fun e => hn'.1 (by rw [e]; exact hE)
      rw [World.putObj_heap_other (by omega)]; exact hw'⟩
theorem Bw.shut {w W W' : World} (h : Bw w W) (hS : Shut w.heap.size W W') : Bw w W' := Below.trans h (hS.below h.size)
/-- what the body of a function that holds ranges over functions must achieve -/
def postM (base : Nat) (P : Program) (fn : Func) (R : Ending → World → Prop) : Exit → Act → World → Prop
  | .normal, a, w | .ret, a, w => Marks base a.defers w ∧ ∀ w', Shut base w w' → ∃ v, (results fn a.tmps).run P w' = .ok v w' ∧ R (.returned v) w'
  | .outgrown, _, w => R .outgrown w
  | _, _, _ => False
theorem calls_of_marks {P : Program} {f : FuncId} {fn : Func} {c : Code} {args : Array Value} {w : World} {R : Ending → World → Prop} (base : Nat)
    (hf : P.funcs[f]? = some fn) (hb : fn.body = some c) (h : c.wp P (postM base P fn R) { tmps := args ++ Array.replicate (fn.ntmps - args.size) undef, defers := [] } w) : Calls P f args w R := by
  refine (callsIn_wide (n := 0)).1 (callsIn_of_wp_marks hf hb trivial (wpIn_wide.2 (wp_mono h ?_)) rfl)
  rintro e a W hp
  cases e with
  | normal => obtain ⟨⟨Ds, hd, hn, hm⟩, hr⟩ := hp; show LeavesInM _ _ _ _ _ _ _ _ _; rw [hd]; exact leavesM_marks Ds W hn hm hr _
  | ret => obtain ⟨⟨Ds, hd, hn, hm⟩, hr⟩ := hp; show LeavesInM _ _ _ _ _ _ _ _ _; rw [hd]; exact leavesM_marks Ds W hn hm hr _
  | exit _ => exact hp.elim
  | goto _ => exact hp.elim
  | panic _ => exact hp.elim
  | outgrown => exact hp
/-- what a round must keep for an iterator that reads block B -/
def KpB (B : Nat) (W W' : World) : Prop := ∀ o, W'.cell? ⟨B, o, none⟩ = W.cell? ⟨B, o, none⟩
theorem kpB_t {B : Nat} {X Y Z : World} (h : KpB B X Y) (k : KpB B Y Z) : KpB B X Z := fun o => (k o).trans (h o)
theorem kpB_b {B n : Nat} (hB : B < n) (W : World) (l : Nat) (o o' : Obj) (hl : n ≤ l) (_ : W.heap[l]? = some o) (_ : o.isCells = false) (_ : o.isWalk = false) : KpB B W (W.putObj l o') := fun i =>
  World.cell?_of_block (World.putObj_heap_other (by show B ≠ l; omega))
/-- the law of a range over a function, in the walk of a plain function -/
theorem wp_rangeFunc {P : Program} {α : Type} {g : Operand} {ps : Array Tmp} {assign body : Code} {Q : Exit → Act → World → Prop} {a : Act} {w : World}
    {gf : Nat} {lb : Array Value} (hg : a.eval g = .func (.func gf) #[] lb) (eg : ∀ args w, (callFunc gf args).run P w = .ok (.enter gf args) w)
    {encs : α → Array Value} {Kp : World → World → Prop} {S Sp : List α → Prop} {N : Nat} (hseq : SeqStopsK Fence.wide 9 P gf lb encs Kp S Sp N w)
    (hKt : ∀ {A B C : World}, Kp A B → Kp B C → Kp A C) (hKb : ∀ (W : World) (l : Nat) (o o' : Obj), w.heap.size ≤ l → W.heap[l]? = some o → o.isCells = false → o.isWalk = false → Kp W (W.putObj l o')) (hps : ∀ x, (encs x).size = ps.size)
    (I : List α → World → Prop) (Ix : Code → List α → World → Prop) (hI : OwnFrom w.heap.size I) (hIx : ∀ c, OwnFrom w.heap.size (Ix c)) (h0 : I [] w) (a₁ : α → Act)
    (hassign : ∀ (l : Nat) (x : α) (W : World) (K : Act → World → Prop), K (a₁ x) W →
      assign.wpIn (Fence.wide.inRound l) 8 P (Exit.then K (fun _ _ _ => False)) { tmps := (ps.zip (encs x)).foldl (fun t (p, v) => t.setIfInBounds p v) a.tmps, defers := [] } W)
    (hbody : ∀ (l : Nat) (pre : List α) (x : α) (W : World), I pre W → pre.length < N → body.wpIn (Fence.wide.inRound l) 8 P (ownPostG w.heap.size Kp I Ix (pre ++ [x]) W) (a₁ x) W)
    (hdone : ∀ (D : Nat) (xs : List α) (W : World), w.heap.size ≤ D → S xs → I xs W → W.heap[D]? = some (.deferred (some [])) → Q .normal { a with defers := mk D :: a.defers } W)
    (hstop : ∀ (D : Nat) (c : Code) (pre : List α) (W : World), w.heap.size ≤ D → Sp pre → Ix c pre W → W.heap[D]? = some (.deferred (some [])) → c.wp P Q { a with defers := mk D :: a.defers } W) :
    (Code.rangeFunc g ps assign body).wp P Q a w :=
  wpIn_wide.1 (wpIn_rangeFunc_ownG (F := Fence.wide) (n := 10) rfl (by decide) hg trivial eg hseq hKt hKb (Below.refl _ _) hps I Ix hI hIx h0 a₁ hassign hbody hdone (fun D c pre W h1 h2 h3 h4 => wpIn_wide.2 (hstop D c pre W h1 h2 h3 h4)))
end Go.Proofs.Sky

namespace Go.Proofs.Sky
open Go Go.RowKit Go.Shelf
attribute [local go_sem] Oper.semAt_some
set_option maxHeartbeats 1000000
theorem places_any (a n : Int) (g : Bool) (u c : Int) (w : World) : Calls Tryd.prog 73 #[.agg #[.int .i64 a, .int .i64 n, .bool g, .int .i64 u, .int .i64 c]] w fun e w' => e = .returned (.func (.func 78) #[] #[.pointer (some ⟨w.heap.size, 0, none⟩)]) ∧ w' = w.alloc (.cells #[.int .i64 a, .int .i64 n, .bool g, .int .i64 u, .int .i64 c] 86) := by
  go_enter Tryd.func73, Tryd.ntmps73
  go_wp2
  go_ret
  exact ⟨rfl, rfl⟩
def cl (N x : Nat) : Nat := min x (N - 1)
theorem cl_lt (N x : Nat) (h : 0 < N) : cl N x < N := by unfold cl; omega
theorem cl_of (N x : Nat) (h : x < N) : cl N x = x := by unfold cl; omega
def encP (a : Int) (N : Nat) (x : Nat) : Array Value := #[.int .i64 (a + cl N x), .int .i64 (N - 1 - cl N x)]
set_option maxRecDepth 100000 in
set_option maxHeartbeats 2000000 in
theorem places_stops (a : Int) (N : Nat) (ha : 0 ≤ a) (ha2 : a ≤ 4000) (hN : N ≤ 40) (B : Nat) (w : World) (hB : B < w.heap.size) (c0 : w.cell? ⟨B, 0, none⟩ = some (.int .i64 a)) (c1 : w.cell? ⟨B, 1, none⟩ = some (.int .i64 N)) :
    SeqStopsK Fence.wide 9 Tryd.prog 78 #[.pointer (some ⟨B, 0, none⟩)] (encP a N) (KpB B) (fun xs => xs = List.range N) (fun pre => ∃ k, k ≤ N ∧ pre = List.range k) N w := fun l J Jx W hW _ _ hY h0 => by
  have d0 := (hW.cell (p := ⟨B, 0, none⟩) hB).trans c0
  have d1 := (hW.cell (p := ⟨B, 1, none⟩) hB).trans c1
  refine callsIn_of_wp Tryd.func78 rfl trivial ?_ rfl
  simp only [Tryd.ntmps78, List.size_toArray, List.length_cons, List.length_nil, Nat.reduceAdd, Nat.reduceSub, Array.replicate_succ, Array.replicate_zero, List.push_toArray, List.append_toArray, List.nil_append, List.cons_append]
  have hY' := hY; clear hY
  gi_wp2
  gi_loopw [6] (fun i wr => ∃ k : Nat, k ≤ N ∧ i = .int .i64 k ∧ J (List.range k) wr ∧ KpB B W wr) (fun i _ => N - (intOf i).toNat)
  case atStart => exact ⟨0, Nat.zero_le _, rfl, h0, fun _ => rfl⟩
  case round =>
    obtain ⟨k, hk, rfl, hJs, hkp⟩ := hrel
    have e0 := (hkp 0).trans d0
    have e1 := (hkp 1).trans d1
    by_cases hlt : k < N
    · obtain ⟨fn, tmps, assign, body, hy, hR⟩ := hY' _ k wr hJs (by simpa using hlt)
      unfold encP at hy
      rw [cl_of N k hlt] at hy
      have hlti : (k : Int) < N := by omega
      gi_wp2
      refine hR.mono ?_
      rintro e W3 (⟨rfl, hJ3, hk3⟩ | ⟨rfl, hJx3⟩)
      · gi_wp2
        go_roundw
        case rel => exact ⟨k + 1, by omega, by go_num, by rw [List.range_succ]; exact hJ3, kpB_t hkp hk3⟩
        case measure => simp [intOf]; omega
      · gi_wp2
        refine bodyPost_ret (results_none rfl _ _ _) rfl ?_
        exact ⟨⟨_, rfl⟩, .inr ⟨_, ⟨k + 1, by omega, List.range_succ.symm⟩, hJx3⟩⟩
    · obtain rfl : k = N := by omega
      gi_wp2
      go_end0
      exact ⟨⟨_, rfl⟩, .inl ⟨_, rfl, hJs⟩⟩
end Go.Proofs.Sky

namespace Go.Proofs.Sky
open Go Go.RowKit Go.Shelf
attribute [local go_sem] Oper.semAt_some
set_option maxHeartbeats 1000000
theorem map_cl (N : Nat) : ∀ k, k ≤ N → (List.range k).map (cl N) = List.range k := by
  intro k hk
  conv => rhs; rw [← List.map_id (List.range k)]
  apply List.map_congr_left
  intro x hx
  exact cl_of N x (by have := List.mem_range.1 hx; omega)
theorem range_places {g : Operand} {ps : Array Tmp} {assign body : Code} {Q : Exit → Act → World → Prop} {act : Act} {w : World} (a : Int) (N : Nat) (ha : 0 ≤ a) (ha2 : a ≤ 4000) (hN0 : 0 < N) (hN : N ≤ 40) (B : Nat) (hB : B < w.heap.size)
    (c0 : w.cell? ⟨B, 0, none⟩ = some (.int .i64 a)) (c1 : w.cell? ⟨B, 1, none⟩ = some (.int .i64 N)) (hg : act.eval g = .func (.func 78) #[] #[.pointer (some ⟨B, 0, none⟩)]) (hps : ps.size = 2)
    (I : List Nat → World → Prop) (Ix : Code → List Nat → World → Prop) (hI : OwnFrom w.heap.size I) (hIx : ∀ c, OwnFrom w.heap.size (Ix c)) (h0 : I [] w) (ups : Nat → List (Nat × Value))
    (hassign : ∀ (l : Nat) (y : Nat) (W : World) (K : Act → World → Prop), K { tmps := (ups y).foldl (fun t p => t.setIfInBounds p.1 p.2) act.tmps, defers := [] } W →
      assign.wpIn (Fence.wide.inRound l) 8 Tryd.prog (Exit.then K (fun _ _ _ => False)) { tmps := (ps.zip #[.int .i64 (a + y), .int .i64 (N - 1 - y)]).foldl (fun t (p, v) => t.setIfInBounds p v) act.tmps, defers := [] } W)
    (hbody : ∀ (l : Nat) (pre : List Nat) (y : Nat) (W : World), y < N → pre.length < N → I pre W → body.wpIn (Fence.wide.inRound l) 8 Tryd.prog (ownPostG w.heap.size (KpB B) I Ix (pre ++ [y]) W) { tmps := (ups y).foldl (fun t p => t.setIfInBounds p.1 p.2) act.tmps, defers := [] } W)
    (hdone : ∀ (D : Nat) (W : World), w.heap.size ≤ D → I (List.range N) W → W.heap[D]? = some (.deferred (some [])) → Q .normal { act with defers := mk D :: act.defers } W)
    (hstop : ∀ (D : Nat) (c : Code) (k : Nat) (W : World), w.heap.size ≤ D → k ≤ N → Ix c (List.range k) W → W.heap[D]? = some (.deferred (some [])) → c.wp Tryd.prog Q { act with defers := mk D :: act.defers } W) :
    (Code.rangeFunc g ps assign body).wp Tryd.prog Q act w := by
  refine wp_rangeFunc hg (enters_of Tryd.func78 (by kernel_rfl) rfl) (places_stops a N ha ha2 hN B w hB c0 c1) kpB_t (kpB_b hB) (fun _ => hps.symm) (fun pre W => I (pre.map (cl N)) W) (fun c pre W => Ix c (pre.map (cl N)) W)
    (fun s W W' row hs hg hr => hI _ W W' row hs hg hr) (fun c s W W' row hs hg hr => hIx c _ W W' row hs hg hr) h0 (fun x => { tmps := (ups (cl N x)).foldl (fun t p => t.setIfInBounds p.1 p.2) act.tmps, defers := [] })
    (fun l x W K hK => hassign l (cl N x) W K hK) (fun l pre x W hi hl => ?_) (fun D xs W hD hS hi hK => ?_) (fun D c pre W hD hS hi hK => by
      obtain ⟨k, hk, rfl⟩ := hS
      rw [map_cl N k hk] at hi
      exact hstop D c k W hD hk hi hK)
  · refine wpIn_mono (hbody l (pre.map (cl N)) (cl N x) W (cl_lt N x hN0) (by simpa using hl) hi) ?_
    intro e a' W' hp
    have hm : (pre ++ [x]).map (cl N) = pre.map (cl N) ++ [cl N x] := by simp
    cases e with
    | normal => exact ⟨hp.1, hp.2.1, by show I _ _; rw [hm]; exact hp.2.2⟩
    | ret => exact ⟨hp.1, by show Ix _ _ _; rw [hm]; exact hp.2⟩
    | exit id => exact ⟨hp.1, by show Ix _ _ _; rw [hm]; exact hp.2⟩
    | goto t => exact ⟨hp.1, by show Ix _ _ _; rw [hm]; exact hp.2⟩
    | panic ch => exact hp.elim
    | outgrown => exact hp.elim
  · subst hS
    rw [map_cl N N (Nat.le_refl _)] at hi
    exact hdone D W hD hi hK
theorem cellK {W W' : World} {row : Option Nat} {p : Addr} {v : Value} {B : Nat} (h : W.cell? p = some v) (hg : W.grownBy W' row) (hr : ∀ r, row = some r → B ≤ r ∧ ∃ o : Obj, W.heap[r]? = some o ∧ o.isCells = false) : W'.cell? p = some v := cell_kept h hg (fun r e => (hr r e).2)
theorem frozenK {W W' : World} {row : Option Nat} {p : Addr} {v : Value} {B : Nat} {b : Bool} (h : W.cell? p = some v) (hf : W.frozen? p = b) (hg : W.grownBy W' row) (hr : ∀ r, row = some r → B ≤ r ∧ ∃ o : Obj, W.heap[r]? = some o ∧ o.isCells = false) : W'.frozen? p = b := (frozen_kept h hg (fun r e => (hr r e).2)).trans hf
theorem bwK {w W W' : World} {row : Option Nat} {B : Nat} (h : Bw w W) (hB : w.heap.size ≤ B) (hg : W.grownBy W' row) (hr : ∀ r, row = some r → B ≤ r ∧ ∃ o : Obj, W.heap[r]? = some o ∧ o.isCells = false) : Bw w W' :=
  Below.grown h hg h.size (fun k e => Nat.le_trans hB (hr k e).1)
end Go.Proofs.Sky

namespace Go.Proofs.Sky
open Go Go.RowKit Go.Shelf
attribute [local go_sem] Oper.semAt_some
set_option maxHeartbeats 1000000
def errT (zs : List Int) (a n u c : Int) : Int := if errF a n u c = 0 then (if (zs.length : Int) < a + n then 16 else if oksP zs a.toNat n.toNat then 0 else 3) else 2
theorem there_bad (zs : List Int) (ad : Option Addr) (len cap : Nat) (a n : Int) (g : Bool) (u c : Int) (w : World) (h : ¬ fk a n u c) : Calls Tryd.prog 74 #[.slice ad len cap, .agg #[.int .i64 a, .int .i64 n, .bool g, .int .i64 u, .int .i64 c]] w fun e w' => e = .returned (.int .i64 (errT zs a n u c)) ∧ Bw w w' := by
  have HE := Lib.hid (show errT zs a n u c = 2 by unfold errT; rw [errF_no h]; rfl)
  have HC := Lib.hid (fun w => Check_any a n g u c w)
  rw [errF_no h] at HC
  clear h
  (refine calls_of_marks (w.heap.size) Tryd.func74 rfl ?_; simp only [Tryd.ntmps74, List.size_toArray, List.length_cons, List.length_nil, Nat.reduceAdd, Nat.reduceSub, Array.replicate_succ, Array.replicate_zero, List.push_toArray, List.append_toArray, List.nil_append, List.cons_append])
  go_wp2_with (go_at_call 67; refine (HC.out _).mono ?_; rintro e w' ⟨rfl, hb⟩; obtain ⟨hcc, hff⟩ := Bw.cells hb; have hsz := Bw.size hb; try (have hz0 : w.heap.size < w'.heap.size := by (try simp at hsz); omega); try (have hz1 : w.heap.size + 1 < w'.heap.size := by (try simp at hsz); omega); try (have hz2 : w.heap.size + 1 + 1 < w'.heap.size := by (try simp at hsz); omega); try (have hz3 : w.heap.size + 1 + 1 + 1 < w'.heap.size := by (try simp at hsz); omega); try (have hz4 : w.heap.size + 1 + 1 + 1 + 1 < w'.heap.size := by (try simp at hsz); omega); try (have hzr : wr.heap.size < w'.heap.size := by (try simp at hsz); omega); try (have hzr1 : wr.heap.size + 1 < w'.heap.size := by (try simp at hsz); omega))
  refine ⟨Marks.nil _ _, fun W' hS => ⟨.int .i64 2, ?_, by rw [HE.out], Bw.shut (W := w'.setCell ⟨w.heap.size + 1 + 1, 0, none⟩ (.int .i64 2)) (by repeat (first | exact Bw.refl _ | assumption | refine Bw.alloc ?_ _ | refine Bw.drew ?_ | refine Bw.trans ?_ (by assumption) | refine Bw.setCell ?_ (by simp; try omega) _)) hS⟩⟩
  have k4 := hS.cell (w.heap.size + 1 + 1) 0 (.int .i64 2) (cell_set_same _ _ _ _ (x := .int .i64 0) (by rw [hcc _ _ (by simp)]; simp [go_sem]))
  simp [results, Tryd.results74, go_sem, k4]
theorem there_short (zs : List Int) (v : Value) (a n : Int) (g : Bool) (u c : Int) (w : World) (hv : RdI w v zs) (h : fk a n u c) (hl : (zs.length : Int) < a + n) : Calls Tryd.prog 74 #[v, .agg #[.int .i64 a, .int .i64 n, .bool g, .int .i64 u, .int .i64 c]] w fun e w' => e = .returned (.int .i64 (errT zs a n u c)) ∧ Bw w w' := by
  have HE := Lib.hid (show errT zs a n u c = 16 by unfold errT; rw [errF_ok h, if_pos rfl, if_pos hl])
  have HC := Lib.hid (fun w => Check_any a n g u c w)
  rw [errF_ok h] at HC
  obtain ⟨h2, ad, cap, rfl, h4⟩ := hv
  clear h4
  obtain ⟨h1, h2, h3, h4, h5, h6, h7, h8, h9⟩ := h
  (refine calls_of_marks (w.heap.size) Tryd.func74 rfl ?_; simp only [Tryd.ntmps74, List.size_toArray, List.length_cons, List.length_nil, Nat.reduceAdd, Nat.reduceSub, Array.replicate_succ, Array.replicate_zero, List.push_toArray, List.append_toArray, List.nil_append, List.cons_append])
  go_wp2_with (go_at_call 67; refine (HC.out _).mono ?_; rintro e w' ⟨rfl, hb⟩; obtain ⟨hcc, hff⟩ := Bw.cells hb; have hsz := Bw.size hb; try (have hz0 : w.heap.size < w'.heap.size := by (try simp at hsz); omega); try (have hz1 : w.heap.size + 1 < w'.heap.size := by (try simp at hsz); omega); try (have hz2 : w.heap.size + 1 + 1 < w'.heap.size := by (try simp at hsz); omega); try (have hz3 : w.heap.size + 1 + 1 + 1 < w'.heap.size := by (try simp at hsz); omega); try (have hz4 : w.heap.size + 1 + 1 + 1 + 1 < w'.heap.size := by (try simp at hsz); omega); try (have hzr : wr.heap.size < w'.heap.size := by (try simp at hsz); omega); try (have hzr1 : wr.heap.size + 1 < w'.heap.size := by (try simp at hsz); omega))
  refine ⟨Marks.nil _ _, fun W' hS => ⟨.int .i64 16, ?_, by rw [HE.out], Bw.shut (W := w'.setCell ⟨w.heap.size + 1 + 1, 0, none⟩ (.int .i64 16)) (by repeat (first | exact Bw.refl _ | assumption | refine Bw.alloc ?_ _ | refine Bw.drew ?_ | refine Bw.trans ?_ (by assumption) | refine Bw.setCell ?_ (by simp; try omega) _)) hS⟩⟩
  have k4 := hS.cell (w.heap.size + 1 + 1) 0 (.int .i64 16) (cell_set_same _ _ _ _ (x := .int .i64 0) (by rw [hcc _ _ (by simp)]; simp [go_sem]))
  simp [results, Tryd.results74, go_sem, k4]
theorem there_ok (zs : List Int) (v : Value) (A N : Nat) (g : Bool) (u c : Int) (w : World) (hv : RdI w v zs) (h : fk A N u c) (hl : A + N ≤ zs.length) : Calls Tryd.prog 74 #[v, .agg #[.int .i64 A, .int .i64 N, .bool g, .int .i64 u, .int .i64 c]] w fun e w' => e = .returned (.int .i64 (errT zs A N u c)) ∧ Bw w w' := by
  have HE := Lib.hid (show errT zs A N u c = if oksP zs A N then 0 else 3 by unfold errT; rw [errF_ok h, if_pos rfl, if_neg (by omega)]; simp)
  have HC := Lib.hid (fun w => Check_any A N g u c w)
  have HP := Lib.hid (fun w => places_any A N g u c w)
  rw [errF_ok h] at HC
  obtain ⟨h2, ad, cap, rfl, h4⟩ := hv
  obtain ⟨h1, h2, h3, h4', h5, h6, h7, h8, h9⟩ := h
  obtain ⟨b, off, rfl, hb, hz⟩ := h4.resolve_left (by intro e; subst e; simp at hl; omega)
  have HZ := Lib.hid hz; clear hz h4
  (refine calls_of_marks (w.heap.size) Tryd.func74 rfl ?_; simp only [Tryd.ntmps74, List.size_toArray, List.length_cons, List.length_nil, Nat.reduceAdd, Nat.reduceSub, Array.replicate_succ, Array.replicate_zero, List.push_toArray, List.append_toArray, List.nil_append, List.cons_append])
  go_wp2_with (first | (go_at_call 67; refine (HC.out _).mono ?_; rintro e w' ⟨rfl, hb⟩; obtain ⟨hcc, hff⟩ := Bw.cells hb; have hsz := Bw.size hb; try (have hz0 : w.heap.size < w'.heap.size := by (try simp at hsz); omega); try (have hz1 : w.heap.size + 1 < w'.heap.size := by (try simp at hsz); omega); try (have hz2 : w.heap.size + 1 + 1 < w'.heap.size := by (try simp at hsz); omega); try (have hz3 : w.heap.size + 1 + 1 + 1 < w'.heap.size := by (try simp at hsz); omega); try (have hz4 : w.heap.size + 1 + 1 + 1 + 1 < w'.heap.size := by (try simp at hsz); omega); try (have hzr : wr.heap.size < w'.heap.size := by (try simp at hsz); omega); try (have hzr1 : wr.heap.size + 1 < w'.heap.size := by (try simp at hsz); omega)) | (go_at_call 73; refine (HP.out _).mono ?_; rintro e w9 ⟨rfl, rfl⟩))
  have k2 : (w'.alloc (Obj.cells #[.int .i64 A, .int .i64 N, .bool g, .int .i64 u, .int .i64 c] 86)).cell? ⟨w.heap.size, 0, none⟩ = some (.slice (some ⟨b, off, none⟩) zs.length cap) := by simp [*, go_sem]
  have k4 : (w'.alloc (Obj.cells #[.int .i64 A, .int .i64 N, .bool g, .int .i64 u, .int .i64 c] 86)).cell? ⟨w.heap.size + 1 + 1, 0, none⟩ = some (.int .i64 0) := by simp [*, go_sem]
  have kf : (w'.alloc (Obj.cells #[.int .i64 A, .int .i64 N, .bool g, .int .i64 u, .int .i64 c] 86)).frozen? ⟨w.heap.size + 1 + 1, 0, none⟩ = false := by simp [*, go_sem]
  have c0 : (w'.alloc (Obj.cells #[.int .i64 A, .int .i64 N, .bool g, .int .i64 u, .int .i64 c] 86)).cell? ⟨w'.heap.size, 0, none⟩ = some (.int .i64 A) := by simp [go_sem]
  have c1 : (w'.alloc (Obj.cells #[.int .i64 A, .int .i64 N, .bool g, .int .i64 u, .int .i64 c] 86)).cell? ⟨w'.heap.size, 1, none⟩ = some (.int .i64 N) := by simp [go_sem]
  have hsB : w'.heap.size < (w'.alloc (Obj.cells #[.int .i64 A, .int .i64 N, .bool g, .int .i64 u, .int .i64 c] 86)).heap.size := by simp
  have hbw : Bw w (w'.alloc (Obj.cells #[.int .i64 A, .int .i64 N, .bool g, .int .i64 u, .int .i64 c] 86)) := (by repeat (first | exact Bw.refl _ | assumption | refine Bw.alloc ?_ _ | refine Bw.drew ?_ | refine Bw.trans ?_ (by assumption) | refine Bw.setCell ?_ (by simp; try omega) _))
  generalize (w'.alloc (Obj.cells #[.int .i64 A, .int .i64 N, .bool g, .int .i64 u, .int .i64 c] 86)) = W0 at k2 k4 kf c0 c1 hsB hbw ⊢
  clear hcc hff hb
  refine range_places A N h1 h2 (by omega) (by omega) w'.heap.size hsB c0 c1 rfl rfl
    (fun pre W => (∀ y ∈ pre, zs.getD (A + y) 0 = 0 ∨ zs.getD (A + y) 0 = 1) ∧ (W.cell? ⟨w.heap.size, 0, none⟩ = some (.slice (some ⟨b, off, none⟩) zs.length cap) ∧ W.cell? ⟨w.heap.size + 1 + 1, 0, none⟩ = some (.int .i64 0) ∧ W.frozen? ⟨w.heap.size + 1 + 1, 0, none⟩ = false) ∧ Bw w W)
    (fun c _ W => c = .ret ∧ oksP zs A N = false ∧ W.cell? ⟨w.heap.size + 1 + 1, 0, none⟩ = some (.int .i64 3) ∧ Bw w W)
    (fun s X Y row hs hg hr => ⟨hs.1, ⟨cellK hs.2.1.1 hg hr, cellK hs.2.1.2.1 hg hr, frozenK hs.2.1.2.1 hs.2.1.2.2 hg hr⟩, bwK hs.2.2 hbw.size hg hr⟩)
    (fun c s X Y row hs hg hr => ⟨hs.1, hs.2.1, cellK hs.2.2.1 hg hr, bwK hs.2.2.2 hbw.size hg hr⟩)
    ⟨by simp, ⟨k2, k4, kf⟩, hbw⟩
    (fun y => [(22, .int .i64 (A + y)), (23, .int .i64 (N - 1 - y)), (6, .int .i64 (A + y))]) ?assign ?body ?done ?stop
  case assign =>
    intro l y W K hK
    gi_wp2
    exact hK
  case body =>
    rintro l pre y W hy _ ⟨hp, ⟨kb, kr, kfr⟩, hbW⟩
    simp only [List.foldl, List.setIfInBounds_toArray, List.set_cons_succ, List.set_cons_zero]
    have hcz := HZ.out (A + y) (by omega)
    rw [← hbW.cells.1 _ _ hb] at hcz
    have hpz : (zs.getD (A + y) 0 = 0 ∨ zs.getD (A + y) 0 = 1) → ∀ x ∈ pre ++ [y], zs.getD (A + x) 0 = 0 ∨ zs.getD (A + x) 0 = 1 := fun h x hx => (List.mem_append.1 hx).elim (hp x) (fun e => by simp at e; subst e; exact h)
    have hnz := oksP_not zs A N y hy
    have HP2 := Lib.hid hp; clear hp
    generalize zs.getD (A + y) 0 = z at hcz hpz hnz
    have HPZ := Lib.hid hpz; clear hpz
    have HNZ := Lib.hid hnz; clear hnz
    have hyi : (A : Int) + y < zs.length := by omega
    have hyt : ((A : Int) + y).toNat = A + y := by omega
    by_cases z0 : z = 0
    · subst z0
      gi_wp2
      exact ⟨KeepsFrom.refl _ _, fun _ => rfl, HPZ.out (by simp), ⟨kb, kr, kfr⟩, hbW⟩
    · by_cases z1 : z = 1
      · subst z1
        gi_wp2
        exact ⟨KeepsFrom.refl _ _, fun _ => rfl, HPZ.out (by simp), ⟨kb, kr, kfr⟩, hbW⟩
      · have y0 : (z != 0) = true := by simpa using z0
        have y1 : (z != 1) = true := by simpa using z1
        gi_wp2
        exact ⟨(KeepsOthers.setCell _ _ _).from _, rfl, HNZ.out z0 z1, cell_set_same _ _ _ _ kr, Bw.setCell hbW (by simp; omega) _⟩
  case done =>
    rintro D W hD ⟨hp, ⟨kb, kr, kfr⟩, hbW⟩ hK
    have HO := Lib.hid ((oksP_iff zs A N).2 (fun i hi => hp i (List.mem_range.2 hi))); clear hp
    go_wp2
    have hK' := (KeepsOthers.setCell W ⟨w.heap.size + 1 + 1, 0, none⟩ (.int .i64 0)).same D _ hK rfl
    refine ⟨Marks.one (by have := hbw.size; omega) hK', fun W' hS => ⟨.int .i64 0, ?_, by rw [HE.out, HO.out]; rfl, Bw.shut (W := W.setCell ⟨w.heap.size + 1 + 1, 0, none⟩ (.int .i64 0)) (Bw.setCell hbW (by simp; omega) _) hS⟩⟩
    have k4 := hS.cell (w.heap.size + 1 + 1) 0 (.int .i64 0) (cell_set_same _ _ _ _ kr)
    simp [results, Tryd.results74, go_sem, k4]
  case stop =>
    rintro D c k W hD _ ⟨rfl, ho, kr, hbW⟩ hK
    have HO := Lib.hid ho; clear ho
    go_wp2
    refine ⟨Marks.one (by have := hbw.size; omega) hK, fun W' hS => ⟨.int .i64 3, ?_, by rw [HE.out, HO.out]; rfl, Bw.shut hbW hS⟩⟩
    have k4 := hS.cell (w.heap.size + 1 + 1) 0 (.int .i64 3) kr
    simp [results, Tryd.results74, go_sem, k4]
theorem there_any (zs : List Int) (v : Value) (a n : Int) (g : Bool) (u c : Int) (w : World) (hv : RdI w v zs) : Calls Tryd.prog 74 #[v, .agg #[.int .i64 a, .int .i64 n, .bool g, .int .i64 u, .int .i64 c]] w fun e w' => e = .returned (.int .i64 (errT zs a n u c)) ∧ Bw w w' := by
  by_cases h : fk a n u c
  · by_cases hl : (zs.length : Int) < a + n
    · exact there_short zs v a n g u c w hv h hl
    · have h' := h
      obtain ⟨h1, _, h3, _⟩ := h'
      obtain ⟨A, rfl⟩ := Int.eq_ofNat_of_zero_le h1
      obtain ⟨N, rfl⟩ := Int.eq_ofNat_of_zero_le (show 0 ≤ n by omega)
      exact there_ok zs v A N g u c w hv h (by omega)
  · obtain ⟨ad, cap, rfl⟩ := hv.form
    exact there_bad zs ad zs.length cap a n g u c w h
end Go.Proofs.Sky
