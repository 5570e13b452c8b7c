/-
  lemmas for the theorems of this claim. No conditions beyond those written in the statements.
-/
import Derived.Test.YtmndialneggbjaaH21
set_option linter.unusedVariables false
set_option linter.unusedSimpArgs false
set_option linter.unnecessarySimpa false
namespace Go.Proofs.Sky
open Go Go.RowKit Go.Shelf
attribute [local go_sem] Oper.semAt_some
set_option maxHeartbeats 2000000
theorem range_bits {g : Operand} {tps : Array Tmp} {assign body : Code} {Q : Exit → Act → World → Prop} {act : Act} {w : World} (bb off cap m st p : Nat) (at_ : Nat) (hst : st = min at_ m) (hp : 1 ≤ p) (hp2 : p ≤ 20) (hm : m ≤ 10000) (hcap : m ≤ cap) (ha : at_ < p) (hc9 : cap ≤ 9223372036854775807) (B : Nat) (hB : B + 2 < w.heap.size)
    (c0 : w.cell? ⟨B, 0, none⟩ = some (.slice (some ⟨bb, off, none⟩) m cap)) (c1 : w.cell? ⟨B + 1, 0, none⟩ = some (.int .i64 p)) (c2 : w.cell? ⟨B + 2, 0, none⟩ = some (.int .i64 at_))
    (N : Nat) (hN : N = (m - st) / p) (hg : act.eval g = .func (.func 41) #[] #[.pointer (some ⟨B, 0, none⟩), .pointer (some ⟨B + 2, 0, none⟩), .pointer (some ⟨B + 1, 0, none⟩)]) (hps : tps.size = 1)
    (I : List Nat → World → Prop) (Ix : Code → List Nat → World → Prop) (hI : OwnFrom w.heap.size I) (hIx : ∀ c, OwnFrom w.heap.size (Ix c)) (h0 : I [] w) (ups : Nat → List (Nat × Value))
    (hassign : ∀ (l : Nat) (y : Nat) (W : World) (K : Act → World → Prop), K { tmps := (ups y).foldl (fun t p => t.setIfInBounds p.1 p.2) act.tmps, defers := [] } W →
      assign.wpIn (Fence.wide.inRound l) 8 Try.prog (Exit.then K (fun _ _ _ => False)) { tmps := (tps.zip #[.slice (some ⟨bb, off + (st + y * p) * 2, none⟩) p (cap - (st + y * p))]).foldl (fun t (p, v) => t.setIfInBounds p v) act.tmps, defers := [] } W)
    (hbody : ∀ (l : Nat) (pre : List Nat) (y : Nat) (W : World), y < N → pre.length < N → I pre W → body.wpIn (Fence.wide.inRound l) 8 Try.prog (ownPostG w.heap.size (KpT B) I Ix (pre ++ [y]) W) { tmps := (ups y).foldl (fun t p => t.setIfInBounds p.1 p.2) act.tmps, defers := [] } W)
    (hdone : ∀ (D : Nat) (W : World), w.heap.size ≤ D → I (List.range N) W → W.heap[D]? = some (.deferred (some [])) → Q .normal { act with defers := mk D :: act.defers } W)
    (hstop : ∀ (D : Nat) (c : Code) (k : Nat) (W : World), w.heap.size ≤ D → k ≤ N → Ix c (List.range k) W → W.heap[D]? = some (.deferred (some [])) → c.wp Try.prog Q { act with defers := mk D :: act.defers } W) :
    (Code.rangeFunc g tps assign body).wp Try.prog Q act w := by
  subst hN
  refine wp_rangeFunc hg (enters_of Try.func41 (by kernel_rfl) rfl) (bits_stops bb off cap m st p at_ hst hp hp2 hm hcap ha hc9 B w hB c0 c1 c2) kpT_t (kpT_b hB) (fun _ => hps.symm) (fun pre W => I (pre.map (cl ((m - st) / p))) W) (fun c pre W => Ix c (pre.map (cl ((m - st) / p))) W)
    (fun s W W' row hs hg hr => hI _ W W' row hs hg hr) (fun c s W W' row hs hg hr => hIx c _ W W' row hs hg hr) h0 (fun x => { tmps := (ups (cl ((m - st) / p) x)).foldl (fun t p => t.setIfInBounds p.1 p.2) act.tmps, defers := [] })
    (fun l x W K hK => hassign l (cl ((m - st) / p) x) W K hK) (fun l pre x W hi hl => ?_) (fun D xs W hD hS hi hK => ?_) (fun D c pre W hD hS hi hK => by
      obtain ⟨k, hk, rfl⟩ := hS
      rw [map_cl _ k hk] at hi
      exact hstop D c k W hD hk hi hK)
  · refine wpIn_mono (hbody l (pre.map (cl ((m - st) / p))) (cl ((m - st) / p) x) W (cl_lt _ x (by omega)) (by simpa using hl) hi) ?_
    intro e a' W' hp
    have hm : (pre ++ [x]).map (cl ((m - st) / p)) = pre.map (cl ((m - st) / p)) ++ [cl ((m - st) / p) x] := by simp
    cases e with
    | normal => exact ⟨hp.1, hp.2.1, by show I _ _; rw [hm]; exact hp.2.2⟩
    | ret => exact ⟨hp.1, by show Ix _ _ _; rw [hm]; exact hp.2⟩
    | exit id => exact ⟨hp.1, by show Ix _ _ _; rw [hm]; exact hp.2⟩
    | goto t => exact ⟨hp.1, by show Ix _ _ _; rw [hm]; exact hp.2⟩
    | panic ch => exact hp.elim
    | outgrown => exact hp.elim
  · subst hS
    rw [map_cl _ _ (Nat.le_refl _)] at hi
    exact hdone D W hD hi hK
end Go.Proofs.Sky
