/-
  lemmas for the theorems of this claim. No conditions beyond those written in the statements.
-/
import Derived.Test.YtdaplhjkccfmgaaA30
import Derived.Test.YtdaplhjkccfmgaaRG
set_option linter.unusedVariables false
set_option linter.unusedSimpArgs false
set_option linter.unnecessarySimpa false
namespace Go.Proofs.Sky
open Go Go.RowKit Go.Shelf
attribute [local go_sem] Oper.semAt_some
set_option maxHeartbeats 2000000
theorem pairs_any (v : Value) (n : Nat) (a : Option Addr) (c : Nat) (hv : v = .slice a n c) (w : World) : Calls Try.prog 25 #[v] w fun e w' => e = .returned (.func (.func 36) #[] #[.pointer (some ⟨w.heap.size, 0, none⟩)]) ∧ w' = w.alloc (.cells #[v] 22) := by
  subst hv
  go_enter Try.func25, Try.ntmps25
  go_wp2
  go_ret
  exact ⟨rfl, rfl⟩
/-- what a round must keep for the iterator: its box, and what it visits -/
def KpP (B : Nat) (bb : Nat) (W W' : World) : Prop := ∀ o, W'.cell? ⟨B, o, none⟩ = W.cell? ⟨B, o, none⟩ ∧ W'.cell? ⟨bb, o, none⟩ = W.cell? ⟨bb, o, none⟩
theorem kpP_t {B bb : Nat} {X Y Z : World} (h : KpP B bb X Y) (k : KpP B bb Y Z) : KpP B bb X Z := fun o => ⟨(k o).1.trans (h o).1, (k o).2.trans (h o).2⟩
theorem kpP_b {B bb n : Nat} (hB : B < n) (hb : bb < n) (W : World) (l : Nat) (o o' : Obj) (hl : n ≤ l) (_ : W.heap[l]? = some o) (_ : o.isCells = false) (_ : o.isWalk = false) : KpP B bb W (W.putObj l o') := fun i =>
  ⟨World.cell?_of_block (World.putObj_heap_other (by show B ≠ l; omega)), World.cell?_of_block (World.putObj_heap_other (by show bb ≠ l; omega))⟩
theorem kpP_refl (B bb : Nat) (W : World) : KpP B bb W W := fun _ => ⟨rfl, rfl⟩
theorem kpP_bw {B bb : Nat} {W W' : World} (hB : B < W.heap.size) (hb : bb < W.heap.size) (h : Bw W W') : KpP B bb W W' := fun o => ⟨h.cells.1 B o hB, h.cells.1 bb o hb⟩
def encM (m : Int × Int) : Array Value := #[.int .i64 m.1, .int .i64 m.2]
set_option maxRecDepth 100000 in
theorem pairs_stops (ps : List (Int × Int)) (bb off cap : Nat) (B : Nat) (w : World) (hB : B < w.heap.size) (hbb : ps = [] ∨ bb < w.heap.size) (hlen : ps.length ≤ 9223372036854775807) (a : Option Addr) (ha : ps = [] ∨ a = some ⟨bb, off, none⟩) (c0 : w.cell? ⟨B, 0, none⟩ = some (.slice a ps.length cap))
    (hc : ∀ i, i < ps.length → w.cell? ⟨bb, off + i * 2, none⟩ = some (.int .i64 (ps.getD i (0, 0)).1) ∧ w.cell? ⟨bb, off + i * 2 + 1, none⟩ = some (.int .i64 (ps.getD i (0, 0)).2)) :
    SeqStopsK Fence.wide 9 Try.prog 36 #[.pointer (some ⟨B, 0, none⟩)] encM (KpP B bb) (fun xs => xs = ps) (fun pre => ∃ k, k ≤ ps.length ∧ pre = ps.take k) ps.length w := fun l J Jx W hW hJa _ hY h0 => by
  have d0 := (hW.cell (p := ⟨B, 0, none⟩) hB).trans c0
  have HC : Hid (∀ i, i < ps.length → W.cell? ⟨bb, off + i * 2, none⟩ = some (.int .i64 (ps.getD i (0, 0)).1) ∧ W.cell? ⟨bb, off + i * 2 + 1, none⟩ = some (.int .i64 (ps.getD i (0, 0)).2)) := Lib.hid (fun i hi => by
    have hb := hbb.resolve_left (by intro e; subst e; simp at hi)
    exact ⟨(hW.cell (p := ⟨bb, _, none⟩) hb).trans (hc i hi).1, (hW.cell (p := ⟨bb, _, none⟩) hb).trans (hc i hi).2⟩)
  have HBB := Lib.hid (show ps = [] ∨ bb < W.heap.size from hbb.imp id (fun h => Nat.lt_of_lt_of_le h hW.size))
  have hBW : B < W.heap.size := Nat.lt_of_lt_of_le hB hW.size
  clear hc hbb c0
  have HA := Lib.hid ha; clear ha
  obtain ⟨n, hn⟩ : ∃ n, n = ps.length := ⟨_, rfl⟩
  rw [← hn] at d0 hlen hY ⊢
  have HN := Lib.hid hn; clear hn
  have hY' := Lib.hid hY; clear hY
  have HJ := Lib.hid hJa; clear hJa
  refine callsIn_of_wp Try.func36 rfl trivial ?_ rfl
  simp only [Try.ntmps36, List.size_toArray, List.length_cons, List.length_nil, Nat.reduceAdd, Nat.reduceSub, Array.replicate_succ, Array.replicate_zero, List.push_toArray, List.append_toArray, List.nil_append, List.cons_append]
  gi_wp2
  gi_loopw [7] (fun i wr => ∃ k : Nat, k ≤ n ∧ i = .int .i64 k ∧ Hid (J (ps.take k) wr) ∧ Hid (KpP B bb W wr)) (fun i _ => n - (intOf i).toNat)
  case atStart => exact ⟨0, Nat.zero_le _, rfl, h0, kpP_refl _ _ _⟩
  case round =>
    obtain ⟨k, hk, rfl, hJs, hkp⟩ := hrel
    by_cases hlt : k < n
    · have hlti : (k : Int) < n := by omega
      have hq := HN.out
      have hbb := HBB.out.resolve_left (by intro e; subst e; simp at hq; omega)
      obtain rfl := HA.out.resolve_left (by intro e; subst e; simp at hq; omega)
      obtain ⟨e1, e2⟩ := HC.out k (by omega)
      have e1 := (hkp.out _).2.trans e1
      have e2 := (hkp.out _).2.trans e2
      have HT := Lib.hid (take_snoc ps k (0, 0) (by omega))
      generalize ps.getD k (0, 0) = m at e1 e2 HT
      obtain ⟨x, y⟩ := m
      simp only at e1 e2
      have hJ2 : J (ps.take k) (wr.alloc (.cells #[.int .i64 x, .int .i64 y] 24)) := HJ.out _ _ _ none hJs.out (World.grownBy_alloc wr _ none) (fun r e => by cases e)
      obtain ⟨fn, tmps, assign, body, hy, hR⟩ := hY'.out _ (x, y) _ hJ2 (by simp; omega)
      unfold encM at hy
      have HR := Lib.hid hR; clear hR
      clear hq
      have HL := Lib.hid (And.intro (lt_of_cell (((hkp.out 0).1).trans d0)) (lt_of_cell e1))
      gi_wp2
      refine HR.out.mono ?_
      rintro e W3 (⟨rfl, hJ3, hk3⟩ | ⟨rfl, hJx3⟩)
      · rw [← HT.out] at hJ3
        have HJ3 := Lib.hid hJ3; clear hJ3
        have HK3 := Lib.hid hk3; clear hk3
        gi_wp2
        go_roundw
        case rel => exact ⟨k + 1, by omega, by go_num, HJ3.out, kpP_t hkp.out (kpP_t (kpP_bw HL.out.1 HL.out.2 (Bw.alloc (Bw.refl _) _)) HK3.out)⟩
        case measure => simp [intOf]; omega
      · have HJ3 := Lib.hid hJx3; clear hJx3
        gi_wp2
        refine bodyPost_ret (results_none rfl _ _ _) rfl ?_
        exact ⟨⟨_, rfl⟩, .inr ⟨_, ⟨k + 1, by omega, HT.out.symm⟩, HJ3.out⟩⟩
    · obtain rfl : k = n := by omega
      gi_wp2
      go_end0
      exact ⟨⟨_, rfl⟩, .inl ⟨_, rfl, by have := hJs.out; rw [HN.out, List.take_length] at this; exact this⟩⟩
theorem range_pairs {g : Operand} {tps : Array Tmp} {assign body : Code} {Q : Exit → Act → World → Prop} {act : Act} {w : World} (ps : List (Int × Int)) (bb off cap : Nat) (B : Nat) (hB : B < w.heap.size) (hbb : ps = [] ∨ bb < w.heap.size) (hlen : ps.length ≤ 9223372036854775807) (a : Option Addr) (ha : ps = [] ∨ a = some ⟨bb, off, none⟩) (c0 : w.cell? ⟨B, 0, none⟩ = some (.slice a ps.length cap))
    (hc : ∀ i, i < ps.length → w.cell? ⟨bb, off + i * 2, none⟩ = some (.int .i64 (ps.getD i (0, 0)).1) ∧ w.cell? ⟨bb, off + i * 2 + 1, none⟩ = some (.int .i64 (ps.getD i (0, 0)).2))
    (hbl : bb < w.heap.size) (hg : act.eval g = .func (.func 36) #[] #[.pointer (some ⟨B, 0, none⟩)]) (hps : tps.size = 2)
    (I : List (Int × Int) → World → Prop) (Ix : Code → List (Int × Int) → World → Prop) (hI : OwnFrom w.heap.size I) (hIx : ∀ c, OwnFrom w.heap.size (Ix c)) (h0 : I [] w) (ups : Int × Int → List (Nat × Value))
    (hassign : ∀ (l : Nat) (y : Int × Int) (W : World) (K : Act → World → Prop), K { tmps := (ups y).foldl (fun t p => t.setIfInBounds p.1 p.2) act.tmps, defers := [] } W →
      assign.wpIn (Fence.wide.inRound l) 8 Try.prog (Exit.then K (fun _ _ _ => False)) { tmps := (tps.zip #[.int .i64 y.1, .int .i64 y.2]).foldl (fun t (p, v) => t.setIfInBounds p v) act.tmps, defers := [] } W)
    (hbody : ∀ (l : Nat) (pre : List (Int × Int)) (y : Int × Int) (W : World), pre.length < ps.length → I pre W → body.wpIn (Fence.wide.inRound l) 8 Try.prog (ownPostG w.heap.size (KpP B bb) I Ix (pre ++ [y]) W) { tmps := (ups y).foldl (fun t p => t.setIfInBounds p.1 p.2) act.tmps, defers := [] } W)
    (hdone : ∀ (D : Nat) (W : World), w.heap.size ≤ D → I ps W → W.heap[D]? = some (.deferred (some [])) → Q .normal { act with defers := mk D :: act.defers } W)
    (hstop : ∀ (D : Nat) (c : Code) (k : Nat) (W : World), w.heap.size ≤ D → k ≤ ps.length → Ix c (ps.take k) W → W.heap[D]? = some (.deferred (some [])) → c.wp Try.prog Q { act with defers := mk D :: act.defers } W) :
    (Code.rangeFunc g tps assign body).wp Try.prog Q act w := by
  refine wp_rangeFunc hg (enters_of Try.func36 (by kernel_rfl) rfl) (pairs_stops ps bb off cap B w hB hbb hlen a ha c0 hc) kpP_t (kpP_b hB hbl) (fun _ => hps.symm) I Ix hI hIx h0 (fun y => { tmps := (ups y).foldl (fun t p => t.setIfInBounds p.1 p.2) act.tmps, defers := [] })
    (fun l x W K hK => hassign l x W K hK) (fun l pre x W hi hl => hbody l pre x W hl hi) (fun D xs W hD hS hi hK => by subst hS; exact hdone D W hD hi hK) (fun D c pre W hD hS hi hK => by
      obtain ⟨k, hk, rfl⟩ := hS
      exact hstop D c k W hD hk hi hK)
end Go.Proofs.Sky
