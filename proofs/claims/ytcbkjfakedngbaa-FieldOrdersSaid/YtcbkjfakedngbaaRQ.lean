/-
  lemmas for the theorems of this claim. No conditions beyond those written in the statements.
-/
import Derived.Test.YtcbkjfakedngbaaQTail
import Derived.Test.YtcbkjfakedngbaaRF
set_option linter.unusedVariables false
set_option linter.unusedSimpArgs false
set_option linter.unnecessarySimpa false
namespace Go.Proofs.Sky
open Go Go.RowKit Go.Shelf
section
variable {P : Program} {ops : Array Oper} {Q : Exit → Act → World → Prop} {l n : Nat}
def noDefer (o : Oper) : Bool := match o.op with | .defer _ => false | _ => true
theorem noDefer_spec {o : Oper} (h : noDefer o = true) : ∀ c, o.op ≠ .defer c := by
  intro c hc; unfold noDefer at h; rw [hc] at h; cases h
theorem callsIn_round {f : FuncId} {args : Array Value} {w : World} {R : Ending → World → Prop} (h : Calls P f args w R) : CallsIn (Fence.wide.inRound l) n P f args w R := CallsIn.inRound l (callsIn_wide.2 h)
theorem Oper.wpIn_round {o : Oper} {a : Act} {w : World} {K : Act → World → Prop} (hd : noDefer o = true) (h : o.wp P a w K Q) : o.wpIn (Fence.wide.inRound l) n P a w K Q := by
  refine ⟨fun f _ => trivial, ?_⟩
  show o.uponIn _ n P a K Q ((o.semAt (some l) a.eval).run P w)
  rw [Oper.semAt_some l _ _ (noDefer_spec hd)]
  unfold Oper.wp at h
  generalize (execOp a.eval o).run P w = r at h ⊢
  cases r with
  | ok x w' =>
    cases x with
    | value v => exact h
    | skip => exact h
    | defer d => exact h
    | enter f args => exact ⟨fun hh => by simp [Fence.wide] at hh, callsIn_round h⟩
    | row r args => exact ⟨fun hh => by simp [Fence.wide] at hh, fun c cs _ => let ⟨v, w'', hr, hs⟩ := h c cs; ⟨v, w'', hr, stepsIn_wide.2 hs⟩⟩
    | _ => first | exact h.elim | exact h
  | halt x w' => cases x <;> first | exact h | exact h.elim
theorem wpListIn_round (hQ : ¬ LetsOut Q) : ∀ (rest : List Oper) (a : Act) (w : World), rest.all noDefer = true → wpList P ops Q rest a w → wpListIn (Fence.wide.inRound l) n P ops Q rest a w := by
  intro rest
  induction rest with
  | nil => exact fun a w _ h => h
  | cons o rest ih =>
    intro a w hd h
    simp only [List.all_cons, Bool.and_eq_true] at hd
    unfold wpList at h
    unfold wpListIn
    split
    · rename_i hw
      rw [if_pos hw] at h
      rcases h with h | ⟨_, h⟩
      · exact Oper.wpIn_mono (fun a w hh => ih a w hd.2 hh) (Oper.wpIn_round hd.1 h)
      · exact absurd h hQ
    · rename_i hw
      rw [if_neg hw] at h
      exact ⟨fun f _ => trivial, ih _ _ hd.2 h⟩
theorem wpIn_region_round {id : Nat} {L : List Oper} {a : Act} {w : World} (hd : L.all noDefer = true) (hQ : ¬ LetsOut Q) (h : wpList P L.toArray Q L a w) : (Code.region id L.toArray false).wpIn (Fence.wide.inRound l) n P Q a w :=
  wpIn_region_lit (wpListIn_round hQ L a w hd h)
theorem wpAnyIn_round {md : Region.Mode} (hQ : ¬ LetsOut Q) (hd : ops.all noDefer = true) : ∀ (fuel : Nat) (done : Array Bool) (a : Act) (w : World), wpAny P md ops Q fuel done a w → wpAnyIn (Fence.wide.inRound l) n P md ops Q fuel done a w := by
  intro fuel
  induction fuel with
  | zero => exact fun done a w h => h
  | succ fuel ih =>
    intro done a w h
    refine ⟨h.1, fun i hi => ?_⟩
    have hh := h.2 i hi
    unfold wpOp at hh
    unfold wpOpIn
    cases ho : ops[i]? with
    | none => rw [ho] at hh; exact ih _ _ _ hh
    | some o =>
      rw [ho] at hh
      simp only at hh ⊢
      split
      · rename_i hw
        rw [if_pos hw] at hh
        rcases hh with hh | ⟨_, hh⟩
        · exact Oper.wpIn_mono (fun a w h' => ih _ a w h') (Oper.wpIn_round (by
            have := Array.all_eq_true.1 hd i (Array.getElem?_eq_some_iff.1 ho).1
            obtain ⟨h1, h2⟩ := Array.getElem?_eq_some_iff.1 ho
            rwa [h2] at this) hh)
        · exact absurd hh hQ
      · rename_i hw
        rw [if_neg hw] at hh
        exact ⟨fun f _ => trivial, ih _ _ _ hh⟩
theorem wpIn_any_round {id : Nat} {a : Act} {w : World} (hm : P.follows .mixedOrders = true) (hd : ops.all noDefer = true) (hQ : ¬ LetsOut Q) (h : wpAny P .any ops Q ops.size (Array.replicate ops.size false) a { w with drawn := w.drawn + 1 }) : (Code.region id ops true).wpIn (Fence.wide.inRound l) n P Q a w :=
  wpIn_region_any hm (wpAnyIn_round hQ hd _ _ _ _ h)
/-- in a round: a region that draws its order, reads and calls, all of it -/
theorem wpIn_region_ext {id : Nat} {a : Act} {w : World} {L : List Oper} (hm : P.follows .mixedOrders = true) (hd : L.toArray.all noDefer = true) (hQ : ¬ LetsOut Q) (hB : Region.lexB .any L.toArray = true)
    (h : wpQuiet P L.toArray (fun w' => ∃ p : Ext w, w' = p.W) (fun a' => ∀ w', (∃ p : Ext w, w' = p.W) → Q .normal a' w') L a) : (Code.region id L.toArray true).wpIn (Fence.wide.inRound l) n P Q a w :=
  wpIn_any_round hm hd hQ (wpAny_quiet_all (C := fun w' => ∃ p : Ext w, w' = p.W) hB ⟨⟨{ w with drawn := w.drawn + 1 }, Bw.drew (Bw.refl w)⟩, rfl⟩ h)
/-- .. with a forced tail -/
theorem wpIn_region_ext_tail {id : Nat} {a : Act} {w : World} {L : List Oper} (k : Nat) (hm : P.follows .mixedOrders = true) (hd : L.toArray.all noDefer = true) (hQ : ¬ LetsOut Q) (hB : Region.lexTailB .any L.toArray k = true)
    (h : wpQuiet P L.toArray (fun w' => ∃ p : Ext w, w' = p.W) (fun a' => ∀ w', (∃ p : Ext w, w' = p.W) → wpList P L.toArray Q (L.drop k) a' w') (L.take k) a) : (Code.region id L.toArray true).wpIn (Fence.wide.inRound l) n P Q a w :=
  wpIn_any_round hm hd hQ (wpAny_quiet_tail (C := fun w' => ∃ p : Ext w, w' = p.W) k hB ⟨⟨{ w with drawn := w.drawn + 1 }, Bw.drew (Bw.refl w)⟩, rfl⟩ h)
/-- .. only reads: the world is as it was but for the draws -/
theorem wpIn_region_drew_tail {id : Nat} {a : Act} {w : World} {L : List Oper} (k : Nat) (hm : P.follows .mixedOrders = true) (hd : L.toArray.all noDefer = true) (hQ : ¬ LetsOut Q) (hB : Region.lexTailB .any L.toArray k = true)
    (h : wpQuiet P L.toArray (fun w' => w' = w.drew) (fun a' => wpList P L.toArray Q (L.drop k) a' w.drew) (L.take k) a) : (Code.region id L.toArray true).wpIn (Fence.wide.inRound l) n P Q a w :=
  wpIn_any_round hm hd hQ (wpAny_quiet_tail (C := fun w' => w' = w.drew) k hB rfl (by
    have : (fun a' => wpList P L.toArray Q (L.drop k) a' w.drew) = (fun a' => ∀ w', w' = w.drew → wpList P L.toArray Q (L.drop k) a' w') := by
      funext a'; exact propext ⟨fun h w' e => by subst e; exact h, fun h => h _ rfl⟩
    rw [← this]; exact h))
theorem wp_region_drew_tail {id : Nat} {a : Act} {w : World} {L : List Oper} (k : Nat) (hm : P.follows .mixedOrders = true) (hB : Region.lexTailB .any L.toArray k = true)
    (h : wpQuiet P L.toArray (fun w' => w' = w.drew) (fun a' => wpList P L.toArray Q (L.drop k) a' w.drew) (L.take k) a) : (Code.region id L.toArray true).wp P Q a w :=
  wp_region_any hm (wpAny_quiet_tail (C := fun w' => w' = w.drew) k hB rfl (by
    have : (fun a' => wpList P L.toArray Q (L.drop k) a' w.drew) = (fun a' => ∀ w', w' = w.drew → wpList P L.toArray Q (L.drop k) a' w') := by
      funext a'; exact propext ⟨fun h w' e => by subst e; exact h, fun h => h _ rfl⟩
    rw [← this]; exact h))
end
theorem lt_of_cell {w : World} {b o : Nat} {v : Value} (h : w.cell? ⟨b, o, none⟩ = some v) : b < w.heap.size := by
  rcases Nat.lt_or_ge b w.heap.size with h' | h'
  · exact h'
  · simp [World.cell?, Array.getElem?_eq_none h'] at h
theorem Ext.cell' {w : World} {b o : Nat} {v : Value} (h : w.cell? ⟨b, o, none⟩ = some v) (p : Ext w) : p.W.cell? ⟨b, o, none⟩ = some v := Ext.cell (lt_of_cell h) h p
theorem Bw.cell' {w w' : World} {b o : Nat} {v : Value} (hb : Bw w w') (h : w.cell? ⟨b, o, none⟩ = some v) : w'.cell? ⟨b, o, none⟩ = some v := by rw [hb.cells.1 _ _ (lt_of_cell h)]; exact h
theorem Bw.frozen' {w w' : World} {b o : Nat} {v : Value} {x : Bool} (hb : Bw w w') (h : w.cell? ⟨b, o, none⟩ = some v) (hf : w.frozen? ⟨b, o, none⟩ = x) : w'.frozen? ⟨b, o, none⟩ = x := by rw [hb.cells.2 _ _ (lt_of_cell h)]; exact hf
theorem KeepsFrom.of_bw {B : Nat} {w w' : World} (h : Bw w w') : KeepsFrom B w w' := ⟨h.size, fun k o _ hk _ => (h.out.block k (Array.getElem?_eq_some_iff.1 hk).1).trans hk⟩
theorem KpB.of_bw {B : Nat} {w w' : World} (hB : B < w.heap.size) (h : Bw w w') : KpB B w w' := fun o => h.cells.1 B o hB
theorem KpB.set {B b o : Nat} {w : World} (u : Value) (h : b ≠ B) : KpB B w (w.setCell ⟨b, o, none⟩ u) := fun i => cell_set_ne _ _ _ _ _ _ h
end Go.Proofs.Sky
