/-
  lemmas for the theorems of this claim. No conditions beyond those written in the statements.
-/
import Derived.Test.YtdaplhjkccfmgaaO30
import Derived.Test.YtdaplhjkccfmgaaQ30
set_option linter.unusedVariables false
set_option linter.unusedSimpArgs false
set_option linter.unnecessarySimpa false
namespace Go.Proofs.Sky
open Go Go.RowKit Go.Shelf
set_option maxHeartbeats 2000000
section
variable {P : Program} {ops : Array Oper} {Q : Exit → Act → World → Prop} {l n : Nat}
theorem wpIn_region_held {S : World → Prop} {id : Nat} {a : Act} {w : World} (hm : P.follows .mixedOrders = true) (hd : ops.all noDefer = true) (hQ : ¬ LetsOut Q) (hS : S w.drew)
    (h : S w.drew → wpAnyH P .any ops Q S ops.size (Array.replicate ops.size false) a w.drew) : (Code.region id ops true).wpIn (Fence.wide.inRound l) n P Q a w :=
  wpIn_any_round hm hd hQ (wpAny_of_held _ _ _ _ (h hS))
end
theorem Blk.K {w w' : World} {row : Option Nat} {B g : Nat} {T : TypeId} {cs : Array Value} (h : Blk w g T cs) (hg : w.grownBy w' row) (hr : ∀ r, row = some r → B ≤ r ∧ ∃ o : Obj, w.heap[r]? = some o ∧ o.isCells = false) : Blk w' g T cs := by
  unfold Blk at *
  rw [hg.block g (Array.getElem?_eq_some_iff.1 h).1 (fun e => by
    obtain ⟨_, o, ho, hc⟩ := hr g e.symm
    rw [h] at ho; cases ho; cases hc)]
  exact h
theorem own_K {w w' : World} {row : Option Nat} {B base : Nat} {e : TypeId} {k : Nat} {v : Value} {n : Nat} {xs : List Value} (h : w.ownsRow base e k v n xs) (hg : w.grownBy w' row) (hr : ∀ r, row = some r → B ≤ r ∧ ∃ o : Obj, w.heap[r]? = some o ∧ o.isCells = false) : w'.ownsRow base e k v n xs := by
  obtain ⟨h1, h2⟩ := h
  refine ⟨h1, ?_⟩
  rcases h2 with h2 | ⟨g, cap, cur, hv, hg0, hh, r⟩
  · exact .inl h2
  · exact .inr ⟨g, cap, cur, hv, hg0, Blk.K (T := e) hh hg hr, r⟩
/-- an own row lies on where another own row (of another type) has grown -/
theorem own_other {w w' : World} {base : Nat} {e e' : TypeId} {k k' : Nat} {v v' : Value} {n n' : Nat} {xs xs' : List Value} (h : w.ownsRow base e k v n xs) (h' : w.ownsRow base e' k' v' n' xs') (hne : e ≠ e') (hg : w.grownBy w' v'.ownBlock) : w'.ownsRow base e k v n xs := by
  obtain ⟨h1, h2⟩ := h
  refine ⟨h1, ?_⟩
  rcases h2 with h2 | ⟨g, cap, cur, hv, hg0, hh, r⟩
  · exact .inl h2
  · refine .inr ⟨g, cap, cur, hv, hg0, ?_, r⟩
    rw [hg.block g (Array.getElem?_eq_some_iff.1 hh).1 (fun e1 => by
      obtain ⟨_, h4⟩ := h'
      rcases h4 with ⟨rfl, _⟩ | ⟨g2, cap2, cur2, rfl, _, hh2, _⟩
      · simp [Value.ownBlock] at e1
      · simp [Value.ownBlock] at e1; subst e1; rw [hh] at hh2; cases hh2; exact hne rfl)]
    exact hh
theorem own_set {w : World} {base : Nat} {e : TypeId} {k : Nat} {v : Value} {n : Nat} {xs : List Value} (h : w.ownsRow base e k v n xs) {b : Nat} (hb : b < base) (o : Nat) (u : Value) : (w.setCell ⟨b, o, none⟩ u).ownsRow base e k v n xs := by
  obtain ⟨h1, h2⟩ := h
  refine ⟨h1, ?_⟩
  rcases h2 with h2 | ⟨g, cap, cur, hv, hg0, hh, r⟩
  · exact .inl h2
  · exact .inr ⟨g, cap, cur, hv, hg0, (heap_setCell_other w ⟨b, o, none⟩ g u (by simp; omega)).trans hh, r⟩
theorem own_row {w : World} {base : Nat} {e : TypeId} {k : Nat} {v : Value} {n : Nat} {xs : List Value} (h : w.ownsRow base e k v n xs) {b : Nat} (hb : b < base) (cs : Array Value) : (w.setRow b cs).ownsRow base e k v n xs := by
  obtain ⟨h1, h2⟩ := h
  refine ⟨h1, ?_⟩
  rcases h2 with h2 | ⟨g, cap, cur, hv, hg0, hh, r⟩
  · exact .inl h2
  · exact .inr ⟨g, cap, cur, hv, hg0, (setRow_other w b g cs (by omega)).trans hh, r⟩
/-- the ring behind measurements -/
def runG (Wn : Nat) (L : Int) (ps : List (Int × Int)) : Rg := ps.foldl (fun r m => r.step L (m.1 - m.2)) (Rg.new Wn)
theorem runG_snoc (Wn : Nat) (L : Int) (ps : List (Int × Int)) (m : Int × Int) : runG Wn L (ps ++ [m]) = (runG Wn L ps).step L (m.1 - m.2) := by simp [runG, List.foldl_append]
theorem runG_W (Wn : Nat) (L : Int) (ps : List (Int × Int)) : (runG Wn L ps).W = Wn := by
  have key : ∀ (ps : List (Int × Int)) (r : Rg), (ps.foldl (fun r m => r.step L (m.1 - m.2)) r).W = r.W := by
    intro ps
    induction ps with
    | nil => intro r; rfl
    | cons m ps ih => intro r; rw [List.foldl_cons, ih, Rg.step_W]
  exact key ps _
theorem runG_ok (Wn : Nat) (L : Int) (ps : List (Int × Int)) (h : 1 ≤ Wn) (h2 : Wn ≤ 100) : (runG Wn L ps).ok := by
  have key : ∀ (ps : List (Int × Int)) (r : Rg), r.ok → (ps.foldl (fun r m => r.step L (m.1 - m.2)) r).ok := by
    intro ps
    induction ps with
    | nil => intro r h; exact h
    | cons m ps ih => intro r h; exact ih _ (Rg.step_ok h _ _)
  exact key ps _ (Rg.new_ok _ h h2)
theorem runG_ds (Wn : Nat) (L : Int) (ps : List (Int × Int)) : (runG Wn L ps).ds = (runS Wn L ps).1 := by
  have key : ∀ (ps : List (Int × Int)) (r : Rg) (st : StS), r.W = Wn → r.ds = st.1 → (ps.foldl (fun r m => r.step L (m.1 - m.2)) r).ds = (ps.foldl (stepS Wn L) st).1 := by
    intro ps
    induction ps with
    | nil => intro r st _ h; exact h
    | cons m ps ih =>
      intro r st hW h
      rw [List.foldl_cons, List.foldl_cons]
      exact ih _ _ (by rw [Rg.step_W, hW]) (by rw [Rg.step_ds, hW, h]; rfl)
  exact key ps _ _ rfl rfl
/-- what holds in the round of Replay -/
structure RepI (w : World) (N1 br : Nat) (Wn : Nat) (L : Int) (pre : List (Int × Int)) (W : World) : Prop where
  okm : ∀ m ∈ pre, okM m = true
  bw : Bw w W
  b0 : Blk W w.heap.size 3 #[.int .i64 L]
  b1 : ∃ v1, Blk W (w.heap.size + 1) 25 #[v1] ∧ W.ownsRow N1 36 2 v1 (runS Wn L pre).2.1.length (flat (runS Wn L pre).2.1)
  b2 : ∃ v2, Blk W (w.heap.size + 1 + 1) 26 #[v2] ∧ W.ownsRow N1 3 1 v2 (runS Wn L pre).2.2.length ((runS Wn L pre).2.2.map (Value.int .i64))
  b3 : Blk W (w.heap.size + 1 + 1 + 1) 27 #[.int .i64 0]
  br : Blk W br 53 (runG Wn L pre).arr
  sz : N1 ≤ W.heap.size
theorem RepI.K {w : World} {N1 br : Nat} {Wn : Nat} {L : Int} {pre : List (Int × Int)} {W W' : World} {row : Option Nat} {B : Nat} (h : RepI w N1 br Wn L pre W) (hB : w.heap.size ≤ B) (hg : W.grownBy W' row) (hr : ∀ r, row = some r → B ≤ r ∧ ∃ o : Obj, W.heap[r]? = some o ∧ o.isCells = false) : RepI w N1 br Wn L pre W' := by
  obtain ⟨h1, h2, h3, ⟨v1, h4, h5⟩, ⟨v2, h6, h7⟩, h8, h9, h10⟩ := h
  exact ⟨h1, Below.grown h2 hg h2.size (fun k e => Nat.le_trans hB (hr k e).1), h3.K hg hr, ⟨v1, h4.K hg hr, own_K h5 hg hr⟩, ⟨v2, h6.K hg hr, own_K h7 hg hr⟩, h8.K hg hr, h9.K hg hr, Nat.le_trans h10 hg.size⟩
/-- .. and where it has returned from a round -/
structure RepX (w : World) (W : World) : Prop where
  bw : Bw w W
  b1 : Blk W (w.heap.size + 1) 25 #[.slice none 0 0]
  b2 : Blk W (w.heap.size + 1 + 1) 26 #[.slice none 0 0]
  b3 : Blk W (w.heap.size + 1 + 1 + 1) 27 #[.int .i64 2]
theorem RepX.K {w W W' : World} {row : Option Nat} {B : Nat} (h : RepX w W) (hB : w.heap.size ≤ B) (hg : W.grownBy W' row) (hr : ∀ r, row = some r → B ≤ r ∧ ∃ o : Obj, W.heap[r]? = some o ∧ o.isCells = false) : RepX w W' :=
  ⟨Below.grown h.bw hg h.bw.size (fun k e => Nat.le_trans hB (hr k e).1), h.b1.K hg hr, h.b2.K hg hr, h.b3.K hg hr⟩
def ReplP (base : Nat) (rs : List (Int × Int)) (sl : List Int) (er : Int) (e : Ending) (w' : World) : Prop := ∃ v1 v2, e = .returned (.tuple #[v1, v2, .int .i64 er]) ∧ RdS w' v1 rs ∧ RdI w' v2 sl ∧ Fresh base v1 ∧ Fresh base v2
/-- a step of the body: what must be kept for the iterator and for the marks -/
structure Stp (B bb : Nat) (W W' : World) : Prop where
  size : W.heap.size ≤ W'.heap.size
  kp : KpP B bb W W'
  ko : ∀ (k : Nat) (o : Obj), W.heap[k]? = some o → o.isCells = false → W'.heap[k]? = some o
theorem Stp.trans {B bb : Nat} {a b c : World} (h : Stp B bb a b) (k : Stp B bb b c) : Stp B bb a c := ⟨Nat.le_trans h.size k.size, kpP_t h.kp k.kp, fun i o hi ho => k.ko i o (h.ko i o hi ho) ho⟩
theorem Stp.refl (B bb : Nat) (a : World) : Stp B bb a a := ⟨Nat.le_refl _, kpP_refl _ _ _, fun _ _ h _ => h⟩
theorem Stp.bw {B bb : Nat} {a b : World} (hB : B < a.heap.size) (hb : bb < a.heap.size) (h : Bw a b) : Stp B bb a b := ⟨h.size, kpP_bw hB hb h, fun k o hk _ => (h.out.block k (Array.getElem?_eq_some_iff.1 hk).1).trans hk⟩
theorem Stp.row {B bb g : Nat} {a : World} {T : TypeId} {cs : Array Value} (h : Blk a g T cs) (hB : g ≠ B) (hb : g ≠ bb) (cs' : Array Value) : Stp B bb a (a.setRow g cs') :=
  ⟨by simp, fun o => ⟨cell_setRow_other _ _ _ _ (by simpa using hB.symm), cell_setRow_other _ _ _ _ (by simpa using hb.symm)⟩, fun k o hk ho => (setRow_other a g k cs' (by
    intro e; subst e; unfold Blk at h; rw [h] at hk; cases hk; cases ho)).trans hk⟩
theorem Stp.grown {B bb base : Nat} {a b : World} {e : TypeId} {k : Nat} {v : Value} {n : Nat} {xs : List Value} (ho : a.ownsRow base e k v n xs) (hg : a.grownBy b v.ownBlock) (hB : B < base) (hb : bb < base) (hsz : base ≤ a.heap.size) : Stp B bb a b := by
  have hlt : ∀ j, v.ownBlock = some j → base ≤ j := fun j hj => (ho.lt j hj).1
  have hc : ∀ j, v.ownBlock = some j → ∃ cur, a.heap[j]? = some (.cells cur e (0, 0)) := fun j hj => by
    rcases ho.2 with ⟨rfl, _⟩ | ⟨g, cap, cur, rfl, _, hh, _⟩
    · simp [Value.ownBlock] at hj
    · simp [Value.ownBlock] at hj; subst hj; exact ⟨cur, hh⟩
  refine ⟨hg.size, fun o => ⟨World.cell?_of_block (hg.block B (by omega) (fun e1 => by have := hlt B e1.symm; omega)), World.cell?_of_block (hg.block bb (by omega) (fun e1 => by have := hlt bb e1.symm; omega))⟩, fun k o hk hko => ?_⟩
  refine (hg.block k (Array.getElem?_eq_some_iff.1 hk).1 (fun e1 => ?_)).trans hk
  obtain ⟨cur, hcur⟩ := hc k e1.symm
  rw [hcur] at hk; cases hk; cases hko
theorem Stp.from {B bb : Nat} {a b : World} (h : Stp B bb a b) (N : Nat) : KeepsFrom N a b := ⟨h.size, fun k o _ hk ho => h.ko k o hk ho⟩
theorem Blk.grown {w w' : World} {g : Nat} {T : TypeId} {cs : Array Value} (h : Blk w g T cs) {base : Nat} {e : TypeId} {k : Nat} {v : Value} {n : Nat} {xs : List Value} (ho : w.ownsRow base e k v n xs) (hg : w.grownBy w' v.ownBlock) (hlt : g < base) : Blk w' g T cs := by
  unfold Blk at *
  rw [hg.block g (Array.getElem?_eq_some_iff.1 h).1 (fun e1 => by have := (ho.lt g e1.symm).1; omega)]
  exact h
theorem rdS_data {w : World} {ad : Option Addr} {n cap : Nat} {ps : List (Int × Int)} (h : RdS w (.slice ad n cap) ps) : ∃ bb off, bb ≤ w.heap.size ∧ (ps = [] ∨ bb < w.heap.size) ∧ (ps = [] ∨ ad = some ⟨bb, off, none⟩) ∧ ∀ i, i < ps.length → w.cell? ⟨bb, off + i * 2, none⟩ = some (.int .i64 (ps.getD i (0, 0)).1) ∧ w.cell? ⟨bb, off + i * 2 + 1, none⟩ = some (.int .i64 (ps.getD i (0, 0)).2) := by
  obtain ⟨_, a, c, e, h4⟩ := h
  injection e with e1 e2 e3
  subst e1
  rcases h4 with rfl | ⟨b, off, rfl, h6, h7⟩
  · exact ⟨w.heap.size, 0, Nat.le_refl _, .inl rfl, .inl rfl, by simp⟩
  · exact ⟨b, off, by omega, .inr h6, .inr rfl, h7⟩
theorem Blk.set_other {w : World} {g b : Nat} {T : TypeId} {cs : Array Value} (h : Blk w g T cs) (hn : g ≠ b) (o : Nat) (u : Value) : Blk (w.setCell ⟨b, o, none⟩ u) g T cs := (heap_setCell_other w ⟨b, o, none⟩ g u (by simpa using hn)).trans h
theorem Stp.set {B bb g : Nat} {a : World} {T : TypeId} {cs : Array Value} (h : Blk a g T cs) (hB : g ≠ B) (hb : g ≠ bb) (o : Nat) (u : Value) : Stp B bb a (a.setCell ⟨g, o, none⟩ u) :=
  ⟨by simp, fun i => ⟨cell_set_ne _ _ _ _ _ _ hB, cell_set_ne _ _ _ _ _ _ hb⟩, fun k ob hk ho => (heap_setCell_other a ⟨g, o, none⟩ k u (by
    intro e; simp at e; subst e; unfold Blk at h; rw [h] at hk; cases hk; cases ho)).trans hk⟩
section
variable {ops : Array Oper} {rest : List Oper} {o : Oper} {a : Act} {w : World} {Q : Exit → Act → World → Prop}
/-- a store of a slice into a block of one cell -/
theorem run_store_slice {P : Program} (ρ : Operand → Value) (ty : TypeId) (x y : Operand) (ho : o.op = .store ty x y) (g off : Nat) (A : Option Addr) (n c : Nat) (hx : ρ x = .pointer (some ⟨g, off, none⟩)) (hy : ρ y = .slice A n c)
    (hi : (P.info? ty).map (·.size) = some 1) {T : TypeId} {cs : Array Value} (hB : Blk w g T cs) (hoff : off < cs.size) : (execOp ρ o).run P w = .ok .skip (w.setCell ⟨g, off, none⟩ (.slice A n c)) := by
  have hc := hB.cell (Array.getElem?_eq_getElem hoff)
  have hf := hB.frozen off
  obtain ⟨i, hi1, hi2⟩ := Option.map_eq_some_iff.1 hi
  unfold execOp
  simp only [ho]
  simp [hx, hy, hi1, hi2, go_sem, hc, hf, Instr.storeAt, Instr.sureAddr, Value.cells, storeVar, sizeOf, typeInfo, storeCells]
theorem wpList_store_slice {P : Program} (hgd : o.guard = none) (ty : TypeId) (x y : Operand) (ho : o.op = .store ty x y) (g off : Nat) (A : Option Addr) (n c : Nat) (hx : a.eval x = .pointer (some ⟨g, off, none⟩)) (hy : a.eval y = .slice A n c)
    (hi : (P.info? ty).map (·.size) = some 1) {T : TypeId} {cs : Array Value} (hB : Blk w g T cs) (hoff : off < cs.size) (h : wpList P ops Q rest (a.put o.dst undef) (w.setCell ⟨g, off, none⟩ (.slice A n c))) : wpList P ops Q (o :: rest) a w := by
  refine wpList_plain hgd fun K hK => ?_
  unfold Oper.wp
  rw [run_store_slice a.eval ty x y ho g off A n c hx hy hi hB hoff]
  exact hK _ _ h
theorem wp_store_slice0 {P : Program} {K : Act → World → Prop} (ty : TypeId) (x y : Operand) (ho : o.op = .store ty x y) (hd : o.dst = none) (g off : Nat) (A : Option Addr) (n c : Nat) (hx : a.eval x = .pointer (some ⟨g, off, none⟩)) (hy : a.eval y = .slice A n c)
    (hi : (P.info? ty).map (·.size) = some 1) {T : TypeId} {cs : Array Value} (hB : Blk w g T cs) (hoff : off < cs.size) (h : K a (w.setCell ⟨g, off, none⟩ (.slice A n c))) : o.wp P a w K Q := by
  unfold Oper.wp
  rw [run_store_slice a.eval ty x y ho g off A n c hx hy hi hB hoff]
  simp only [Oper.upon_skip]
  rw [hd]; exact h
end
theorem infoSl : (Try.prog.info? 25).map (·.size) = some 1 ∧ (Try.prog.info? 26).map (·.size) = some 1 := ⟨by kernel_rfl, by kernel_rfl⟩
theorem own_form2 {w : World} {base : Nat} {e : TypeId} {k : Nat} {v : Value} {n : Nat} {xs : List Value} (h : w.ownsRow base e k v n xs) : ∃ A c, v = .slice A n c := by
  rcases h.2 with ⟨rfl, rfl⟩ | ⟨g, cap, cur, rfl, _⟩
  · exact ⟨none, 0, rfl⟩
  · exact ⟨_, _, rfl⟩
theorem Blk.grownT {w w' : World} {g : Nat} {T : TypeId} {cs : Array Value} (h : Blk w g T cs) {base : Nat} {e : TypeId} {k : Nat} {v : Value} {n : Nat} {xs : List Value} (ho : w.ownsRow base e k v n xs) (hg : w.grownBy w' v.ownBlock) (hne : T ≠ e) : Blk w' g T cs := by
  unfold Blk at *
  rw [hg.block g (Array.getElem?_eq_some_iff.1 h).1 (fun e1 => by
    rcases ho.2 with ⟨rfl, _⟩ | ⟨g2, cap2, cur2, rfl, _, hh2, _⟩
    · simp [Value.ownBlock] at e1
    · simp [Value.ownBlock] at e1; subst e1; rw [h] at hh2; cases hh2; exact hne rfl)]
  exact h
theorem runS_sl_len (W L : Int) (ps : List (Int × Int)) : (runS W L ps).2.2.length ≤ ps.length := by
  have key : ∀ (ps : List (Int × Int)) (st : StS), (ps.foldl (stepS W L) st).2.2.length ≤ st.2.2.length + ps.length := by
    intro ps
    induction ps with
    | nil => intro st; simp
    | cons m ps ih =>
      intro st
      rw [List.foldl_cons]
      have := ih (stepS W L st m)
      have h2 : (stepS W L st m).2.2.length ≤ st.2.2.length + 1 := by
        unfold stepS; simp only; split <;> simp
      simp only [List.length_cons]; omega
  have := key ps ([], [], [])
  simpa [runS] using this
theorem wp_append_pair {P : Program} {o : Oper} {a : Act} {w : World} {K : Act → World → Prop} {Q : Exit → Act → World → Prop} (s x : Operand) (t : TypeId)
    (ho : o.op = .call { callee := .builtin .append, args := #[s, x], argTypes := #[t, t] }) (dst : Option Tmp) (hd : o.dst = dst)
    (base : Nat) (e : TypeId) (ht : P.underlying t = some (.slice e)) (hi : (P.info? e).map (fun i => (i.zero, i.size, i.bytes)) = some (some (.agg #[.int .i64 0, .int .i64 0]), 2, 16))
    (v : Value) (ps : List (Int × Int)) (p1 p2 : Int) (hs : a.eval s = v) (hown : w.ownsRow base e 2 v ps.length (flat ps))
    (b : Nat) (hx : a.eval x = .slice (some ⟨b, 0, none⟩) 1 1) (hr0 : w.cell? ⟨b, 0, none⟩ = some (.int .i64 p1)) (hr1 : w.cell? ⟨b, 1, none⟩ = some (.int .i64 p2))
    (hn : ps.length + 1 ≤ 1000000000) (hbase : base ≤ w.heap.size)
    (h : ∀ v' w', w'.ownsRow base e 2 v' (ps ++ [(p1, p2)]).length (flat (ps ++ [(p1, p2)])) → w.grownBy w' v.ownBlock → K (a.put dst v') w') : o.wp P a w K Q := by
  subst hd
  obtain ⟨i, hi, hzz⟩ := Option.map_eq_some_iff.1 hi
  simp only [Prod.mk.injEq] at hzz
  obtain ⟨hz0, hz1, hz2⟩ := hzz
  refine wp_append_own w s x t ho base e i _ 2 16 ht hi hz0 hz1 hz2 rfl (by decide) v ps.length (flat ps) hs hown ⟨b, 0, none⟩ 1 1 [.int .i64 p1, .int .i64 p2] hx rfl (fun j u hu => ?_) (fun u hu => ?_) (by unfold maxLen; omega) (by omega) hbase (fun v' w' h2 h3 _ => h v' w' ?_ h3)
  · match j, hu with
    | 0, hu => simp at hu; subst hu; simpa [Addr.add] using hr0
    | 1, hu => simp at hu; subst hu; simpa [Addr.add] using hr1
  · simp at hu; rcases hu with rfl | rfl <;> rfl
  · rw [flat_append, flat_cons, flat_nil, List.length_append]; exact h2
theorem infoRat : (Try.prog.info? 36).map (fun i => (i.zero, i.size, i.bytes)) = some (some (.agg #[.int .i64 0, .int .i64 0]), 2, 16) := by kernel_rfl
theorem RdS.shut {base : Nat} {w w' : World} {v : Value} {ps : List (Int × Int)} (h : RdS w v ps) (hS : Shut base w w') : RdS w' v ps := by
  obtain ⟨h2, a, cap, h3, h4⟩ := h
  refine ⟨h2, a, cap, h3, ?_⟩
  rcases h4 with h4 | ⟨b, off, h5, h6, h7⟩
  · exact .inl h4
  · exact .inr ⟨b, off, h5, by rw [hS.size]; exact h6, fun i hi => ⟨hS.cell _ _ _ (h7 i hi).1, hS.cell _ _ _ (h7 i hi).2⟩⟩
theorem RdI.shut {base : Nat} {w w' : World} {v : Value} {zs : List Int} (h : RdI w v zs) (hS : Shut base w w') : RdI w' v zs := by
  obtain ⟨h2, a, cap, h3, h4⟩ := h
  refine ⟨h2, a, cap, h3, ?_⟩
  rcases h4 with h4 | ⟨b, off, h5, h6, h7⟩
  · exact .inl h4
  · exact .inr ⟨b, off, h5, by rw [hS.size]; exact h6, fun i hi => hS.cell _ _ _ (h7 i hi)⟩
theorem own_rdS2 {w : World} {base : Nat} {e : TypeId} {v : Value} {ps : List (Int × Int)} (h : w.ownsRow base e 2 v ps.length (flat ps)) (hn : ps.length ≤ 9223372036854775807) : RdS w v ps ∧ Fresh base v := by
  have h' := h
  rcases h'.2 with ⟨rfl, h2⟩ | ⟨g, cap, cur, rfl, hg, _⟩
  · obtain rfl : ps = [] := List.length_eq_zero_iff.1 h2
    exact ⟨RdS.nil w, Fresh.nil _ _ _⟩
  · exact ⟨own_rdS h hn, Fresh.at hg⟩
theorem replR_ok {W L : Int} {ps : List (Int × Int)} (h : wl W L) (hl : ps.length ≤ 10000) (ha : ∀ m ∈ ps, okM m = true) : replR W L ps = ((runS W L ps).2.1, (runS W L ps).2.2, 0) := by
  unfold replR
  have ho : okL W L = true := by unfold okL; simpa [wl] using h
  rw [ho, if_neg (by simp), if_neg (by omega), if_pos (List.all_eq_true.2 ha)]
theorem replR_bad {W L : Int} {ps : List (Int × Int)} (h : wl W L) (hl : ps.length ≤ 10000) {m : Int × Int} (hm : m ∈ ps) (hf : okM m = false) : replR W L ps = ([], [], 2) := by
  unfold replR
  have ho : okL W L = true := by unfold okL; simpa [wl] using h
  rw [ho, if_neg (by simp), if_neg (by omega), if_neg (by simp only [List.all_eq_true]; intro h; rw [h m hm] at hf; cases hf)]
end Go.Proofs.Sky
