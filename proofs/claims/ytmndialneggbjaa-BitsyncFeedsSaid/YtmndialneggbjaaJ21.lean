/-
  lemmas for the theorems of this claim. No conditions beyond those written in the statements.
-/
import Derived.Test.YtmndialneggbjaaI21
import Derived.Sort.CutIn
set_option linter.unusedVariables false
set_option linter.unusedSimpArgs false
set_option linter.unnecessarySimpa false
namespace Go.Proofs.Sky
open Go Go.RowKit Go.Shelf
attribute [local go_sem] Oper.semAt_some
set_option maxHeartbeats 4000000
set_option maxRecDepth 4000
/-- a list of samples, by value, with an error -/
def VaP (base : Nat) (l : List (Int × Int)) (er : Int) (e : Ending) (w' : World) : Prop := ∃ v', e = .returned (.tuple #[v', .int .i64 er]) ∧ RdS w' v' l ∧ Fresh base v'
theorem vaP_nil (base : Nat) (er : Int) (w' : World) : VaP base [] er (.returned (.tuple #[.slice none 0 0, .int .i64 er])) w' := ⟨_, rfl, RdS.nil _, Fresh.nil _ _ _⟩
theorem Blk.K {w w' : World} {row : Option Nat} {B g : Nat} {T : TypeId} {cs : Array Value} (h : Blk w g T cs) (hg : w.grownBy w' row) (hr : ∀ r, row = some r → B ≤ r ∧ ∃ o : Obj, w.heap[r]? = some o ∧ o.isCells = false) : Blk w' g T cs := by
  unfold Blk at *
  rw [hg.block g (Array.getElem?_eq_some_iff.1 h).1 (fun e => by
    obtain ⟨_, o, ho, hc⟩ := hr g e.symm
    rw [h] at ho; cases ho; cases hc)]
  exact h
theorem own_K {w w' : World} {row : Option Nat} {B base : Nat} {e : TypeId} {k : Nat} {v : Value} {n : Nat} {xs : List Value} (h : w.ownsRow base e k v n xs) (hg : w.grownBy w' row) (hr : ∀ r, row = some r → B ≤ r ∧ ∃ o : Obj, w.heap[r]? = some o ∧ o.isCells = false) : w'.ownsRow base e k v n xs := by
  obtain ⟨h1, h2⟩ := h
  refine ⟨h1, ?_⟩
  rcases h2 with h2 | ⟨g, cap, cur, hv, hg0, hh, r⟩
  · exact .inl h2
  · exact .inr ⟨g, cap, cur, hv, hg0, Blk.K (T := e) hh hg hr, r⟩
theorem bwK {w W W' : World} {row : Option Nat} {B : Nat} (h : Bw w W) (hB : w.heap.size ≤ B) (hg : W.grownBy W' row) (hr : ∀ r, row = some r → B ≤ r ∧ ∃ o : Obj, W.heap[r]? = some o ∧ o.isCells = false) : Bw w W' :=
  Below.grown h hg h.size (fun k e => Nat.le_trans hB (hr k e).1)
theorem Blk.grownT {w w' : World} {g : Nat} {T : TypeId} {cs : Array Value} (h : Blk w g T cs) {base : Nat} {e : TypeId} {k : Nat} {v : Value} {n : Nat} {xs : List Value} (ho : w.ownsRow base e k v n xs) (hg : w.grownBy w' v.ownBlock) (hne : T ≠ e) : Blk w' g T cs := by
  unfold Blk at *
  rw [hg.block g (Array.getElem?_eq_some_iff.1 h).1 (fun e1 => by
    rcases ho.2 with ⟨rfl, _⟩ | ⟨g2, cap2, cur2, rfl, _, hh2, _⟩
    · simp [Value.ownBlock] at e1
    · simp [Value.ownBlock] at e1; subst e1; rw [h] at hh2; cases hh2; exact hne rfl)]
  exact h
theorem keeps_grown {N base : Nat} {a b : World} {e : TypeId} {k : Nat} {v : Value} {n : Nat} {xs : List Value} (ho : a.ownsRow base e k v n xs) (hg : a.grownBy b v.ownBlock) : KeepsFrom N a b := by
  have hc : ∀ j, v.ownBlock = some j → ∃ cur, a.heap[j]? = some (.cells cur e (0, 0)) := fun j hj => by
    rcases ho.2 with ⟨rfl, _⟩ | ⟨g, cap, cur, rfl, _, hh, _⟩
    · simp [Value.ownBlock] at hj
    · simp [Value.ownBlock] at hj; subst hj; exact ⟨cur, hh⟩
  refine ⟨hg.size, fun k o _ hk hko => ?_⟩
  refine (hg.block k (Array.getElem?_eq_some_iff.1 hk).1 (fun e1 => ?_)).trans hk
  obtain ⟨cur, hcur⟩ := hc k e1.symm
  rw [hcur] at hk; cases hk; cases hko
theorem kpT_grown {B base : Nat} {a b : World} {e : TypeId} {k : Nat} {v : Value} {n : Nat} {xs : List Value} (ho : a.ownsRow base e k v n xs) (hg : a.grownBy b v.ownBlock) (hB : B + 2 < base) (hs : base ≤ a.heap.size) : KpT B a b := by
  have hlt : ∀ j, v.ownBlock = some j → base ≤ j := fun j hj => (ho.lt j hj).1
  have hk : ∀ j, j < base → ∀ o, b.cell? ⟨j, o, none⟩ = a.cell? ⟨j, o, none⟩ := fun j hj o => World.cell?_of_block (hg.block j (by omega) (fun e1 => by have := hlt j e1.symm; omega))
  exact ⟨hk B (by omega) 0, hk (B + 1) (by omega) 0, hk (B + 2) (by omega) 0⟩
theorem kpT_bw {B : Nat} {a b : World} (h : Bw a b) (hB : B + 2 < a.heap.size) : KpT B a b := ⟨h.cells.1 B 0 (by omega), h.cells.1 (B + 1) 0 (by omega), h.cells.1 (B + 2) 0 (by omega)⟩
theorem kpT_set {B : Nat} (a : World) {b o : Nat} (u : Value) (hb : b < B) : KpT B a (a.setCell ⟨b, o, none⟩ u) := ⟨cell_set_ne _ _ _ _ _ _ (by omega), cell_set_ne _ _ _ _ _ _ (by omega), cell_set_ne _ _ _ _ _ _ (by omega)⟩
theorem rdS_shut {w w' : World} {v : Value} {ps : List (Int × Int)} {base : Nat} (h : RdS w v ps) (hS : Shut base w w') : RdS w' v ps := by
  obtain ⟨h2, a, cap, rfl, h4⟩ := h
  refine ⟨h2, a, cap, rfl, ?_⟩
  rcases h4 with h4 | ⟨b, off, rfl, h6, h7⟩
  · exact .inl h4
  · exact .inr ⟨b, off, rfl, by rw [hS.size]; exact h6, fun i hi => ⟨hS.cell _ _ _ (h7 i hi).1, hS.cell _ _ _ (h7 i hi).2⟩⟩
/-- what stands behind some bits -/
def ValI (w : World) (w0n X8 : Nat) (l : List (Int × Int)) (p st : Nat) (pre : List Nat) (W : World) : Prop := Bw w W ∧ (∃ v8, Blk W X8 22 #[v8] ∧ W.ownsRow w0n 34 2 v8 (pre.map (bitV l p st)).length (flat (pre.map (bitV l p st)))) ∧ w0n ≤ W.heap.size
theorem ValI.K {w W W' : World} {w0n X8 : Nat} {l : List (Int × Int)} {p st : Nat} {pre : List Nat} {row : Option Nat} (h : ValI w w0n X8 l p st pre W) (hw : w.heap.size ≤ w0n) (hg : W.grownBy W' row) (hr : ∀ r, row = some r → w0n ≤ r ∧ ∃ o : Obj, W.heap[r]? = some o ∧ o.isCells = false) : ValI w w0n X8 l p st pre W' := by
  obtain ⟨h1, ⟨v8, h2, h3⟩, h4⟩ := h
  exact ⟨bwK h1 hw hg hr, ⟨v8, h2.K hg hr, own_K h3 hg hr⟩, Nat.le_trans h4 hg.size⟩
theorem Values_range (l : List (Int × Int)) (a : Option Addr) (n c : Nat) (p at_ : Int) (w : World) (h : p < 1 ∨ 20 < p ∨ at_ < 0 ∨ p ≤ at_) :
    Calls Try.prog 10 #[.slice a n c, .int .i64 p, .int .i64 at_] w fun e w' => VaP w.heap.size [] 2 e w' ∧ Bw w w' := by
  by_cases h1 : p < 1
  · clear h
    (refine calls_of_marks (w.heap.size) Try.func10 rfl ?_; simp only [Try.ntmps10, List.size_toArray, List.length_cons, List.length_nil, Nat.reduceAdd, Nat.reduceSub, Array.replicate_succ, Array.replicate_zero, List.push_toArray, List.append_toArray, List.nil_append, List.cons_append])
    go_wp2
    refine ⟨Marks.nil _ _, fun W' hS => ⟨.tuple #[.slice none 0 0, .int .i64 2], ?_, vaP_nil _ _ _, Bw.shut (Bw.refl w) hS⟩⟩
    simp [results, Try.results10, go_sem]
  by_cases h2 : 20 < p
  · clear h
    (refine calls_of_marks (w.heap.size) Try.func10 rfl ?_; simp only [Try.ntmps10, List.size_toArray, List.length_cons, List.length_nil, Nat.reduceAdd, Nat.reduceSub, Array.replicate_succ, Array.replicate_zero, List.push_toArray, List.append_toArray, List.nil_append, List.cons_append])
    go_wp2
    refine ⟨Marks.nil _ _, fun W' hS => ⟨.tuple #[.slice none 0 0, .int .i64 2], ?_, vaP_nil _ _ _, Bw.shut (Bw.refl w) hS⟩⟩
    simp [results, Try.results10, go_sem]
  by_cases h3 : at_ < 0
  · clear h
    (refine calls_of_marks (w.heap.size) Try.func10 rfl ?_; simp only [Try.ntmps10, List.size_toArray, List.length_cons, List.length_nil, Nat.reduceAdd, Nat.reduceSub, Array.replicate_succ, Array.replicate_zero, List.push_toArray, List.append_toArray, List.nil_append, List.cons_append])
    go_wp2
    refine ⟨Marks.nil _ _, fun W' hS => ⟨.tuple #[.slice none 0 0, .int .i64 2], ?_, vaP_nil _ _ _, Bw.shut (Bw.refl w) hS⟩⟩
    simp [results, Try.results10, go_sem]
  · have h4 : p ≤ at_ := by omega
    clear h
    (refine calls_of_marks (w.heap.size) Try.func10 rfl ?_; simp only [Try.ntmps10, List.size_toArray, List.length_cons, List.length_nil, Nat.reduceAdd, Nat.reduceSub, Array.replicate_succ, Array.replicate_zero, List.push_toArray, List.append_toArray, List.nil_append, List.cons_append])
    go_wp2
    refine ⟨Marks.nil _ _, fun W' hS => ⟨.tuple #[.slice none 0 0, .int .i64 2], ?_, vaP_nil _ _ _, Bw.shut (Bw.refl w) hS⟩⟩
    simp [results, Try.results10, go_sem]
theorem Values_long (l : List (Int × Int)) (a : Option Addr) (n c : Nat) (p at_ : Int) (w : World) (h1 : 1 ≤ p) (h2 : p ≤ 20) (h3 : 0 ≤ at_) (h4 : at_ < p) (hl : 10000 < n) :
    Calls Try.prog 10 #[.slice a n c, .int .i64 p, .int .i64 at_] w fun e w' => VaP w.heap.size [] 4 e w' ∧ Bw w w' := by
  have q1 : ¬ p < 1 := by omega
  have q2 : ¬ 20 < p := by omega
  have q3 : ¬ at_ < 0 := by omega
  have q4 : ¬ p ≤ at_ := by omega
  have q5 : (10000 : Int) < n := by omega
  (refine calls_of_marks (w.heap.size) Try.func10 rfl ?_; simp only [Try.ntmps10, List.size_toArray, List.length_cons, List.length_nil, Nat.reduceAdd, Nat.reduceSub, Array.replicate_succ, Array.replicate_zero, List.push_toArray, List.append_toArray, List.nil_append, List.cons_append])
  go_wp2
  refine ⟨Marks.nil _ _, fun W' hS => ⟨.tuple #[.slice none 0 0, .int .i64 4], ?_, vaP_nil _ _ _, Bw.shut (Bw.refl w) hS⟩⟩
  simp [results, Try.results10, go_sem]
theorem Values_out (l : List (Int × Int)) (v : Value) (p at_ : Int) (w : World) (hv : RdS w v l) (h1 : 1 ≤ p) (h2 : p ≤ 20) (h3 : 0 ≤ at_) (h4 : at_ < p) (hl : l.length ≤ 10000) (ho : l.all insP = false) :
    Calls Try.prog 10 #[v, .int .i64 p, .int .i64 at_] w fun e w' => VaP w.heap.size [] 2 e w' ∧ Bw w w' := by
  have HV := Lib.hid hv
  obtain ⟨a, c, rfl⟩ := hv.form
  clear hv
  have HS := Lib.hid (fun W hW => someOut_any l (.slice a l.length c) W hW)
  rw [all_of_any, ho] at HS
  clear ho
  have q1 : ¬ p < 1 := by omega
  have q2 : ¬ 20 < p := by omega
  have q3 : ¬ at_ < 0 := by omega
  have q4 : ¬ p ≤ at_ := by omega
  have q5 : ¬ (10000 : Int) < l.length := by omega
  (refine calls_of_marks (w.heap.size) Try.func10 rfl ?_; simp only [Try.ntmps10, List.size_toArray, List.length_cons, List.length_nil, Nat.reduceAdd, Nat.reduceSub, Array.replicate_succ, Array.replicate_zero, List.push_toArray, List.append_toArray, List.nil_append, List.cons_append])
  go_wp2_with (go_at_call 30; (with_reducible refine Calls.mono (HS.out _ HV.out) ?_); rintro e1 w1 ⟨rfl, hb1⟩)
  refine ⟨Marks.nil _ _, fun W' hS => ⟨.tuple #[.slice none 0 0, .int .i64 2], ?_, vaP_nil _ _ _, Bw.shut hb1 hS⟩⟩
  simp [results, Try.results10, go_sem]
theorem Values_main (l : List (Int × Int)) (bb off cap : Nat) (p at_ : Nat) (w : World) (hv : RdS w (.slice (some ⟨bb, off, none⟩) l.length cap) l) (h1 : 1 ≤ p) (h2 : p ≤ 20) (h4 : at_ < p) (hl : l.length ≤ 10000) (hcap : l.length ≤ cap) (hc9 : cap ≤ 9223372036854775807) (ho : l.all insP = true) :
    Calls Try.prog 10 #[.slice (some ⟨bb, off, none⟩) l.length cap, .int .i64 p, .int .i64 at_] w fun e w' => VaP w.heap.size (valsL l p at_) (if valsL l p at_ = [] then 16 else 0) e w' ∧ Bw w w' := by
  have HV := Lib.hid hv
  clear hv
  have HS := Lib.hid (fun W hW => someOut_any l (.slice (some ⟨bb, off, none⟩) l.length cap) W hW)
  rw [all_of_any, ho] at HS
  have HI := Lib.hid ho
  clear ho
  obtain ⟨m, hm⟩ : ∃ m, m = l.length := ⟨_, rfl⟩
  rw [← hm] at HV HS hl hcap ⊢
  have HM := Lib.hid hm
  clear hm
  obtain ⟨VV, hVV⟩ : ∃ VV, VV = valsL l p at_ := ⟨_, rfl⟩
  rw [← hVV]
  have HVV := Lib.hid hVV
  clear hVV
  have q1 : ¬ (p : Int) < 1 := by omega
  have q2 : ¬ (20 : Int) < p := by omega
  have q3 : ¬ (at_ : Int) < 0 := by omega
  have q4 : ¬ (p : Int) ≤ at_ := by omega
  have q5 : ¬ (10000 : Int) < m := by omega
  have HP := Lib.hid (fun W => bits_any (some ⟨bb, off, none⟩) m cap p at_ W)
  (refine calls_of_marks (w.heap.size) Try.func10 rfl ?_; simp only [Try.ntmps10, List.size_toArray, List.length_cons, List.length_nil, Nat.reduceAdd, Nat.reduceSub, Array.replicate_succ, Array.replicate_zero, List.push_toArray, List.append_toArray, List.nil_append, List.cons_append])
  go_wp2_with (first | (go_at_call 30; (with_reducible refine Calls.mono (HS.out _ HV.out) ?_); rintro e1 w1 ⟨rfl, hb1⟩) | (go_at_call 33; (with_reducible refine Calls.mono (HP.out _) ?_); rintro e1 w9 ⟨rfl, rfl⟩))
  obtain ⟨W0, hW0⟩ : ∃ W0, ((((w1.alloc (.cells #[.slice none 0 0] 22)).alloc (.cells #[.slice (some ⟨bb, off, none⟩) m cap] 22)).alloc (.cells #[.int .i64 p] 3)).alloc (.cells #[.int .i64 at_] 3)) = W0 := ⟨_, rfl⟩
  have hbw : Bw w W0 := by rw [← hW0]; exact Bw.alloc (Bw.alloc (Bw.alloc (Bw.alloc hb1 _) _) _) _
  have B8 : Blk W0 w1.heap.size 22 #[.slice none 0 0] := by rw [← hW0]; exact (((Blk.new w1 _ _).alloc _).alloc _).alloc _
  have c0 : W0.cell? ⟨w1.heap.size + 1, 0, none⟩ = some (.slice (some ⟨bb, off, none⟩) m cap) := by rw [← hW0]; simp [go_sem]
  have c1 : W0.cell? ⟨w1.heap.size + 1 + 1, 0, none⟩ = some (.int .i64 p) := by rw [← hW0]; simp [go_sem]
  have c2 : W0.cell? ⟨w1.heap.size + 1 + 2, 0, none⟩ = some (.int .i64 at_) := by rw [← hW0]; simp [go_sem]
  have hsB : W0.heap.size = w1.heap.size + 4 := by rw [← hW0]; simp
  rw [hW0] at ⊢
  have HS0 := Lib.hid hsB
  have HB1 := Lib.hid hb1.size
  clear hW0 hsB hb1
  obtain ⟨st, hst⟩ : ∃ st, st = min at_ m := ⟨_, rfl⟩
  obtain ⟨N, hN⟩ : ∃ N, N = (m - st) / p := ⟨_, rfl⟩
  have HVL := Lib.hid (show VV = (List.range N).map (bitV l p st) by
    rw [HVV.out, hN, hst]; unfold valsL
    rw [← HM.out]
    by_cases hx : at_ ≤ m
    · rw [Nat.min_eq_left hx]
    · rw [Nat.min_eq_right (by omega), show m - at_ = 0 by omega, Nat.sub_self]; simp)
  have HST := Lib.hid hst; have HNN := Lib.hid hN
  clear hst hN
  refine range_bits bb off cap m st p at_ HST.out h1 h2 hl hcap h4 hc9 (w1.heap.size + 1) (by have := HS0.out; omega) c0 c1 c2 N HNN.out rfl rfl
    (fun pre W => ValI w W0.heap.size w1.heap.size l p st pre W)
    (fun c _ W => False)
    (fun s X Y row hs hg hr => hs.K hbw.size hg hr)
    (fun c s X Y row hs hg hr => hs)
    ⟨hbw, ⟨_, B8, World.ownsRow_nil _ _ _ _⟩, Nat.le_refl _⟩
    (fun y => [(37, .slice (some ⟨bb, off + (st + y * p) * 2, none⟩) p (cap - (st + y * p))), (9, .slice (some ⟨bb, off + (st + y * p) * 2, none⟩) p (cap - (st + y * p)))]) ?assign ?body ?done ?stop
  case assign =>
    intro l y W K hK
    gi_wp2
    exact hK
  case body =>
    rintro l9 pre y W hy hlen ⟨hBW, ⟨v8, hB8, hO⟩, hsz⟩
    simp only [List.foldl, List.setIfInBounds_toArray, List.set_cons_succ, List.set_cons_zero]
    have HBW := Lib.hid hBW; have HB8 := Lib.hid hB8; have HO := Lib.hid hO
    clear hBW hB8 hO c0 c1 c2 B8
    have hroom : (st + y * p) + p ≤ m := by
      have h9 := (Nat.le_div_iff_mul_le (show 0 < p by omega) (x := y + 1) (y := m - st)).1 (by rw [← HNN.out]; exact hy)
      rw [Nat.succ_mul] at h9
      have := HST.out
      have h10 : st ≤ m := by omega
      omega
    have HBV := Lib.hid (show bitV l p st y = sumP ((l.drop (st + y * p)).take p) from rfl)
    generalize st + y * p = q at hroom HBV ⊢
    obtain ⟨X, hX⟩ : ∃ X, W.heap.size = X := ⟨_, rfl⟩
    have HX := Lib.hid hX
    have BX := Lib.hid (Blk.new W 34 #[.int .i64 0, .int .i64 0])
    rw [hX] at BX
    clear hX
    gi_wp2
    rw [HX.out]
    gi_loopw [40] (fun i wr => ∃ k : Nat, k ≤ p ∧ i = .int .i64 k ∧ Hid (Bw W wr) ∧ ∃ sx sy : Int, Hid (Blk wr X 34 #[.int .i64 sx, .int .i64 sy]) ∧ Hid ((sx, sy) = sumP ((l.drop q).take k)) ∧ (-(1048576 * (k : Int)) ≤ sx ∧ sx ≤ 1048576 * (k : Int)) ∧ (-(1048576 * (k : Int)) ≤ sy ∧ sy ≤ 1048576 * (k : Int))) (fun i _ => p - (intOf i).toNat)
    case atStart => exact ⟨0, Nat.zero_le _, rfl, Lib.hid (Bw.alloc (Bw.refl W) _), 0, 0, BX, Lib.hid (by simp [sumP]), by omega, by omega⟩
    case round =>
      obtain ⟨k, hk, rfl, HW, sx, sy, BX, HSM, hsx, hsy⟩ := hrel
      by_cases hlt : k < p
      · have hkz : (k : Int) < p := by omega
        obtain ⟨b9, o9, c9, hv9, hb9, hd9⟩ := HV.out.at (by have := HM.out; omega)
        injection hv9 with i1 i2 i3; injection i1 with i1; injection i1 with i1 i4; subst i1 i4; clear i2 i3
        have hd9 := hd9 (q + k) (by have := HM.out; omega)
        rw [show off + (q + k) * 2 = off + q * 2 + k * 2 by omega] at hd9
        have d1 := HW.out.cell' (HBW.out.cell' hd9.1)
        have d2 := HW.out.cell' (HBW.out.cell' hd9.2)
        have hin := List.all_eq_true.1 HI.out (l.getD (q + k) (0, 0)) (getD_mem l (q + k) (0, 0) (by have := HM.out; omega))
        have HTK := Lib.hid (show (l.drop q).take (k + 1) = (l.drop q).take k ++ [l.getD (q + k) (0, 0)] by
          have hlk : q + k < l.length := by have := HM.out; omega
          rw [List.take_add_one, List.getElem?_drop, List.getD_eq_getElem?_getD, List.getElem?_eq_getElem hlk]; rfl)
        clear hd9 hb9
        generalize l.getD (q + k) (0, 0) = a at d1 d2 hin HTK
        obtain ⟨a1, a2⟩ := a
        obtain ⟨n1, n2, n3, n4⟩ := (insP_iff _).1 hin
        simp only at d1 d2 n1 n2 n3 n4
        clear hin
        have j0 : wr.cell? ⟨X, 0, none⟩ = some (.int .i64 sx) := BX.out.cell rfl
        have j1 : wr.cell? ⟨X, 1, none⟩ = some (.int .i64 sy) := BX.out.cell rfl
        have z0 := BX.out.frozen 0
        have z1 := BX.out.frozen 1
        have hz := BX.out.lt
        gi_wp2
        go_roundw
        case rel => exact ⟨k + 1, by omega, by go_num, Lib.hid (Bw.alloc (Bw.setCell (Bw.setCell HW.out (p := ⟨X, 0, none⟩) (by have := HX.out; simp; omega) _) (p := ⟨X, 1, none⟩) (by have := HX.out; simp; omega) _) _), sx + a1, sy + a2, Lib.hid (by have h9 := ((BX.out.set 0 (.int .i64 (sx + a1))).set 1 (.int .i64 (sy + a2))).alloc (.cells #[.int .i64 a1, .int .i64 a2] 34); simpa using h9), Lib.hid (by rw [HTK.out, sumP_snoc, ← HSM.out]), by omega, by omega⟩
        case measure => simp [intOf]; omega
      · obtain rfl : p = k := by omega
        have hkz : ¬ (p : Int) < p := by omega
        have HSM2 := Lib.hid (show bitV l p st y = (sx, sy) by rw [HBV.out, HSM.out])
        gi_upto_region 17 with fail
        refine wpIn_region_round (by kernel_rfl) (fun ⟨_, _, h⟩ => h) ?_
        obtain ⟨A8, c8, rfl⟩ := own_form2 HO.out
        have HB9 := Lib.hid (HB8.out.bw HW.out)
        have HO9 := Lib.hid (own_bw HO.out HW.out)
        have HW9 := Lib.hid (HBW.out.trans HW.out)
        have j0 : wr.cell? ⟨X, 0, none⟩ = some (.int .i64 sx) := BX.out.cell rfl
        have j1 : wr.cell? ⟨X, 1, none⟩ = some (.int .i64 sy) := BX.out.cell rfl
        have j8 : wr.cell? ⟨w1.heap.size, 0, none⟩ = some (.slice A8 (pre.map (bitV l p st)).length c8) := HB9.out.cell rfl
        have hz := BX.out.lt
        have hln : (pre.map (bitV l p st)).length ≤ 100000 := by
          rw [List.length_map]
          have h9 : N ≤ m - st := by rw [HNN.out]; exact Nat.div_le_self _ _
          omega
        have HLN := Lib.hid hln
        have HMP := Lib.hid (show (pre ++ [y]).map (bitV l p st) = pre.map (bitV l p st) ++ [(sx, sy)] by rw [List.map_append, List.map_cons, HSM2.out]; rfl)
        have HSZ := Lib.hid hsz
        clear hln hsz
        generalize pre.map (bitV l p st) = l8 at *
        go_wp2_with (at_builtin; have hba := Bw.alloc (Bw.refl wr) (.cells #[.int .i64 sx, .int .i64 sy] 34); have NB := Lib.hid (Blk.new wr 34 #[.int .i64 sx, .int .i64 sy]); replace HO9 := Lib.hid (own_bw HO9.out hba); replace HB9 := Lib.hid (HB9.out.bw hba); have HW8 := Lib.hid (HW.out.trans hba); replace HW9 := Lib.hid (HW9.out.trans hba); clear hba j0 j1 j8; refine wpList_append_pair_beside rfl (.tmp 57) (.tmp 59) _ rfl W0.heap.size 34 Try.underlying22 infoSam _ l8 sx sy rfl HO9.out _ rfl (NB.out.cell rfl) (NB.out.cell rfl) (by have := HLN.out; omega) (by have := HW.out.size; have := HSZ.out; simp; omega) (World.ownsRow_nil _ W0.heap.size 3 1) (fun g h1 h2 => by cases h2) ?_; intro v7 w8 hown hgr _ _; obtain ⟨A7, c7, rfl⟩ := own_form2 hown; have HKG := Lib.hid (keeps_grown (N := W0.heap.size) HO9.out hgr); have HKT := Lib.hid (kpT_grown (B := w1.heap.size + 1) HO9.out hgr (by have := HS0.out; omega) (by have := HW.out.size; have := HSZ.out; simp; omega)); have HBG := Lib.hid (Below.grown HW9.out hgr HW9.out.size (fun j hj => Nat.le_trans hbw.size (HO9.out.lt j hj).1)); replace HB9 := Lib.hid (HB9.out.grownT HO9.out hgr (by decide)); have HO7 := Lib.hid hown; have HGS := Lib.hid hgr.size; clear hown hgr NB; have j8 : w8.cell? ⟨w1.heap.size, 0, none⟩ = some (.slice A8 l8.length c8) := HB9.out.cell rfl; have z8 := HB9.out.frozen 0)
        have hs9 := HS0.out
        have hs8 := HGS.out
        have hs7 := HSZ.out
        have hs6 := HW8.out.size
        have hs5 := HB1.out
        refine ⟨((KeepsFrom.of_bw HW8.out).trans HKG.out).trans ((KeepsOthers.setCell _ _ _).from _), kpT_t (kpT_bw HW8.out (by omega)) (kpT_t HKT.out (kpT_set _ _ (by omega))), Bw.setCell HBG.out (p := ⟨w1.heap.size, 0, none⟩) (by simp; omega) _, ⟨.slice A7 (l8.length + 1) c7, ?_, ?_⟩, by simp; omega⟩
        · have h9 := HB9.out.set 0 (.slice A7 (l8.length + 1) c7)
          simpa using h9
        · rw [HMP.out]
          have h9 := ownsRow_setCell_below HO7.out (a := ⟨w1.heap.size, 0, none⟩) (by simp; omega) (.slice A7 (l8.length + 1) c7)
          simpa only [List.length_append, List.length_cons, List.length_nil, Nat.zero_add] using h9
  case done =>
    rintro D W hD ⟨hBW, ⟨v8, hB8, hO⟩, hsz⟩ hK
    rw [← HVL.out] at hO
    have ⟨r1, r2⟩ := own_rdS2 hO (by
      have h9 := HVL.out
      rw [h9, List.length_map, List.length_range]
      have h8 : N ≤ m - st := by rw [HNN.out]; exact Nat.div_le_self _ _
      omega)
    obtain ⟨A8, c8, rfl⟩ := own_form2 hO
    have j8 : W.cell? ⟨w1.heap.size, 0, none⟩ = some (.slice A8 VV.length c8) := hB8.cell rfl
    have hd9 : w.heap.size ≤ D := Nat.le_trans hbw.size hD
    have R1 := Lib.hid r1; have R2 := Lib.hid r2; have HK := Lib.hid hK; have HBW := Lib.hid hBW
    clear r1 r2 hO hB8 hK hBW c0 c1 c2 B8 hsz
    by_cases hV : VV = []
    · have HV0 := Lib.hid hV
      have hvl : VV.length = 0 := by rw [hV]; rfl
      clear hV
      go_wp2
      refine ⟨Marks.one hd9 HK.out, fun W' hS => ⟨.tuple #[.slice none 0 0, .int .i64 16], ?_, ?_, Bw.shut HBW.out hS⟩⟩
      · simp [results, Try.results10, go_sem]
      · exact vaP_nil _ _ _
    · have HV0 := Lib.hid hV
      have hvl : ¬ VV.length = 0 := by intro e; exact hV (List.length_eq_zero_iff.1 e)
      have hvz : ¬ (VV.length : Int) = 0 := by omega
      clear hV
      go_wp2
      refine ⟨Marks.one hd9 HK.out, fun W' hS => ⟨.tuple #[.slice A8 VV.length c8, .int .i64 0], ?_, ?_, Bw.shut HBW.out hS⟩⟩
      · simp [results, Try.results10, go_sem]
      · exact ⟨_, rfl, rdS_shut R1.out hS, R2.out.mono hbw.size⟩
  case stop =>
    rintro D c k W _ _ h _
    exact h.elim
end Go.Proofs.Sky
