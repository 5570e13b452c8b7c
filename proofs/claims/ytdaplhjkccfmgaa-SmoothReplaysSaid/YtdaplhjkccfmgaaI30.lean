/-
  lemmas for the theorems of this claim. No conditions beyond those written in the statements.
-/
import Derived.Test.YtdaplhjkccfmgaaH30
set_option linter.unusedVariables false
set_option linter.unusedSimpArgs false
set_option linter.unnecessarySimpa false
namespace Go.Proofs.Sky
open Go Go.RowKit Go.Shelf
set_option maxHeartbeats 1000000
section
variable {P : Program} {ops : Array Oper} {C : World → Prop} {Q : Act → Prop} {a : Act} {o : Oper} {rest : List Oper}
theorem run_load_row {ρ : Operand → Value} (ty : TypeId) (x : Operand) (ho : o.op = .load ty x) (g : Nat) (hx : ρ x = .pointer (some ⟨g, 0, none⟩)) (T : TypeId) (cs : Array Value) (d : TypeDesc) {w : World} (hg : Blk w g T cs)
    (hu : P.underlying ty = some d) (hd : (match d with | .struct _ | .array _ _ => true | _ => false) = true) (hi : (P.info? ty).map (·.size) = some cs.size) : (execOp ρ o).run P w = .ok (.value (.agg cs)) w := by
  unfold execOp
  simp only [ho, hx, Instr.loadAt, Instr.sureAddr, Sem.run_bind, Sem.run_pure, Result.andThen_ok, run_loadVar_row w g T ty cs (0, 0) d hg hu hd hi]
theorem wpQuiet_load_row (hgd : o.guard = none) (ty : TypeId) (x : Operand) (ho : o.op = .load ty x) (g : Nat) (hx : a.eval x = .pointer (some ⟨g, 0, none⟩)) (T : TypeId) (cs : Array Value) (d : TypeDesc) (hg : ∀ w, C w → Blk w g T cs)
    (hu : P.underlying ty = some d) (hd : (match d with | .struct _ | .array _ _ => true | _ => false) = true) (hi : (P.info? ty).map (·.size) = some cs.size)
    (h : wpQuiet P ops C Q rest (a.put o.dst (.agg cs))) : wpQuiet P ops C Q (o :: rest) a := by
  refine wpQuiet_step fun K hK => ?_
  rw [if_pos (by simp [Region.wanted, hgd])]
  refine ⟨.agg cs, fun w hw => ?_, hK _ h⟩
  unfold Oper.quietAt
  rw [run_load_row ty x ho g hx T cs d (hg w hw) hu hd hi]
  exact ⟨rfl, rfl⟩
end
theorem results_cell_tmp {P : Program} {fn : Func} {p t0 : Tmp} {ty : TypeId} (h : fn.results = #[.cell p ty, .tmp t0]) (tmps : Array Value) (w : World) (g : Nat) (T : TypeId) (cs : Array Value) (d : TypeDesc)
    (hp : tmps.getD p undef = .pointer (some ⟨g, 0, none⟩)) (hg : Blk w g T cs)
    (hu : P.underlying ty = some d) (hd : (match d with | .struct _ | .array _ _ => true | _ => false) = true) (hi : (P.info? ty).map (·.size) = some cs.size) :
    (results fn tmps).run P w = .ok (.tuple #[.agg cs, tmps.getD t0 undef]) w := by
  have hp' : tmps[p]?.getD undef = .pointer (some ⟨g, 0, none⟩) := by simpa using hp
  simp [results, h, hp', asAddr, run_loadVar_row w g T ty cs (0, 0) d hg hu hd hi]
theorem RingV.form {v : Value} {r : Rg} (h : RingV v r) : ∃ cs, v = .agg cs ∧ cs.size = 104 ∧ cs.all (·.oneCell') = true := by
  obtain ⟨rfl, _⟩ := h
  exact ⟨_, rfl, r.arr_ok.size, r.arr_ok.ok⟩
theorem pushD_nil (W d : Int) : pushD W [] d = [d] := by unfold pushD; simp
theorem step_slip (cs : Array Value) (r : Rg) (p f L : Int) (w : World) (hr : RingV (.agg cs) r) (hds : OkD r.ds) (hp0 : -10000000000000 ≤ p) (hp1 : p ≤ 10000000000000) (hf0 : -10000000000000 ≤ f) (hf1 : f ≤ 10000000000000) (hl0 : 0 ≤ L) (hl1 : L ≤ 1000000000)
    (hs : slipD L r.ds (p - f) = true) :
    Calls Try.prog 27 #[.agg cs, .int .i64 p, .int .i64 f, .int .i64 L] w fun e w' => (∃ v', e = .returned (.tuple #[v', .bool true]) ∧ RingV v' ((Rg.new r.W).push (p - f))) ∧ Bw w w' := by
  have HR := Lib.hid hr
  have hz := zeroRing
  have hsz : cs.size = 104 := by obtain ⟨_, e, h, _⟩ := hr.form; cases e; exact h
  have HFar := Lib.hid (fun W' => far_ring (.agg cs) r (p - f) L W' hr hds (by omega) (by omega) hl0 hl1)
  rw [hs] at HFar
  have HWo := Lib.hid (fun W' => without_ring (.agg cs) r W' hr)
  have HWi := Lib.hid (fun v W' hv => with_any v (Rg.new r.W) (p - f) W' hv (by intro x hx; cases hx) (by omega) (by omega))
  have HB : Hid (Blk ((w.alloc (.cells cs 53)).alloc (.cells ring0 53)) w.heap.size 53 cs) := Lib.hid ((Blk.new _ _ _).alloc _)
  have HB2 : Hid (Blk ((w.alloc (.cells cs 53)).alloc (.cells ring0 53)) (w.heap.size + 1) 53 ring0) := Lib.hid (by have := Blk.new (w.alloc (.cells cs 53)) 53 ring0; simpa using this)
  have HG : Hid (Bw w ((w.alloc (.cells cs 53)).alloc (.cells ring0 53))) := Lib.hid (by repeat (first | exact Bw.refl _ | assumption | refine Bw.alloc ?_ _ | refine Bw.drew ?_ | refine Bw.trans ?_ (by assumption) | refine Bw.setCell ?_ (by simp; try omega) _))
  go_enter Try.func27, Try.ntmps27
  go_wp2
  generalize (w.alloc (.cells cs 53)).alloc (.cells ring0 53) = W0 at HB HB2 HG ⊢
  refine wp_region_quiet_ext (by kernel_rfl) (by kernel_rfl) ?_
  repeat (first | (refine wpQuiet_load_row rfl 53 _ rfl w.heap.size rfl 53 cs _ (by rintro _ ⟨q, rfl⟩; exact HB.out.bw q.b) Try.underlying53 rfl (by rw [infoRing, hsz]) ?_; go_frame) | (go_big_quiet_step ((go_at_call 37; exact Calls.ext_of (HFar.out _)))))
  refine wpQuiet_nil ?_
  rintro wq ⟨⟨_, hbq⟩, rfl⟩
  go_wp2_with (first | (refine wpList_load_row rfl 53 _ rfl w.heap.size rfl 53 cs (0, 0) _ (HB.out.bw (by repeat (first | exact Bw.refl _ | assumption | refine Bw.alloc ?_ _ | refine Bw.drew ?_ | refine Bw.trans ?_ (by assumption) | refine Bw.setCell ?_ (by simp; try omega) _))) Try.underlying53 rfl (by rw [infoRing, hsz]) ?_) | (go_at_call 38; refine (HWo.out _).mono ?_; rintro e w1 ⟨⟨v1, rfl, hr1⟩, hb1⟩; have HR1 := Lib.hid hr1; obtain ⟨cs1, rfl, hsz1, hok1⟩ := hr1.form; clear hr1) | (go_at_call 35; refine (HWi.out _ _ HR1.out).mono ?_; rintro e w2 ⟨⟨v2, rfl, hr2⟩, hb2⟩; have HR2 := Lib.hid hr2; obtain ⟨cs2, rfl, hsz2, hok2⟩ := hr2.form; clear hr2) | (refine wpList_store_row rfl 53 _ _ rfl (w.heap.size + 1) cs2 rfl rfl 53 ring0 (HB2.out.bw (by repeat (first | exact Bw.refl _ | assumption | refine Bw.alloc ?_ _ | refine Bw.drew ?_ | refine Bw.trans ?_ (by assumption) | refine Bw.setCell ?_ (by simp; try omega) _))) (by rw [infoRing, hsz2]) (by rw [ring0_ok.size, hsz2]) hok2 ?_))
  refine bodyPost_ret (v := .tuple #[.agg cs2, .bool true]) ?_ rfl ⟨⟨_, rfl, HR2.out⟩, Bw.setRow (by repeat (first | exact Bw.refl _ | assumption | refine Bw.alloc ?_ _ | refine Bw.drew ?_ | refine Bw.trans ?_ (by assumption) | refine Bw.setCell ?_ (by simp; try omega) _)) (by omega) _⟩
  exact results_cell_tmp (P := Try.prog) (t0 := 9) Try.results27 _ _ (w.heap.size + 1) 53 cs2 _ rfl (setRow_heap _ _ _ _ _ _ (HB2.out.bw (by repeat (first | exact Bw.refl _ | assumption | refine Bw.alloc ?_ _ | refine Bw.drew ?_ | refine Bw.trans ?_ (by assumption) | refine Bw.setCell ?_ (by simp; try omega) _)))) Try.underlying53 rfl (by rw [infoRing, hsz2])
theorem step_stay (cs : Array Value) (r : Rg) (p f L : Int) (w : World) (hr : RingV (.agg cs) r) (hds : OkD r.ds) (hp0 : -10000000000000 ≤ p) (hp1 : p ≤ 10000000000000) (hf0 : -10000000000000 ≤ f) (hf1 : f ≤ 10000000000000) (hl0 : 0 ≤ L) (hl1 : L ≤ 1000000000)
    (hs : slipD L r.ds (p - f) = false) :
    Calls Try.prog 27 #[.agg cs, .int .i64 p, .int .i64 f, .int .i64 L] w fun e w' => (∃ v', e = .returned (.tuple #[v', .bool false]) ∧ RingV v' (r.push (p - f))) ∧ Bw w w' := by
  have HR := Lib.hid hr
  have hz := zeroRing
  have hsz : cs.size = 104 := by obtain ⟨_, e, h, _⟩ := hr.form; cases e; exact h
  have HFar := Lib.hid (fun W' => far_ring (.agg cs) r (p - f) L W' hr hds (by omega) (by omega) hl0 hl1)
  rw [hs] at HFar
  have HWo := Lib.hid (fun W' => without_ring (.agg cs) r W' hr)
  have HWi := Lib.hid (fun W' => with_any (.agg cs) r (p - f) W' hr hds (by omega) (by omega))
  have HB : Hid (Blk ((w.alloc (.cells cs 53)).alloc (.cells ring0 53)) w.heap.size 53 cs) := Lib.hid ((Blk.new _ _ _).alloc _)
  have HB2 : Hid (Blk ((w.alloc (.cells cs 53)).alloc (.cells ring0 53)) (w.heap.size + 1) 53 ring0) := Lib.hid (by have := Blk.new (w.alloc (.cells cs 53)) 53 ring0; simpa using this)
  have HG : Hid (Bw w ((w.alloc (.cells cs 53)).alloc (.cells ring0 53))) := Lib.hid (by repeat (first | exact Bw.refl _ | assumption | refine Bw.alloc ?_ _ | refine Bw.drew ?_ | refine Bw.trans ?_ (by assumption) | refine Bw.setCell ?_ (by simp; try omega) _))
  go_enter Try.func27, Try.ntmps27
  go_wp2
  generalize (w.alloc (.cells cs 53)).alloc (.cells ring0 53) = W0 at HB HB2 HG ⊢
  refine wp_region_quiet_ext (by kernel_rfl) (by kernel_rfl) ?_
  repeat (first | (refine wpQuiet_load_row rfl 53 _ rfl w.heap.size rfl 53 cs _ (by rintro _ ⟨q, rfl⟩; exact HB.out.bw q.b) Try.underlying53 rfl (by rw [infoRing, hsz]) ?_; go_frame) | (go_big_quiet_step ((go_at_call 37; exact Calls.ext_of (HFar.out _)))))
  refine wpQuiet_nil ?_
  rintro wq ⟨⟨_, hbq⟩, rfl⟩
  go_wp2_with (first | (refine wpList_load_row rfl 53 _ rfl w.heap.size rfl 53 cs (0, 0) _ (HB.out.bw (by repeat (first | exact Bw.refl _ | assumption | refine Bw.alloc ?_ _ | refine Bw.drew ?_ | refine Bw.trans ?_ (by assumption) | refine Bw.setCell ?_ (by simp; try omega) _))) Try.underlying53 rfl (by rw [infoRing, hsz]) ?_) | (go_at_call 38; refine (HWo.out _).mono ?_; rintro e w1 ⟨⟨v1, rfl, hr1⟩, hb1⟩; have HR1 := Lib.hid hr1; obtain ⟨cs1, rfl, hsz1, hok1⟩ := hr1.form; clear hr1) | (go_at_call 35; refine (HWi.out _).mono ?_; rintro e w2 ⟨⟨v2, rfl, hr2⟩, hb2⟩; have HR2 := Lib.hid hr2; obtain ⟨cs2, rfl, hsz2, hok2⟩ := hr2.form; clear hr2) | (refine wpList_store_row rfl 53 _ _ rfl (w.heap.size + 1) cs2 rfl rfl 53 ring0 (HB2.out.bw (by repeat (first | exact Bw.refl _ | assumption | refine Bw.alloc ?_ _ | refine Bw.drew ?_ | refine Bw.trans ?_ (by assumption) | refine Bw.setCell ?_ (by simp; try omega) _))) (by rw [infoRing, hsz2]) (by rw [ring0_ok.size, hsz2]) hok2 ?_))
  refine bodyPost_ret (v := .tuple #[.agg cs2, .bool false]) ?_ rfl ⟨⟨_, rfl, HR2.out⟩, Bw.setRow (by repeat (first | exact Bw.refl _ | assumption | refine Bw.alloc ?_ _ | refine Bw.drew ?_ | refine Bw.trans ?_ (by assumption) | refine Bw.setCell ?_ (by simp; try omega) _)) (by omega) _⟩
  exact results_cell_tmp (P := Try.prog) (t0 := 9) Try.results27 _ _ (w.heap.size + 1) 53 cs2 _ rfl (setRow_heap _ _ _ _ _ _ (HB2.out.bw (by repeat (first | exact Bw.refl _ | assumption | refine Bw.alloc ?_ _ | refine Bw.drew ?_ | refine Bw.trans ?_ (by assumption) | refine Bw.setCell ?_ (by simp; try omega) _)))) Try.underlying53 rfl (by rw [infoRing, hsz2])
def Rg.step (r : Rg) (L d : Int) : Rg := if slipD L r.ds d then (Rg.new r.W).push d else r.push d
theorem Rg.step_W (r : Rg) (L d : Int) : (r.step L d).W = r.W := by
  unfold Rg.step; split
  · rw [Rg.push_W]; rfl
  · rw [Rg.push_W]
theorem Rg.step_ds (r : Rg) (L d : Int) : (r.step L d).ds = nextD r.W L r.ds d := by
  unfold Rg.step nextD; split
  · rw [Rg.push_ds]; exact pushD_nil _ _
  · rw [Rg.push_ds]
theorem step_any (v : Value) (r : Rg) (p f L : Int) (w : World) (hr : RingV v r) (hds : OkD r.ds) (hp0 : -10000000000000 ≤ p) (hp1 : p ≤ 10000000000000) (hf0 : -10000000000000 ≤ f) (hf1 : f ≤ 10000000000000) (hl0 : 0 ≤ L) (hl1 : L ≤ 1000000000) :
    Calls Try.prog 27 #[v, .int .i64 p, .int .i64 f, .int .i64 L] w fun e w' => (∃ v', e = .returned (.tuple #[v', .bool (slipD L r.ds (p - f))]) ∧ RingV v' (r.step L (p - f))) ∧ Bw w w' := by
  obtain ⟨cs, rfl, _⟩ := hr.form
  cases hs : slipD L r.ds (p - f) with
  | true =>
    have e : r.step L (p - f) = (Rg.new r.W).push (p - f) := by unfold Rg.step; rw [if_pos hs]
    rw [e]
    exact step_slip cs r p f L w hr hds hp0 hp1 hf0 hf1 hl0 hl1 hs
  | false =>
    have e : r.step L (p - f) = r.push (p - f) := by unfold Rg.step; rw [hs]; rfl
    rw [e]
    exact step_stay cs r p f L w hr hds hp0 hp1 hf0 hf1 hl0 hl1 hs
end Go.Proofs.Sky
