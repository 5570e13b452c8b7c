/-
  lemmas for the theorems of this claim. No conditions beyond those written in the statements.
-/
import Derived.Test.YtmfiiocadhdhaaaWA26
import Derived.Test.YtmfiiocadhdhaaaSK26
import Derived.Deep.CutRange
import Derived.Deep.MidRow
set_option linter.unusedVariables false
set_option linter.unusedSimpArgs false
set_option linter.unnecessarySimpa false
namespace Go.Proofs.Sky
open Go Go.RowKit Go.Shelf
set_option maxHeartbeats 4000000
set_option maxRecDepth 8000
/-! chapter 26: what the walk of EphemMixes holds in memory -/
theorem rdI_ne2 {W : World} {v : Value} {zs : List Int} {g : Nat} {T : TypeId} {cs : Array Value} (h : RdI W v zs) (hB : Blk W g T cs) (hs : cs.size < zs.length) : ∀ b, v.ownBlock = some b → b ≠ g := by
  obtain ⟨b, o, c, rfl, _, hc⟩ := h.at (by omega)
  intro b' e hg
  simp [Value.ownBlock] at e
  subst e hg
  have h1 := hc cs.size hs
  rw [hB.none (by omega)] at h1
  cases h1
/-- three frames of an ephemeris in a row, behind block lo -/
def MR (W : World) (lo : Nat) (V : Value) (X : Nat → Int) : Prop := errE X = 0 ∧ ∃ gf cap tm D, V = .slice (some ⟨gf, 0, none⟩) 3 cap ∧ (3 ≤ cap ∧ cap ≤ 9223372036854775807) ∧ lo < gf ∧ Row3 W gf X tm D
theorem MR.bw {W W' : World} {lo : Nat} {V : Value} {X : Nat → Int} (h : MR W lo V X) (hb : Bw W W') : MR W' lo V X := by
  obtain ⟨hX, gf, cap, tm, D, e, hc, hl, hr⟩ := h
  exact ⟨hX, gf, cap, tm, D, e, hc, hl, hr.bw hb⟩
theorem MR.kx {W W' : World} {lo : Nat} {V : Value} {X : Nat → Int} (h : MR W lo V X) {g : Nat} {T : TypeId} {cs : Array Value} (hB : Blk W g T cs) (hs : cs.size ≤ 205) (hg : g ≤ lo) (hk : Kx g W W') : MR W' lo V X := by
  obtain ⟨hX, gf, cap, tm, D, e, hc, hl, hr⟩ := h
  refine ⟨hX, gf, cap, tm, D, e, hc, hl, fun k hk3 => ?_, fun k hk3 => ⟨(hr.d k hk3).1.kxn hk (rdI_ne2 (hr.d k hk3).1 hB (by have := (packedE hX k hk3).1; omega)), (hr.d k hk3).2⟩, hr.t⟩
  have hlt := (lt_of_cell (hr.c k hk3).1)
  have hb := hk.oth gf hlt (by omega)
  exact ⟨(World.cell?_of_block hb).trans (hr.c k hk3).1, (World.cell?_of_block hb).trans (hr.c k hk3).2.1, (World.cell?_of_block hb).trans (hr.c k hk3).2.2⟩
theorem MR.form {W : World} {lo : Nat} {V : Value} {X : Nat → Int} (h : MR W lo V X) : ∃ a n c, V = .slice a n c := by
  obtain ⟨_, gf, cap, _, _, e, _⟩ := h
  exact ⟨_, _, _, e⟩
theorem row3_cap {W : World} {base : Nat} {v : Value} {fs : List Fr} {X : Nat → Int} {tow : Int} (h : OwFr W base v fs) (hm : fs.map (fun f => (f.t, f.k, f.l)) = (List.range 3).map (frK X tow)) (hX : errE X = 0) {lo : Nat} (hlo : lo < base) : ∃ gf cap tm D, v = .slice (some ⟨gf, 0, none⟩) 3 cap ∧ (3 ≤ cap ∧ cap ≤ 9223372036854775807) ∧ MR W lo v X ∧ lo < gf ∧ Row3 W gf X tm D := by
  have hcp := own_capd h.own
  obtain ⟨gf, cap, tm, D, hv, hb, hr⟩ := row3_of h hm
  have hc := hcp _ _ _ hv
  exact ⟨gf, cap, tm, D, hv, hc, ⟨hX, gf, cap, tm, D, hv, hc, by omega, hr⟩, by omega, hr⟩
def mV (D : Nat → Value) : Array Value := #[D 0, D 1, D 2]
theorem mV_at (D : Nat → Value) (i : Nat) (hi : i < 3) : (mV D)[i]? = some (D i) := by
  match i, hi with
  | 0, _ => rfl
  | 1, _ => rfl
  | 2, _ => rfl
theorem mV_set (D : Nat → Value) (k : Nat) (hk : k < 3) (v : Value) : (mV D).setIfInBounds k v = mV (fun j => if j = k then v else D j) := by
  match k, hk with
  | 0, _ => rfl
  | 1, _ => rfl
  | 2, _ => rfl
def lsV (L : Nat → Int) : Array Value := #[.int .i64 (L 0), .int .i64 (L 1), .int .i64 (L 2)]
theorem lsV_at (L : Nat → Int) (i : Nat) (hi : i < 3) : (lsV L)[i]? = some (.int .i64 (L i)) := by
  match i, hi with
  | 0, _ => rfl
  | 1, _ => rfl
  | 2, _ => rfl
theorem lsV_set (L : Nat → Int) (k : Nat) (hk : k < 3) (v : Int) : (lsV L).setIfInBounds k (.int .i64 v) = lsV (fun j => if j = k then v else L j) := by
  match k, hk with
  | 0, _ => rfl
  | 1, _ => rfl
  | 2, _ => rfl
theorem lsV_nx (L : Nat → Int) (r : Bool) (c k : Nat) (hk : k < 3) : (lsV (fun j => if r then -1 else L j)).setIfInBounds k (.int .i64 c) = lsV (nxL L r c k) := lsV_set _ k hk _
theorem allV_range {W : World} {b : Nat} {T : TypeId} (Y : Nat → Nat → Int) (hB : Blk W b T (allV Y)) (k : Nat) (hk : k < 3) : W.rangeAt b (k * 19) (eV (Y k)).toList := by
  intro j v h
  have hj : j < 19 := (List.getElem?_eq_some_iff.1 h).1
  have hc : (allV Y)[k * 19 + j]? = some v := by
    rw [allV_at Y k j hk hj, ← h]
    match j, hj with
    | 0, _ => rfl
    | 1, _ => rfl
    | 2, _ => rfl
    | 3, _ => rfl
    | 4, _ => rfl
    | 5, _ => rfl
    | 6, _ => rfl
    | 7, _ => rfl
    | 8, _ => rfl
    | 9, _ => rfl
    | 10, _ => rfl
    | 11, _ => rfl
    | 12, _ => rfl
    | 13, _ => rfl
    | 14, _ => rfl
    | 15, _ => rfl
    | 16, _ => rfl
    | 17, _ => rfl
    | 18, _ => rfl
    | n + 19, h => exact absurd h (by omega)
  exact hB.cell hc
theorem allV_like (Y : Nat → Nat → Int) (k : Nat) (hk : k < 3) : ((allV Y).setIfInBounds (k * 19) (.int .i64 (Y 0 0))).setIfInBounds (k * 19 + 1) (.int .i64 (Y 0 1)) = allV (fun j => if j = k then likeE (Y k) (Y 0) else Y j) := by
  match k, hk with
  | 0, _ => rfl
  | 1, _ => rfl
  | 2, _ => rfl
theorem eV_r4 {W : World} {g : Nat} {T : TypeId} {X : Nat → Int} (hB : Blk W g T (eV X)) : W.rangeAt g 4 [.int .i64 (X 4), .int .i64 (X 5), .int .i64 (X 6)] := by
  intro j v h
  have hj : j < 3 := (List.getElem?_eq_some_iff.1 h).1
  refine hB.cell ?_
  rw [← h]
  match j, hj with
  | 0, _ => rfl
  | 1, _ => rfl
  | 2, _ => rfl
theorem eV_r7 {W : World} {g : Nat} {T : TypeId} {X : Nat → Int} (hB : Blk W g T (eV X)) : W.rangeAt g 7 [.int .i64 (X 7), .int .i64 (X 8), .int .i64 (X 9), .int .i64 (X 10)] := by
  intro j v h
  have hj : j < 4 := (List.getElem?_eq_some_iff.1 h).1
  refine hB.cell ?_
  rw [← h]
  match j, hj with
  | 0, _ => rfl
  | 1, _ => rfl
  | 2, _ => rfl
  | 3, _ => rfl
theorem eV_r15 {W : World} {g : Nat} {T : TypeId} {X : Nat → Int} (hB : Blk W g T (eV X)) : W.rangeAt g 15 [.int .i64 (X 15), .int .i64 (X 16), .int .i64 (X 17), .int .i64 (X 18)] := by
  intro j v h
  have hj : j < 4 := (List.getElem?_eq_some_iff.1 h).1
  refine hB.cell ?_
  rw [← h]
  match j, hj with
  | 0, _ => rfl
  | 1, _ => rfl
  | 2, _ => rfl
  | 3, _ => rfl
theorem wpList_load_all {ops : Array Oper} {rest : List Oper} {op : Oper} {a : Act} {w : World} {Q : Exit → Act → World → Prop} (hgd : op.guard = none) (x : Operand) (ho : op.op = .load 25 x)
    (b k : Nat) (hx : a.eval x = .pointer (some ⟨b, k * 19, none⟩)) (Y : Nat → Nat → Int) {T : TypeId} (hB : Blk w b T (allV Y)) (hk : k < 3)
    (h : wpList Try.prog ops Q rest (a.put op.dst (.agg (eV (Y k)))) w) : wpList Try.prog ops Q (op :: rest) a w :=
  wpList_load_mid hgd 25 x ho b (k * 19) hx (eV (Y k)).toList _ (allV_range Y hB k hk) Try.underlying25 rfl (by kernel_rfl) h
theorem run_load_all {o : Oper} {ρ : Operand → Value} (x : Operand) (ho : o.op = .load 25 x) {w : World} (b k : Nat) (hx : ρ x = .pointer (some ⟨b, k * 19, none⟩)) (Y : Nat → Nat → Int) {T : TypeId} (hB : Blk w b T (allV Y)) (hk : k < 3) : (execOp ρ o).run Try.prog w = .ok (.value (.agg (eV (Y k)))) w := by
  have h9 : (Instr.loadAt 25 (.pointer (some ⟨b, k * 19, none⟩))).run Try.prog w = .ok (.agg (eV (Y k))) w := run_loadAt_mid w b (k * 19) 25 (eV (Y k)).toList _ (allV_range Y hB k hk) Try.underlying25 rfl (by kernel_rfl)
  unfold execOp
  simp only [ho, hx, Sem.run_bind, Sem.run_pure, Result.andThen_ok, h9]
theorem bel3_lt (z : Int) : (bel z 3).toNat < 3 := by have := bel_bd z 3 (by decide); omega
theorem bel3_eq (z : Int) : Value.int .i64 (bel z 3) = .int .i64 (((bel z 3).toNat : Nat) : Int) := by
  have := bel_bd z 3 (by decide)
  rw [Int.toNat_of_nonneg this.1]
theorem mix_big {E : Nat → Nat → Int} {P : Pm} {L : Nat → Int} {now : Int} (M : Mix E P L now) (hE : ∀ c, c < 3 → errE (E c) = 0) (j : Nat) (hj : j < 3) : Big (P.Z j) := by
  rw [M.inv.hz j hj]
  split
  · rename_i h9
    have h0 : 0 ≤ L j := of_decide_eq_true h9
    have h1 := M.lo j hj
    refine .inr ?_
    have h8 := (packedE (hE (L j).toNat (by omega)) j hj).1
    show 19 < (FrE (E (L j).toNat) j).length
    omega
  · exact .inl rfl
/-- whether all three are there, as the law reckons it -/
theorem all_L (L : Nat → Int) : allH (hL L) = (decide (0 ≤ L 0) && (decide (0 ≤ L 1) && decide (0 ≤ L 2))) := rfl
end Go.Proofs.Sky
