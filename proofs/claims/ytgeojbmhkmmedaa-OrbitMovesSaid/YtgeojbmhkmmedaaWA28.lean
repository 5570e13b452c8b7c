/-
  lemmas for the theorems of this claim. No conditions beyond those written in the statements.
-/
import Derived.Test.YtgeojbmhkmmedaaVA28
import Derived.Laws.CopyRow
set_option linter.unusedVariables false
set_option linter.unusedSimpArgs false
set_option linter.unnecessarySimpa false
namespace Go.Proofs.Sky
open Go Go.RowKit Go.Shelf
set_option maxHeartbeats 4000000
set_option maxRecDepth 8000
/-! chapter 28: OrbitSigns -/
theorem zeroPO (w : World) : (zeroValue 27).run Try.prog w = .ok (.agg #[.int .i64 0, .int .i64 0, .int .i64 0]) w := by kernel_rfl
section
variable {P : Program} {o : Oper} {a : Act} {w : World} {K : Act → World → Prop} {Q : Exit → Act → World → Prop}
theorem wp_store_at28 (ty : TypeId) (x y : Operand) (ho : o.op = .store ty x y)
    (g off : Nat) (cells : Array Value) (hx : a.eval x = .pointer (some ⟨g, off, none⟩)) (hy : a.eval y = .agg cells)
    (t : TypeId) (old : Array Value) (hg : Blk w g t old) (hi : (P.info? ty).map (·.size) = some cells.size)
    (hsz : off + cells.size ≤ old.size) (h1 : cells.all (·.oneCell') = true)
    (h : K (a.put o.dst undef) (w.setRow g (old.toList.take off ++ cells.toList ++ old.toList.drop (off + cells.size)).toArray)) : o.wp P a w K Q := by
  have h9 := run_storeCells_at (P := P) g off t cells.toList 0 old w hg (by simpa using hsz) (fun v hv => (Array.all_eq_true_iff_forall_mem.1 h1) v (by simpa using hv))
  have hst : (storeVar ty ⟨g, off, none⟩ (.agg cells)).run P w = .ok () (w.setRow g (old.toList.take off ++ cells.toList ++ old.toList.drop (off + cells.size)).toArray) := by
    cases hq : P.info? ty with
    | none => simp [hq] at hi
    | some i =>
      have hs : cells.size = i.size := by simp [hq] at hi; omega
      simp only [Nat.add_zero, Array.length_toList] at h9
      simp [storeVar, sizeOf, typeInfo, hq, Value.cells, hs, h9]
  unfold Oper.wp execOp
  simp only [ho, hx, hy, Instr.storeAt, Instr.sureAddr, Sem.run_bind, Sem.run_pure, Result.andThen_ok, hst]
  exact h
end
def nX (k : Nat) (X : Nat → Int) : Nat → Int := fun i => if 7 ≤ i ∧ i < 7 + 4 * k then -X i else X i
theorem nX_zero (X : Nat → Int) : eV (nX 0 X) = eV X := rfl
theorem nX_0 (X : Nat → Int) : ((eV (nX 0 X)).toList.take 7 ++ (#[.int .i64 (-X 7), .int .i64 (-X 8), .int .i64 (-X 9), .int .i64 (-X 10)] : Array Value).toList ++ (eV (nX 0 X)).toList.drop (7 + (#[.int .i64 (-X 7), .int .i64 (-X 8), .int .i64 (-X 9), .int .i64 (-X 10)] : Array Value).size)).toArray = eV (nX 1 X) := rfl
theorem nX_1 (X : Nat → Int) : ((eV (nX 1 X)).toList.take 11 ++ (#[.int .i64 (-X 11), .int .i64 (-X 12), .int .i64 (-X 13), .int .i64 (-X 14)] : Array Value).toList ++ (eV (nX 1 X)).toList.drop (11 + (#[.int .i64 (-X 11), .int .i64 (-X 12), .int .i64 (-X 13), .int .i64 (-X 14)] : Array Value).size)).toArray = eV (nX 2 X) := rfl
theorem nX_2 (X : Nat → Int) : ((eV (nX 2 X)).toList.take 15 ++ (#[.int .i64 (-X 15), .int .i64 (-X 16), .int .i64 (-X 17), .int .i64 (-X 18)] : Array Value).toList ++ (eV (nX 2 X)).toList.drop (15 + (#[.int .i64 (-X 15), .int .i64 (-X 16), .int .i64 (-X 17), .int .i64 (-X 18)] : Array Value).size)).toArray = eV (nX 3 X) := rfl
theorem nX_ok {zs : List Int} : errE (nX 3 (ofX28 true zs)) = 0 := by
  have h0 := ofX28_ok true zs
  obtain ⟨h1, h2, h3⟩ := errE_parts h0
  have a6 := axT_tame zs 6
  have a10 := axT_tame zs 10
  have a14 := axT_tame zs 14
  refine errE_yes h1 (fun i hi => ?_) (fun i hi => ?_)
  · match i, hi with
    | 0, _ => exact h2 0 (by omega)
    | 1, _ => exact h2 1 (by omega)
    | 2, _ => exact h2 2 (by omega)
  · match i, hi with
    | 0, _ => exact ⟨okZ32 (show -2147483648 ≤ -axT true zs 6 0 ∧ -axT true zs 6 0 ≤ 2147483647 by omega), okZ32 (show -2147483648 ≤ -axT true zs 10 0 ∧ -axT true zs 10 0 ≤ 2147483647 by omega), okZ32 (show -2147483648 ≤ -axT true zs 14 0 ∧ -axT true zs 14 0 ≤ 2147483647 by omega)⟩
    | 1, _ => exact ⟨okZ24 (show -8388608 ≤ -axT true zs 6 1 ∧ -axT true zs 6 1 ≤ 8388607 by omega), okZ24 (show -8388608 ≤ -axT true zs 10 1 ∧ -axT true zs 10 1 ≤ 8388607 by omega), okZ24 (show -8388608 ≤ -axT true zs 14 1 ∧ -axT true zs 14 1 ≤ 8388607 by omega)⟩
    | 2, _ => exact ⟨okZ22 (show -2097152 ≤ -axT true zs 6 2 ∧ -axT true zs 6 2 ≤ 2097151 by omega), okZ22 (show -2097152 ≤ -axT true zs 10 2 ∧ -axT true zs 10 2 ≤ 2097151 by omega), okZ22 (show -2097152 ≤ -axT true zs 14 2 ∧ -axT true zs 14 2 ≤ 2097151 by omega)⟩
    | 3, _ => exact ⟨okZ24 (show -8388608 ≤ -axT true zs 6 3 ∧ -axT true zs 6 3 ≤ 8388607 by omega), okZ24 (show -8388608 ≤ -axT true zs 10 3 ∧ -axT true zs 10 3 ≤ 8388607 by omega), okZ24 (show -8388608 ≤ -axT true zs 14 3 ∧ -axT true zs 14 3 ≤ 8388607 by omega)⟩
theorem pos_at {X : Nat → Int} {a : Int} (h : errE X = 0) (ha : -7200000000000 ≤ a ∧ a ≤ 7200000000000) (W : World) : Calls Try.prog 7 #[.agg (eV X), .int .i64 (lawT X a)] W fun e w' => e = .returned (.tuple #[.agg #[.int .i64 (posQ X a 0), .int .i64 (posQ X a 1), .int .i64 (posQ X a 2)], .int .i64 0]) ∧ Bw W w' := by
  have h9 := Position28_any X (lawT X a) W
  unfold l3V psE at h9
  rw [atE_own h ha] at h9
  exact h9
theorem vel_at {X : Nat → Int} {a : Int} (h : errE X = 0) (ha : -7200000000000 ≤ a ∧ a ≤ 7200000000000) (W : World) : Calls Try.prog 9 #[.agg (eV X), .int .i64 (lawT X a)] W fun e w' => e = .returned (.tuple #[.agg #[.int .i64 (vlQ X a 0), .int .i64 (vlQ X a 1), .int .i64 (vlQ X a 2)], .int .i64 0]) ∧ Bw W w' := by
  have h9 := Velocity28_any X (lawT X a) W
  unfold l3V vsE at h9
  rw [atE_own h ha] at h9
  exact h9
theorem pos_zero (X : Nat → Int) (j : Nat) : posQ X 0 j = 16 * X (7 + 4 * j) := by
  show rndQ (posS _ _ _ _ 0) _ = _
  rw [posS_zero, rndQ_mul _ _ (by decide)]
theorem vel_zero (X : Nat → Int) (j : Nat) : vlQ X 0 j = X (7 + 4 * j + 1) := by
  show rndQ (velS _ _ _ 0) _ = _
  rw [velS_zero, rndQ_mul _ _ (by decide)]
theorem pos_neg (X : Nat → Int) (d : Int) (j : Nat) (hj : j < 3) : posQ (nX 3 X) d j = -posQ X d j := by
  have e : ∀ q, q < 4 → nX 3 X (7 + 4 * j + q) = -X (7 + 4 * j + q) := fun q hq => if_pos (by omega)
  show rndQ (posS (nX 3 X (7 + 4 * j + 0)) (nX 3 X (7 + 4 * j + 1)) (nX 3 X (7 + 4 * j + 2)) (nX 3 X (7 + 4 * j + 3)) d) _ = -rndQ (posS _ _ _ _ d) _
  rw [e 0 (by omega), e 1 (by omega), e 2 (by omega), e 3 (by omega), posS_neg, rndQ_neg _ _ (by decide)]
  rfl
theorem pos_lim {X : Nat → Int} {a : Int} (h : errE X = 0) (ha : -7200000000000 ≤ a ∧ a ≤ 7200000000000) (j : Nat) (hj : j < 3) : -1000000000000 ≤ posQ X a j ∧ posQ X a j ≤ 1000000000000 := by
  obtain ⟨h0, h1, h2, h3⟩ := ax_bd h j hj
  have h4 := (place4 h0 h1 h2 h3 (show a.natAbs ≤ 7200000000000 by omega)).2
  rw [← zW_abs, place4_z] at h4
  have h5 := rndQ_near (X (7 + 4 * j) * 16 * 1000000000 * 1000000000 * 1000000000 * 67108864 + X (7 + 4 * j + 1) * a * 1000000000 * 1000000000 * 67108864 + X (7 + 4 * j + 2) * a * a * 1000000000 * 65536 + X (7 + 4 * j + 3) * a * a * a) 67108864000000000000000000000000000 (by decide)
  show -1000000000000 ≤ rndQ (X (7 + 4 * j) * 16 * 1000000000 * 1000000000 * 1000000000 * 67108864 + X (7 + 4 * j + 1) * a * 1000000000 * 1000000000 * 67108864 + X (7 + 4 * j + 2) * a * a * 1000000000 * 65536 + X (7 + 4 * j + 3) * a * a * a) 67108864000000000000000000000000000 ∧ rndQ (X (7 + 4 * j) * 16 * 1000000000 * 1000000000 * 1000000000 * 67108864 + X (7 + 4 * j + 1) * a * 1000000000 * 1000000000 * 67108864 + X (7 + 4 * j + 2) * a * a * 1000000000 * 65536 + X (7 + 4 * j + 3) * a * a * a) 67108864000000000000000000000000000 ≤ 1000000000000
  generalize X (7 + 4 * j) * 16 * 1000000000 * 1000000000 * 1000000000 * 67108864 + X (7 + 4 * j + 1) * a * 1000000000 * 1000000000 * 67108864 + X (7 + 4 * j + 2) * a * a * 1000000000 * 65536 + X (7 + 4 * j + 3) * a * a * a = S at *
  generalize rndQ S 67108864000000000000000000000000000 = p at *
  omega
end Go.Proofs.Sky
