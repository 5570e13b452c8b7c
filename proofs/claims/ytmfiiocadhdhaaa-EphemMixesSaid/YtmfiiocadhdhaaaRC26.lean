/-
  lemmas for the theorems of this claim. No conditions beyond those written in the statements.
-/
import Derived.Test.YtmfiiocadhdhaaaM26
import Derived.Test.YtmfiiocadhdhaaaRdAt
import Derived.Deep.Cut
set_option linter.unusedVariables false
set_option linter.unusedSimpArgs false
set_option linter.unnecessarySimpa false
namespace Go.Proofs.Sky
open Go Go.RowKit Go.Shelf
set_option maxHeartbeats 4000000
set_option maxRecDepth 8000
theorem RdI.litN (w : World) (cs : Array Value) (t : TypeId) (zs : List Int) (n : Nat) (hn : w.heap.size = n) (h : cs.toList = zs.map (Value.int .i64)) (hl : zs.length ≤ 9223372036854775807) : RdI (w.alloc (.cells cs t)) (.slice (some ⟨n, 0, none⟩) zs.length zs.length) zs := by
  subst hn; exact RdI.lit w cs t zs h hl
/-- which numbers a kind has -/
def kdN (kind : Int) : Nat := if kind = 1 then 0 else if kind = 2 then 1 else 2
def nmV (x : Nat → Int) (k : Nat) : List Int := (LS k).map fun t => x t.2.2
def nmB (k : Nat) : List Int := (LS k).map fun t => t.1
def nmU (k : Nat) : Int := if k = 0 then 4 else 2
def NumP (x : Nat → Int) (k : Nat) (e : Ending) (w' : World) : Prop := ∃ v1 v2, e = .returned (.tuple #[v1, v2, .int .i64 (nmU k)]) ∧ RdI w' v1 (nmV x k) ∧ RdI w' v2 (nmB k) ∧ Capd v1 ∧ Capd v2
theorem rnum_any (x : Nat → Int) (kind : Int) (w : World) : Calls Try.prog 32 #[.agg (eV x), .int .i64 kind] w fun e w' => NumP x (kdN kind) e w' ∧ Bw w w' := by
  have HBW := Lib.hid (Bw.alloc (Bw.refl w) (.cells (eV x) 25))
  have KX := Lib.hid (Blk.new w 25 (eV x))
  obtain ⟨kn, hkn⟩ : ∃ kn, kn = kdN kind := ⟨_, rfl⟩
  rw [← hkn]
  have HK := Lib.hid hkn
  clear hkn
  go_enter Try.func32, Try.ntmps32
  go_upto_region 1 with fail
  obtain ⟨W0, hW0⟩ : ∃ W0, w.alloc (.cells (eV x) 25) = W0 := ⟨_, rfl⟩
  rw [hW0] at HBW KX ⊢
  clear hW0
  have c0 : W0.cell? ⟨w.heap.size, 0, none⟩ = some (.int .i64 (x 0)) := KX.out.cell (eV_at x 0 (by omega))
  have c1 : W0.cell? ⟨w.heap.size, 1, none⟩ = some (.int .i64 (x 1)) := KX.out.cell (eV_at x 1 (by omega))
  have c2 : W0.cell? ⟨w.heap.size, 2, none⟩ = some (.int .i64 (x 2)) := KX.out.cell (eV_at x 2 (by omega))
  have c3 : W0.cell? ⟨w.heap.size, 3, none⟩ = some (.int .i64 (x 3)) := KX.out.cell (eV_at x 3 (by omega))
  have c4 : W0.cell? ⟨w.heap.size, 4, none⟩ = some (.int .i64 (x 4)) := KX.out.cell (eV_at x 4 (by omega))
  have c5 : W0.cell? ⟨w.heap.size, 5, none⟩ = some (.int .i64 (x 5)) := KX.out.cell (eV_at x 5 (by omega))
  have c6 : W0.cell? ⟨w.heap.size, 6, none⟩ = some (.int .i64 (x 6)) := KX.out.cell (eV_at x 6 (by omega))
  have c7 : W0.cell? ⟨w.heap.size, 7, none⟩ = some (.int .i64 (x 7)) := KX.out.cell (eV_at x 7 (by omega))
  have c8 : W0.cell? ⟨w.heap.size, 8, none⟩ = some (.int .i64 (x 8)) := KX.out.cell (eV_at x 8 (by omega))
  have c9 : W0.cell? ⟨w.heap.size, 9, none⟩ = some (.int .i64 (x 9)) := KX.out.cell (eV_at x 9 (by omega))
  have c10 : W0.cell? ⟨w.heap.size, 10, none⟩ = some (.int .i64 (x 10)) := KX.out.cell (eV_at x 10 (by omega))
  have c11 : W0.cell? ⟨w.heap.size, 11, none⟩ = some (.int .i64 (x 11)) := KX.out.cell (eV_at x 11 (by omega))
  have c12 : W0.cell? ⟨w.heap.size, 12, none⟩ = some (.int .i64 (x 12)) := KX.out.cell (eV_at x 12 (by omega))
  have c13 : W0.cell? ⟨w.heap.size, 13, none⟩ = some (.int .i64 (x 13)) := KX.out.cell (eV_at x 13 (by omega))
  have c14 : W0.cell? ⟨w.heap.size, 14, none⟩ = some (.int .i64 (x 14)) := KX.out.cell (eV_at x 14 (by omega))
  have c15 : W0.cell? ⟨w.heap.size, 15, none⟩ = some (.int .i64 (x 15)) := KX.out.cell (eV_at x 15 (by omega))
  have c16 : W0.cell? ⟨w.heap.size, 16, none⟩ = some (.int .i64 (x 16)) := KX.out.cell (eV_at x 16 (by omega))
  have c17 : W0.cell? ⟨w.heap.size, 17, none⟩ = some (.int .i64 (x 17)) := KX.out.cell (eV_at x 17 (by omega))
  have c18 : W0.cell? ⟨w.heap.size, 18, none⟩ = some (.int .i64 (x 18)) := KX.out.cell (eV_at x 18 (by omega))
  by_cases h1 : kind = 1
  · subst h1
    replace HK := Lib.hid (HK.out.trans (show kdN 1 = 0 from rfl))
    go_wp2
    have V1 := RdI.litN W0 #[.int .i64 (x 1), .int .i64 (x 0), .int .i64 (x 2), .int .i64 (x 3), .int .i64 (x 4), .int .i64 (x 5), .int .i64 (x 6)] 3 [x 1, x 0, x 2, x 3, x 4, x 5, x 6] W0.heap.size rfl (by rfl) (by simp)
    have V2 := RdI.litN (W0.alloc (.cells #[.int .i64 (x 1), .int .i64 (x 0), .int .i64 (x 2), .int .i64 (x 3), .int .i64 (x 4), .int .i64 (x 5), .int .i64 (x 6)] 3)) #[.int .i64 8, .int .i64 6, .int .i64 20, .int .i64 16, .int .i64 32, .int .i64 24, .int .i64 16] 3 [8, 6, 20, 16, 32, 24, 16] (W0.heap.size + 1) (by simp [World.size_alloc]) (by rfl) (by simp)
    refine bodyPost_ret (v := .tuple #[.slice (some ⟨W0.heap.size, 0, none⟩) 7 7, .slice (some ⟨W0.heap.size + 1, 0, none⟩) 7 7, .int .i64 4]) ?_ rfl ?_
    · simp [results, Try.results32, go_sem]
    rw [HK.out]
    exact ⟨⟨_, _, rfl, V1.mono (Bw.alloc (Bw.refl _) _), V2, Capd.at ⟨by omega, by omega⟩, Capd.at ⟨by omega, by omega⟩⟩, Bw.alloc (Bw.alloc HBW.out _) _⟩
  · have h1b : (kind == 1) = false := by simpa using h1
    by_cases h2 : kind = 2
    · subst h2
      replace HK := Lib.hid (HK.out.trans (show kdN 2 = 1 from rfl))
      go_wp2
      have V1 := RdI.litN W0 #[.int .i64 (x 1), .int .i64 (x 0), .int .i64 (x 7), .int .i64 (x 8), .int .i64 (x 9), .int .i64 (x 10), .int .i64 (x 11), .int .i64 (x 12)] 3 [x 1, x 0, x 7, x 8, x 9, x 10, x 11, x 12] W0.heap.size rfl (by rfl) (by simp)
      have V2 := RdI.litN (W0.alloc (.cells #[.int .i64 (x 1), .int .i64 (x 0), .int .i64 (x 7), .int .i64 (x 8), .int .i64 (x 9), .int .i64 (x 10), .int .i64 (x 11), .int .i64 (x 12)] 3)) #[.int .i64 8, .int .i64 6, .int .i64 32, .int .i64 24, .int .i64 22, .int .i64 24, .int .i64 32, .int .i64 24] 3 [8, 6, 32, 24, 22, 24, 32, 24] (W0.heap.size + 1) (by simp [World.size_alloc]) (by rfl) (by simp)
      refine bodyPost_ret (v := .tuple #[.slice (some ⟨W0.heap.size, 0, none⟩) 8 8, .slice (some ⟨W0.heap.size + 1, 0, none⟩) 8 8, .int .i64 2]) ?_ rfl ?_
      · simp [results, Try.results32, go_sem]
      rw [HK.out]
      exact ⟨⟨_, _, rfl, V1.mono (Bw.alloc (Bw.refl _) _), V2, Capd.at ⟨by omega, by omega⟩, Capd.at ⟨by omega, by omega⟩⟩, Bw.alloc (Bw.alloc HBW.out _) _⟩
    · have h2b : (kind == 2) = false := by simpa using h2
      replace HK := Lib.hid (HK.out.trans (show kdN kind = 2 by unfold kdN; rw [if_neg h1, if_neg h2]))
      go_wp2
      have V1 := RdI.litN W0 #[.int .i64 (x 1), .int .i64 (x 0), .int .i64 (x 13), .int .i64 (x 14), .int .i64 (x 15), .int .i64 (x 16), .int .i64 (x 17), .int .i64 (x 18)] 3 [x 1, x 0, x 13, x 14, x 15, x 16, x 17, x 18] W0.heap.size rfl (by rfl) (by simp)
      have V2 := RdI.litN (W0.alloc (.cells #[.int .i64 (x 1), .int .i64 (x 0), .int .i64 (x 13), .int .i64 (x 14), .int .i64 (x 15), .int .i64 (x 16), .int .i64 (x 17), .int .i64 (x 18)] 3)) #[.int .i64 8, .int .i64 6, .int .i64 22, .int .i64 24, .int .i64 32, .int .i64 24, .int .i64 22, .int .i64 24] 3 [8, 6, 22, 24, 32, 24, 22, 24] (W0.heap.size + 1) (by simp [World.size_alloc]) (by rfl) (by simp)
      refine bodyPost_ret (v := .tuple #[.slice (some ⟨W0.heap.size, 0, none⟩) 8 8, .slice (some ⟨W0.heap.size + 1, 0, none⟩) 8 8, .int .i64 2]) ?_ rfl ?_
      · simp [results, Try.results32, go_sem]
      rw [HK.out]
      exact ⟨⟨_, _, rfl, V1.mono (Bw.alloc (Bw.refl _) _), V2, Capd.at ⟨by omega, by omega⟩, Capd.at ⟨by omega, by omega⟩⟩, Bw.alloc (Bw.alloc HBW.out _) _⟩
end Go.Proofs.Sky

namespace Go.Proofs.Sky
open Go Go.RowKit Go.Shelf
set_option maxHeartbeats 4000000
set_option maxRecDepth 8000
theorem infoIntR : (Try.prog.info? 3).map (fun i => (i.zero, i.size, i.bytes)) = some (some (.int .i64 0), 1, 8) := by kernel_rfl
theorem bw_grownN {a b c : World} {e : TypeId} {k : Nat} {v : Value} {m n : Nat} {xs : List Value} (hn : a.heap.size = n) (h : Bw a b) (ho : b.ownsRow n e k v m xs) (hg : b.grownBy c v.ownBlock) : Bw a c := by
  subst hn; exact h.grown ho hg
def atN (k i : Nat) : Nat := (atS (LS k) i).toNat
def nN (k i : Nat) : Nat := ((LS k).getD i (0, false, 0)).1.toNat
def sgN (k i : Nat) : Bool := ((LS k).getD i (0, false, 0)).2.1
theorem ls_facts : ∀ k, k < 3 → ∀ i, i < (LS k).length → (1 ≤ nN k i ∧ nN k i ≤ 32 ∧ atN k i + nN k i ≤ 206 ∧ atN k (i + 1) = atN k i + nN k i ∧ (nmB k).getD i 0 = (nN k i : Int) ∧ (sgN k i = decide (nmU k ≤ i)) ∧ (sgN k i = true → nN k i = 16 ∨ nN k i = 22 ∨ nN k i = 24 ∨ nN k i = 32)) := by decide
theorem ls_len : ∀ k, k < 3 → (nmB k).length = (LS k).length ∧ 2 < (LS k).length ∧ (LS k).length ≤ 8 ∧ atN k (LS k).length ≤ 206 := by decide
theorem kdN_lt (kind : Int) : kdN kind < 3 := by unfold kdN; split; omega; split <;> omega
def rvX (zs : List Int) (k i : Nat) : Int := if sgN k i = true ∧ zs.getD (atN k i) 0 = 1 then getN zs (atN k i) (nN k i) - 2 ^ nN k i else getN zs (atN k i) (nN k i)
def rvL (zs : List Int) (k : Nat) : List Int := (List.range (LS k).length).map (rvX zs k)
/-- from A on no bit is set -/
def tl0 (zs : List Int) (A : Nat) : Bool := (List.range 206).all fun j => decide (j < A) || !decide (zs.getD j 0 = 1)
def bit2 (zs : List Int) : Bool := (List.range 206).all fun j => decide (zs.getD j 0 = 0 ∨ zs.getD j 0 = 1)
def rokV (zs : List Int) (kind : Int) : Bool := decide (zs.length = 206) && bit2 zs && tl0 zs (atN (kdN kind) (LS (kdN kind)).length) && decide (0 < rvX zs (kdN kind) 1 ∧ (kind ≠ 1 ∨ rvX zs (kdN kind) 2 ≤ 604799))
theorem bit2_no {zs : List Int} {j : Nat} (hj : j < 206) (h0 : zs.getD j 0 ≠ 0) (h1 : zs.getD j 0 ≠ 1) : bit2 zs = false := by
  rw [Bool.eq_false_iff]; intro h
  have := of_decide_eq_true (List.all_eq_true.1 h j (List.mem_range.2 hj))
  omega
theorem bit2_yes {zs : List Int} (h : ∀ j, j < 206 → zs.getD j 0 = 0 ∨ zs.getD j 0 = 1) : bit2 zs = true := List.all_eq_true.2 fun j hj => decide_eq_true (h j (List.mem_range.1 hj))
theorem tl0_no {zs : List Int} {A j : Nat} (hj : j < 206) (hA : A ≤ j) (h1 : zs.getD j 0 = 1) : tl0 zs A = false := by
  rw [Bool.eq_false_iff]; intro h
  have := List.all_eq_true.1 h j (List.mem_range.2 hj)
  rw [decide_eq_false (by omega), decide_eq_true h1] at this
  simp at this
theorem tl0_yes {zs : List Int} {A : Nat} (h : ∀ j, A ≤ j → j < 206 → zs.getD j 0 ≠ 1) : tl0 zs A = true := List.all_eq_true.2 fun j hj => by
  by_cases hA : j < A
  · rw [decide_eq_true hA]; rfl
  · rw [decide_eq_false (h j (by omega) (List.mem_range.1 hj))]; simp
def ValP (base : Nat) (zs : List Int) (kind : Int) (e : Ending) (w' : World) : Prop := ∃ v, e = .returned (.tuple #[v, .bool (rokV zs kind)]) ∧ (rokV zs kind = true → RdI w' v (rvL zs (kdN kind)) ∧ Capd v ∧ Fresh base v)
theorem ValP.no {base : Nat} {zs : List Int} {kind : Int} {w' : World} (h : rokV zs kind = false) : ValP base zs kind (.returned (.tuple #[.slice none 0 0, .bool false])) w' := ⟨_, by rw [h], fun h9 => by rw [h] at h9; cases h9⟩
theorem rval_any (zs : List Int) (kind : Int) (v : Value) (w : World) (hv : RdI w v zs) : Calls Try.prog 44 #[v, .int .i64 kind] w fun e w' => ValP w.heap.size zs kind e w' ∧ Bw w w' := by
  have HV := Lib.hid hv
  obtain ⟨a, c, rfl⟩ := hv.form
  clear hv
  have NM : Hid (∀ W, Calls Try.prog 32 #[.agg #[.int .i64 0, .int .i64 0, .int .i64 0, .int .i64 0, .int .i64 0, .int .i64 0, .int .i64 0, .int .i64 0, .int .i64 0, .int .i64 0, .int .i64 0, .int .i64 0, .int .i64 0, .int .i64 0, .int .i64 0, .int .i64 0, .int .i64 0, .int .i64 0, .int .i64 0], .int .i64 kind] W fun e w' => NumP (fun _ => 0) (kdN kind) e w' ∧ Bw W w') := Lib.hid (fun W => rnum_any (fun _ => 0) kind W)
  unfold NumP at NM
  have HBW := Lib.hid (Bw.refl w)
  obtain ⟨n, hn⟩ : ∃ n, n = zs.length := ⟨_, rfl⟩
  rw [← hn]
  have HN := Lib.hid hn
  clear hn
  go_enter Try.func44, Try.ntmps44
  by_cases q3 : n = 206
  case neg =>
    have q3b : ((n : Int) != 206) = true := by simp; omega
    have HF := Lib.hid (show rokV zs kind = false by unfold rokV; rw [decide_eq_false (by have := HN.out; omega)]; rfl)
    go_wp2
    refine bodyPost_ret (v := .tuple #[.slice none 0 0, .bool false]) ?_ rfl ⟨ValP.no HF.out, HBW.out⟩
    simp [results, Try.results44, go_sem]
  subst q3
  obtain ⟨db, dof, dc, he, hdb, hdc⟩ := HV.out.at (by have := HN.out; omega)
  injection he with he1 he2 he3
  subst he1 he3
  clear he2
  have HDC := Lib.hid hdc
  have HDB := Lib.hid hdb
  clear hdc hdb
  go_wp2
  go_loopg [6] 206 (fun gg s6 wr => ∃ i : Nat, i ≤ 206 ∧ 206 - i ≤ gg ∧ s6 = .int .i64 i ∧ wr = w ∧ Hid (∀ j, j < i → zs.getD j 0 = 0 ∨ zs.getD j 0 = 1))
  case atStart => exact ⟨0, by omega, by omega, rfl, rfl, Lib.hid (fun j h => by omega)⟩
  case round =>
    obtain ⟨i, hi, hgg, rfl, rfl, HB⟩ := hrel
    by_cases hlt : i < 206
    · have hiz : (i : Int) < 206 := by omega
      have hi0 : (0 : Int) ≤ i := by omega
      have z0 := HDC.out i (by have := HN.out; omega)
      have HZ0 := Lib.hid (show zs.getD i 0 ≠ 0 → zs.getD i 0 ≠ 1 → rokV zs kind = false from fun h0 h1 => by unfold rokV; rw [bit2_no hlt h0 h1]; simp)
      have HZ1 := Lib.hid (show (zs.getD i 0 = 0 ∨ zs.getD i 0 = 1) → ∀ j, j < i + 1 → zs.getD j 0 = 0 ∨ zs.getD j 0 = 1 from fun h9 j hj => by
        rcases Nat.lt_succ_iff_lt_or_eq.1 hj with h8 | rfl
        · exact HB.out j h8
        · exact h9)
      generalize zs.getD i 0 = z at z0 HZ0 HZ1
      by_cases q0 : z = 0
      · subst q0
        have HX := Lib.hid (HZ1.out (.inl rfl))
        clear HZ0 HZ1
        go_wp2
        go_roundg (206 - (i + 1))
        case measure => omega
        case rel => exact ⟨i + 1, by omega, by omega, by go_num, rfl, HX⟩
      · have q0b : (z != 0) = true := by simpa using q0
        by_cases q1 : z = 1
        · subst q1
          have HX := Lib.hid (HZ1.out (.inr rfl))
          clear HZ0 HZ1
          go_wp2
          go_roundg (206 - (i + 1))
          case measure => omega
          case rel => exact ⟨i + 1, by omega, by omega, by go_num, rfl, HX⟩
        · have q1b : (z != 1) = true := by simpa using q1
          have HF := Lib.hid (HZ0.out q0 q1)
          go_wp2
          refine bodyPost_ret (v := .tuple #[.slice none 0 0, .bool false]) ?_ rfl ⟨ValP.no HF.out, HBW.out⟩
          simp [results, Try.results44, go_sem]
    · obtain rfl : i = 206 := by omega
      obtain ⟨w, rfl⟩ : ∃ w, w = wr := ⟨_, rfl⟩
      have HAL := Lib.hid (show ∀ p, zs.getD p 0 = 0 ∨ zs.getD p 0 = 1 from fun p => by
        by_cases hp : p < 206
        · exact HB.out p hp
        · left; rw [List.getD_eq_getElem?_getD, List.getElem?_eq_none (by have := HN.out; omega)]; rfl)
      have HB2 := Lib.hid (bit2_yes (zs := zs) (fun j _ => HAL.out j))
      clear HB hi hgg hlt
      have HKL := Lib.hid (kdN_lt kind)
      have HKE := Lib.hid (show kind = 1 ↔ kdN kind = 0 by unfold kdN; by_cases h : kind = 1; simp [h]; by_cases h2 : kind = 2; simp [h2]; simp [h, h2])
      have HFX := Lib.hid (fun i hi => ls_facts (kdN kind) HKL.out i hi)
      have HLL := Lib.hid (ls_len (kdN kind) HKL.out)
      have HRK := Lib.hid (show rokV zs kind = (tl0 zs (atN (kdN kind) (LS (kdN kind)).length) && decide (0 < rvX zs (kdN kind) 1 ∧ (kind ≠ 1 ∨ rvX zs (kdN kind) 2 ≤ 604799))) by unfold rokV; rw [decide_eq_true HN.out.symm, HB2.out]; rfl)
      have HRL := Lib.hid (show rvL zs (kdN kind) = (List.range (LS (kdN kind)).length).map (rvX zs (kdN kind)) from rfl)
      generalize hkk : kdN kind = k at *
      have HKK := Lib.hid hkk
      clear hkk
      go_upto_region 9 with (go_at_call 32; (with_reducible refine Calls.mono (NM.out _) ?_); rintro e1 w2 ⟨⟨v1, v2, rfl, hr1, hr2, hc1, hc2⟩, hb2⟩)
      clear hr1 hc1 hc2
      replace HBW := Lib.hid hb2
      obtain ⟨bb, bof, bc, rfl, hbb, hbc⟩ := hr2.at (by have := HLL.out; omega)
      have HBC := Lib.hid (fun i (hi : i < (LS k).length) => (hbc i (by have := HLL.out.1; omega)).trans (by rw [(HFX.out i hi).2.2.2.2.1]))
      have HRX := Lib.hid (show ∀ i, rvX zs k i = if sgN k i = true ∧ zs.getD (atN k i) 0 = 1 then getN zs (atN k i) (nN k i) - 2 ^ nN k i else getN zs (atN k i) (nN k i) from fun i => rfl)
      obtain ⟨M, hM⟩ : ∃ M, M = (LS k).length := ⟨_, rfl⟩
      have hm8 := HLL.out
      rw [← hM] at hm8 HFX HBC HRK HRL
      obtain ⟨hm1, hm2, hm3, hm4⟩ := hm8
      rw [hm1]
      clear hm1 hM HLL hbc hr2 hbb hb2
      have HA0 := Lib.hid (show atN k 0 = 0 from rfl)
      obtain ⟨BB, hBB⟩ : ∃ BB, w2.heap.size = BB := ⟨_, rfl⟩
      have HBB := Lib.hid hBB
      clear hBB
      generalize nmU k = U at *
      go_wp2
      go_loopg [10, 11, 12] 8 (fun gg s10 s11 s12 wr => ∃ i : Nat, i ≤ M ∧ M - i ≤ gg ∧ s12 = .int .i64 i ∧ s10 = .int .i64 (atN k i : Nat) ∧ Hid (Bw w2 wr) ∧ Hid (wr.ownsRow BB 3 1 s11 ((List.range i).map (rvX zs k)).length (((List.range i).map (rvX zs k)).map (Value.int .i64))))
      case atStart => exact ⟨0, by omega, by omega, rfl, by rw [HA0.out]; rfl, Lib.hid (Bw.refl _), Lib.hid (World.ownsRow_nil _ _ _ _)⟩
      case round =>
        obtain ⟨i, hi, hgg, rfl, rfl, HW, O1⟩ := hrel
        by_cases hlt : i < M
        · have hiz : (i : Int) < M := by omega
          have hi0 : (0 : Int) ≤ i := by omega
          obtain ⟨hN1, hN32, hA206, hAn, _, hsg, hs4⟩ := HFX.out i hlt
          have HA2 := Lib.hid hAn
          have B0 := Lib.hid (HBC.out i hlt)
          have HRI := HRX.out i
          have HT := Lib.hid (show (List.range (i + 1)).map (rvX zs k) = (List.range i).map (rvX zs k) ++ [rvX zs k i] by rw [List.range_succ, List.map_append]; rfl)
          have HLN := Lib.hid (show ((List.range i).map (rvX zs k)).length = i by rw [List.length_map, List.length_range])
          generalize (List.range i).map (rvX zs k) = l1 at O1 HT HLN
          obtain ⟨A4, c4, hv4⟩ := own_form2 O1.out
          subst hv4
          clear hAn
          generalize rvX zs k i = RI at HT HRI
          generalize sgN k i = sg at *
          generalize atN k i = A at *
          generalize nN k i = N at *
          have HRI2 := Lib.hid HRI
          have HSG := Lib.hid hsg
          have HS4 := Lib.hid hs4
          clear HRI hsg hs4
          obtain ⟨wa, rfl⟩ : ∃ wa, wa = wr := ⟨_, rfl⟩
          have b0 := HW.out.cell' B0.out
          go_wp2
          go_loopg [13, 14] 32 (fun gg s13 s14 wx => ∃ r : Nat, r ≤ N ∧ N - r ≤ gg ∧ s14 = .int .i64 r ∧ s13 = .int .i64 (getN zs A r) ∧ wx = wa)
          case atStart => exact ⟨0, by omega, by omega, rfl, rfl, rfl⟩
          case round =>
            obtain ⟨r, hr9, hgg2, rfl, rfl, rfl⟩ := hrel
            have hgb := getN_bd zs A r (fun i _ => HAL.out _)
            have hpw : (2 : Int) ^ r ≤ 4294967296 := by have := pow_le r 32 (by omega); simpa using this
            have HGN := Lib.hid (show getN zs A (r + 1) = 2 * getN zs A r + zs.getD (A + r) 0 from rfl)
            by_cases hrN : r < N
            · have hrz : (r : Int) < N := by omega
              have hr0 : (0 : Int) ≤ r := by omega
              have z0 := (HBW.out.trans HW.out).cell' (HDC.out (A + r) (by have := HN.out; omega))
              have hbit := HAL.out (A + r)
              generalize zs.getD (A + r) 0 = z at z0 hbit HGN
              generalize getN zs A r = m at hgb HGN ⊢
              have har : ((A : Int) + r).toNat = A + r := by omega
              have har2 : (A : Int) + r < 206 := by omega
              obtain ⟨P2, hP2⟩ : ∃ P2, P2 = (2 : Int) ^ r := ⟨_, rfl⟩
              rw [← hP2] at hgb hpw
              clear hP2
              go_wp2
              go_roundg (N - (r + 1))
              case measure => omega
              case rel => exact ⟨r + 1, by omega, by omega, by go_num, by rw [HGN.out], rfl⟩
            · obtain rfl : r = N := by omega
              have z0 := (HBW.out.trans HW.out).cell' (HDC.out A (by have := HN.out; omega))
              have HRI := HRI2.out
              have hsg := HSG.out
              generalize zs.getD A 0 = z at z0 HRI
              generalize getN zs A r = m at hgb HRI HGN ⊢
              have har2 : (A : Int) < 206 := by omega
              have har0 : (0 : Int) ≤ A := by omega
              clear HGN hpw HRI2
              by_cases hU : U ≤ (i : Int)
              · rw [decide_eq_true hU] at hsg
                by_cases hz1 : z = 1
                · subst hz1
                  have HRK2 := Lib.hid (HRI.trans (if_pos ⟨hsg, rfl⟩))
                  have h4 := HS4.out hsg
                  have hsc : sg = true := hsg
                  clear HRI hsg HSG HS4 hsc
                  rcases h4 with rfl | rfl | rfl | rfl
                  · go_wp2_with (at_builtin; have hba := Bw.alloc (Bw.refl wr) (.cells #[.int .i64 (m - 65536)] 3); replace O1 := Lib.hid (own_bw O1.out hba); replace HW := Lib.hid (HW.out.trans hba); clear hba; refine wpList_append_int1 rfl (.tmp 82) (.tmp 84) _ rfl BB 3 Try.underlying40 infoIntR _ l1 (m - 65536) rfl O1.out _ rfl (by simp [go_sem]) (by have := HLN.out; omega) (by have := HW.out.size; have := HBB.out; simp only [World.size_alloc] at *; omega) ?_; intro v8 w8 hown hgr; replace HW := Lib.hid (bw_grownN HBB.out HW.out O1.out hgr); replace O1 := Lib.hid hown; clear hown hgr b0 z0; have b0 := HW.out.cell' B0.out)
                    go_roundg (M - (i + 1))
                    case measure => omega
                    case rel => exact ⟨i + 1, by omega, by omega, by go_num, by rw [HA2.out]; go_num, HW, Lib.hid (by rw [HT.out, HRK2.out]; exact O1.out)⟩
                  · go_wp2_with (at_builtin; have hba := Bw.alloc (Bw.refl wr) (.cells #[.int .i64 (m - 4194304)] 3); replace O1 := Lib.hid (own_bw O1.out hba); replace HW := Lib.hid (HW.out.trans hba); clear hba; refine wpList_append_int1 rfl (.tmp 82) (.tmp 84) _ rfl BB 3 Try.underlying40 infoIntR _ l1 (m - 4194304) rfl O1.out _ rfl (by simp [go_sem]) (by have := HLN.out; omega) (by have := HW.out.size; have := HBB.out; simp only [World.size_alloc] at *; omega) ?_; intro v8 w8 hown hgr; replace HW := Lib.hid (bw_grownN HBB.out HW.out O1.out hgr); replace O1 := Lib.hid hown; clear hown hgr b0 z0; have b0 := HW.out.cell' B0.out)
                    go_roundg (M - (i + 1))
                    case measure => omega
                    case rel => exact ⟨i + 1, by omega, by omega, by go_num, by rw [HA2.out]; go_num, HW, Lib.hid (by rw [HT.out, HRK2.out]; exact O1.out)⟩
                  · go_wp2_with (at_builtin; have hba := Bw.alloc (Bw.refl wr) (.cells #[.int .i64 (m - 16777216)] 3); replace O1 := Lib.hid (own_bw O1.out hba); replace HW := Lib.hid (HW.out.trans hba); clear hba; refine wpList_append_int1 rfl (.tmp 82) (.tmp 84) _ rfl BB 3 Try.underlying40 infoIntR _ l1 (m - 16777216) rfl O1.out _ rfl (by simp [go_sem]) (by have := HLN.out; omega) (by have := HW.out.size; have := HBB.out; simp only [World.size_alloc] at *; omega) ?_; intro v8 w8 hown hgr; replace HW := Lib.hid (bw_grownN HBB.out HW.out O1.out hgr); replace O1 := Lib.hid hown; clear hown hgr b0 z0; have b0 := HW.out.cell' B0.out)
                    go_roundg (M - (i + 1))
                    case measure => omega
                    case rel => exact ⟨i + 1, by omega, by omega, by go_num, by rw [HA2.out]; go_num, HW, Lib.hid (by rw [HT.out, HRK2.out]; exact O1.out)⟩
                  · go_wp2_with (at_builtin; have hba := Bw.alloc (Bw.refl wr) (.cells #[.int .i64 (m - 4294967296)] 3); replace O1 := Lib.hid (own_bw O1.out hba); replace HW := Lib.hid (HW.out.trans hba); clear hba; refine wpList_append_int1 rfl (.tmp 82) (.tmp 84) _ rfl BB 3 Try.underlying40 infoIntR _ l1 (m - 4294967296) rfl O1.out _ rfl (by simp [go_sem]) (by have := HLN.out; omega) (by have := HW.out.size; have := HBB.out; simp only [World.size_alloc] at *; omega) ?_; intro v8 w8 hown hgr; replace HW := Lib.hid (bw_grownN HBB.out HW.out O1.out hgr); replace O1 := Lib.hid hown; clear hown hgr b0 z0; have b0 := HW.out.cell' B0.out)
                    go_roundg (M - (i + 1))
                    case measure => omega
                    case rel => exact ⟨i + 1, by omega, by omega, by go_num, by rw [HA2.out]; go_num, HW, Lib.hid (by rw [HT.out, HRK2.out]; exact O1.out)⟩
                · have hz1b : (z == 1) = false := by simpa using hz1
                  have HRK2 := Lib.hid (HRI.trans (if_neg (fun h => hz1 h.2)))
                  clear HRI hsg HSG HS4
                  go_wp2_with (at_builtin; have hba := Bw.alloc (Bw.refl wr) (.cells #[.int .i64 (m)] 3); replace O1 := Lib.hid (own_bw O1.out hba); replace HW := Lib.hid (HW.out.trans hba); clear hba; refine wpList_append_int1 rfl (.tmp 82) (.tmp 84) _ rfl BB 3 Try.underlying40 infoIntR _ l1 (m) rfl O1.out _ rfl (by simp [go_sem]) (by have := HLN.out; omega) (by have := HW.out.size; have := HBB.out; simp only [World.size_alloc] at *; omega) ?_; intro v8 w8 hown hgr; replace HW := Lib.hid (bw_grownN HBB.out HW.out O1.out hgr); replace O1 := Lib.hid hown; clear hown hgr b0 z0; have b0 := HW.out.cell' B0.out)
                  go_roundg (M - (i + 1))
                  case measure => omega
                  case rel => exact ⟨i + 1, by omega, by omega, by go_num, by rw [HA2.out]; go_num, HW, Lib.hid (by rw [HT.out, HRK2.out]; exact O1.out)⟩
              · rw [decide_eq_false hU] at hsg
                have HRK2 := Lib.hid (HRI.trans (if_neg (fun h => by rw [hsg] at h; exact absurd h.1 (by simp))))
                clear HRI hsg HSG HS4
                go_wp2_with (at_builtin; have hba := Bw.alloc (Bw.refl wr) (.cells #[.int .i64 (m)] 3); replace O1 := Lib.hid (own_bw O1.out hba); replace HW := Lib.hid (HW.out.trans hba); clear hba; refine wpList_append_int1 rfl (.tmp 82) (.tmp 84) _ rfl BB 3 Try.underlying40 infoIntR _ l1 (m) rfl O1.out _ rfl (by simp [go_sem]) (by have := HLN.out; omega) (by have := HW.out.size; have := HBB.out; simp only [World.size_alloc] at *; omega) ?_; intro v8 w8 hown hgr; replace HW := Lib.hid (bw_grownN HBB.out HW.out O1.out hgr); replace O1 := Lib.hid hown; clear hown hgr b0 z0; have b0 := HW.out.cell' B0.out)
                go_roundg (M - (i + 1))
                case measure => omega
                case rel => exact ⟨i + 1, by omega, by omega, by go_num, by rw [HA2.out]; go_num, HW, Lib.hid (by rw [HT.out, HRK2.out]; exact O1.out)⟩
        · have hiM : i = M := by omega
          rw [hiM] at O1 ⊢
          clear hi hgg hlt hiM HFX HBC HRX NM
          have hiz : ¬ (M : Int) < M := by omega
          have HX1 := Lib.hid (show (rvL zs k).getD 1 0 = rvX zs k 1 by rw [HRL.out, List.getD_eq_getElem?_getD, List.getElem?_map, List.getElem?_range (by omega)]; rfl)
          have HX2 := Lib.hid (show (rvL zs k).getD 2 0 = rvX zs k 2 by rw [HRL.out, List.getD_eq_getElem?_getD, List.getElem?_map, List.getElem?_range (by omega)]; rfl)
          have HLM := Lib.hid (show (rvL zs k).length = M by rw [HRL.out, List.length_map, List.length_range])
          rw [← HRL.out] at O1
          generalize hrl : rvL zs k = RL at *
          have HRLL := Lib.hid hrl
          clear hrl
          obtain ⟨hrd, hfr⟩ := own_rd O1.out (by have := HLM.out; omega)
          have hcp := own_capd O1.out
          obtain ⟨ob, oof, oc, hs11, hob, hoc⟩ := hrd.at (by have := HLM.out; omega)
          subst hs11
          have HCP := Lib.hid hcp
          have HRD := Lib.hid hrd
          have HFR := Lib.hid (hfr.mono (show w.heap.size ≤ BB by have := HBW.out.size; have := HBB.out; omega))
          have o1 := (hoc 1 (by have := HLM.out; omega)).trans (by rw [HX1.out])
          have o2 := (hoc 2 (by have := HLM.out; omega)).trans (by rw [HX2.out])
          have O1c := Lib.hid o1
          have O2c := Lib.hid o2
          clear hrd hfr hcp hob hoc o1 o2 O1 HX1 HX2 HRL
          generalize rvX zs k 1 = X1 at *
          generalize rvX zs k 2 = X2 at *
          rw [HLM.out] at HCP HRD HFR ⊢
          generalize atN k M = A at *
          obtain ⟨wa, rfl⟩ : ∃ wa, wa = wr := ⟨_, rfl⟩
          go_wp2
          go_loopg [10] (206 - A) (fun gg s10 wx => ∃ p : Nat, A ≤ p ∧ p ≤ 206 ∧ 206 - p ≤ gg ∧ s10 = .int .i64 p ∧ wx = wa ∧ Hid (∀ j, A ≤ j → j < p → zs.getD j 0 ≠ 1))
          case atStart => exact ⟨A, by omega, by omega, by omega, rfl, rfl, Lib.hid (fun j h1 h2 => by omega)⟩
          case round =>
            obtain ⟨p, hp1, hp2, hpg, rfl, rfl, HT⟩ := hrel
            by_cases hlp : p < 206
            · have hpz : (p : Int) < 206 := by omega
              have hp0 : (0 : Int) ≤ p := by omega
              have z0 := (HBW.out.trans HW.out).cell' (HDC.out p (by have := HN.out; omega))
              have HZ1 := Lib.hid (show zs.getD p 0 = 1 → rokV zs kind = false from fun h9 => by rw [HRK.out, tl0_no (by omega) hp1 h9]; rfl)
              have HZ0 := Lib.hid (show zs.getD p 0 ≠ 1 → ∀ j, A ≤ j → j < p + 1 → zs.getD j 0 ≠ 1 from fun h9 j h1 hj => by
                rcases Nat.lt_succ_iff_lt_or_eq.1 hj with h8 | rfl
                · exact HT.out j h1 h8
                · exact h9)
              generalize zs.getD p 0 = z at z0 HZ0 HZ1
              by_cases q1 : z = 1
              · subst q1
                have HF := Lib.hid (HZ1.out rfl)
                clear HZ0 HZ1
                replace HBW := Lib.hid (HBW.out.trans HW.out)
                go_wp2
                refine bodyPost_ret (v := .tuple #[.slice none 0 0, .bool false]) ?_ rfl ⟨ValP.no HF.out, HBW.out⟩
                simp [results, Try.results44, go_sem]
              · have q1b : (z == 1) = false := by simpa using q1
                have HX := Lib.hid (HZ0.out q1)
                clear HZ0 HZ1
                go_wp2
                go_roundg (206 - (p + 1))
                case measure => omega
                case rel => exact ⟨p + 1, by omega, by omega, by omega, by go_num, rfl, HX⟩
            · obtain rfl : p = 206 := by omega
              have HRK2 := Lib.hid (HRK.out.trans (by rw [tl0_yes (fun j h1 h2 => HT.out j h1 h2), Bool.true_and]))
              clear HRK
              go_upto_region 27 with fail
              have e1 := fun p' : Ext wr => Ext.cell' O1c.out p'
              have e2 := fun p' : Ext wr => Ext.cell' O2c.out p'
              by_cases x1 : 0 < X1
              case neg =>
                have x1b : decide (0 < X1) = false := decide_eq_false x1
                have HRK3 := Lib.hid (HRK2.out.trans (show _ = false from decide_eq_false (fun h => x1 h.1)))
                (refine wp_region_quiet_ext (by kernel_rfl) (by kernel_rfl) ?_; (repeat (go_big_quiet_step ((fail)))); refine wpQuiet_nil ?_; rintro wq ⟨⟨_, hbq⟩, rfl⟩; obtain ⟨hccq, hffq⟩ := Bw.cells hbq; have hszq := Bw.size hbq)
                replace HBW := Lib.hid (HBW.out.trans (HW.out.trans hbq))
                replace HRD := Lib.hid (HRD.out.mono hbq)
                go_wp2
                refine bodyPost_ret (v := .tuple #[.slice (some ⟨ob, oof, none⟩) M oc, .bool false]) ?_ rfl ⟨⟨_, by rw [HRK3.out], fun h9 => ⟨by rw [HKK.out, HRLL.out]; exact HRD.out, HCP.out, HFR.out⟩⟩, HBW.out⟩
                simp [results, Try.results44, go_sem]
              by_cases x2 : kind = 1
              case neg =>
                have x2b : (kind != 1) = true := by simpa using x2
                have HRK3 := Lib.hid (HRK2.out.trans (show _ = true from decide_eq_true ⟨x1, .inl x2⟩))
                (refine wp_region_quiet_ext (by kernel_rfl) (by kernel_rfl) ?_; (repeat (go_big_quiet_step ((fail)))); refine wpQuiet_nil ?_; rintro wq ⟨⟨_, hbq⟩, rfl⟩; obtain ⟨hccq, hffq⟩ := Bw.cells hbq; have hszq := Bw.size hbq)
                replace HBW := Lib.hid (HBW.out.trans (HW.out.trans hbq))
                replace HRD := Lib.hid (HRD.out.mono hbq)
                go_wp2
                refine bodyPost_ret (v := .tuple #[.slice (some ⟨ob, oof, none⟩) M oc, .bool true]) ?_ rfl ⟨⟨_, by rw [HRK3.out], fun h9 => ⟨by rw [HKK.out, HRLL.out]; exact HRD.out, HCP.out, HFR.out⟩⟩, HBW.out⟩
                simp [results, Try.results44, go_sem]
              have x2b : (kind != 1) = false := by simpa using x2
              have HK1 := Lib.hid x2
              clear x2
              by_cases x3 : X2 ≤ 604799
              case neg =>
                have x3b : decide (X2 ≤ 604799) = false := decide_eq_false x3
                have HRK3 := Lib.hid (HRK2.out.trans (show _ = false from decide_eq_false (fun h => x3 (h.2.resolve_left (fun h9 => h9 HK1.out)))))
                (refine wp_region_quiet_ext (by kernel_rfl) (by kernel_rfl) ?_; (repeat (go_big_quiet_step ((fail)))); refine wpQuiet_nil ?_; rintro wq ⟨⟨_, hbq⟩, rfl⟩; obtain ⟨hccq, hffq⟩ := Bw.cells hbq; have hszq := Bw.size hbq)
                replace HBW := Lib.hid (HBW.out.trans (HW.out.trans hbq))
                replace HRD := Lib.hid (HRD.out.mono hbq)
                go_wp2
                refine bodyPost_ret (v := .tuple #[.slice (some ⟨ob, oof, none⟩) M oc, .bool false]) ?_ rfl ⟨⟨_, by rw [HRK3.out], fun h9 => ⟨by rw [HKK.out, HRLL.out]; exact HRD.out, HCP.out, HFR.out⟩⟩, HBW.out⟩
                simp [results, Try.results44, go_sem]
              have HRK3 := Lib.hid (HRK2.out.trans (show _ = true from decide_eq_true ⟨x1, .inr x3⟩))
              (refine wp_region_quiet_ext (by kernel_rfl) (by kernel_rfl) ?_; (repeat (go_big_quiet_step ((fail)))); refine wpQuiet_nil ?_; rintro wq ⟨⟨_, hbq⟩, rfl⟩; obtain ⟨hccq, hffq⟩ := Bw.cells hbq; have hszq := Bw.size hbq)
              replace HBW := Lib.hid (HBW.out.trans (HW.out.trans hbq))
              replace HRD := Lib.hid (HRD.out.mono hbq)
              go_wp2
              refine bodyPost_ret (v := .tuple #[.slice (some ⟨ob, oof, none⟩) M oc, .bool true]) ?_ rfl ⟨⟨_, by rw [HRK3.out], fun h9 => ⟨by rw [HKK.out, HRLL.out]; exact HRD.out, HCP.out, HFR.out⟩⟩, HBW.out⟩
              simp [results, Try.results44, go_sem]
end Go.Proofs.Sky

namespace Go.Proofs.Sky
open Go Go.RowKit Go.Shelf
set_option maxHeartbeats 4000000
set_option maxRecDepth 8000
def rokP (t k : Int) (zs : List Int) : Bool := decide (1 ≤ k ∧ k ≤ 3 ∧ 0 ≤ t ∧ t ≤ 131071) && rokV zs k
def PartP (base : Nat) (t k : Int) (zs : List Int) (e : Ending) (w' : World) : Prop := ∃ v, e = .returned (.tuple #[v, .bool (rokP t k zs)]) ∧ (rokP t k zs = true → RdI w' v (rvL zs (kdN k)) ∧ Capd v ∧ Fresh base v)
theorem PartP.no {base : Nat} {t k : Int} {zs : List Int} {w' : World} (h : rokP t k zs = false) : PartP base t k zs (.returned (.tuple #[.slice none 0 0, .bool false])) w' := ⟨_, by rw [h], fun h9 => by rw [h] at h9; cases h9⟩
theorem part_any (t k : Int) (zs : List Int) (v : Value) (w : World) (hv : RdI w v zs) : Calls Try.prog 38 #[.agg #[.int .i64 t, .int .i64 k, v]] w fun e w' => PartP w.heap.size t k zs e w' ∧ Bw w w' := by
  have HV := Lib.hid hv
  obtain ⟨a, c, rfl⟩ := hv.form
  clear hv
  have HBW := Lib.hid (Bw.alloc (Bw.refl w) (.cells #[.int .i64 t, .int .i64 k, .slice a zs.length c] 47))
  have KF := Lib.hid (Blk.new w 47 #[.int .i64 t, .int .i64 k, .slice a zs.length c])
  have VA := Lib.hid (fun W (h : RdI W (.slice a zs.length c) zs) => rval_any zs k (.slice a zs.length c) W h)
  unfold ValP at VA
  go_enter Try.func38, Try.ntmps38
  go_upto_region 1 with fail
  obtain ⟨W0, hW0⟩ : ∃ W0, (w.alloc (.cells #[.int .i64 t, .int .i64 k, .slice a zs.length c] 47)) = W0 := ⟨_, rfl⟩
  rw [hW0] at HBW KF ⊢
  clear hW0
  have c0 := KF.out.cell (j := 0) (v := .int .i64 t) rfl
  have c1 := KF.out.cell (j := 1) (v := .int .i64 k) rfl
  have c2 := KF.out.cell (j := 2) (v := .slice a zs.length c) rfl
  by_cases q1 : 1 ≤ k
  case neg =>
    have q1a : k < 1 := by omega
    have q1b : decide (k < 1) = true := decide_eq_true (by omega)
    have HF := Lib.hid (show rokP t k zs = false by unfold rokP; rw [decide_eq_false (by omega)]; rfl)
    go_wp2
    refine bodyPost_ret (v := .tuple #[.slice none 0 0, .bool false]) ?_ rfl ⟨PartP.no HF.out, HBW.out⟩
    simp [results, Try.results38, go_sem]
  have q1a : ¬ k < 1 := by omega
  by_cases q2 : k ≤ 3
  case neg =>
    have q2a : 3 < k := by omega
    have HF := Lib.hid (show rokP t k zs = false by unfold rokP; rw [decide_eq_false (by omega)]; rfl)
    go_wp2
    refine bodyPost_ret (v := .tuple #[.slice none 0 0, .bool false]) ?_ rfl ⟨PartP.no HF.out, HBW.out⟩
    simp [results, Try.results38, go_sem]
  have q2a : ¬ 3 < k := by omega
  by_cases q3 : 0 ≤ t
  case neg =>
    have q3a : t < 0 := by omega
    have HF := Lib.hid (show rokP t k zs = false by unfold rokP; rw [decide_eq_false (by omega)]; rfl)
    go_wp2
    refine bodyPost_ret (v := .tuple #[.slice none 0 0, .bool false]) ?_ rfl ⟨PartP.no HF.out, HBW.out⟩
    simp [results, Try.results38, go_sem]
  have q3a : ¬ t < 0 := by omega
  by_cases q4 : t ≤ 131071
  case neg =>
    have q4a : 131071 < t := by omega
    have HF := Lib.hid (show rokP t k zs = false by unfold rokP; rw [decide_eq_false (by omega)]; rfl)
    go_wp2
    refine bodyPost_ret (v := .tuple #[.slice none 0 0, .bool false]) ?_ rfl ⟨PartP.no HF.out, HBW.out⟩
    simp [results, Try.results38, go_sem]
  have q4a : ¬ 131071 < t := by omega
  have HR := Lib.hid (show rokP t k zs = rokV zs k by unfold rokP; rw [decide_eq_true ⟨q1, q2, q3, q4⟩]; rfl)
  have HSZ := Lib.hid (Bw.size HBW.out)
  obtain ⟨OK, hOK⟩ : ∃ OK, OK = rokV zs k := ⟨_, rfl⟩
  rw [← hOK] at VA HR
  clear hOK
  go_wp2_with (go_at_call 44; (with_reducible refine Calls.mono (VA.out _ (HV.out.mono HBW.out)) ?_); rintro e1 w1 ⟨⟨v1, rfl, h1⟩, hb1⟩; have H1 := Lib.hid h1; clear h1; replace HBW := Lib.hid (HBW.out.trans hb1); clear hb1 c0 c1 c2)
  refine bodyPost_ret (v := .tuple #[v1, .bool OK]) ?_ rfl ⟨⟨v1, by rw [HR.out], fun h9 => ?_⟩, HBW.out⟩
  · simp [results, Try.results38, go_sem]
  · obtain ⟨r1, r2, r3⟩ := H1.out (HR.out.symm.trans h9)
    exact ⟨r1, r2, r3.mono HSZ.out⟩
def togE (la lb lc : List Int) : Nat → Int := fun i => [la.getD 1 0, la.getD 0 0, la.getD 2 0, la.getD 3 0, la.getD 4 0, la.getD 5 0, la.getD 6 0, lb.getD 2 0, lb.getD 3 0, lb.getD 4 0, lb.getD 5 0, lb.getD 6 0, lb.getD 7 0, lc.getD 2 0, lc.getD 3 0, lc.getD 4 0, lc.getD 5 0, lc.getD 6 0, lc.getD 7 0].getD i 0
theorem together_any (la lb lc : List Int) (u v x : Value) (w : World) (h1 : RdI w u la) (h2 : RdI w v lb) (h3 : RdI w x lc) (n1 : 7 ≤ la.length) (n2 : 8 ≤ lb.length) (n3 : 8 ≤ lc.length) :
    Calls Try.prog 39 #[u, v, x] w fun e w' => e = .returned (.agg (eV (togE la lb lc))) ∧ Bw w w' := by
  have HBW := Lib.hid (Bw.alloc (Bw.refl w) (.cells #[.int .i64 0, .int .i64 0, .int .i64 0, .int .i64 0, .int .i64 0, .int .i64 0, .int .i64 0, .int .i64 0, .int .i64 0, .int .i64 0, .int .i64 0, .int .i64 0, .int .i64 0, .int .i64 0, .int .i64 0, .int .i64 0, .int .i64 0, .int .i64 0, .int .i64 0] 25))
  have KR := Lib.hid (Blk.new w 25 #[.int .i64 0, .int .i64 0, .int .i64 0, .int .i64 0, .int .i64 0, .int .i64 0, .int .i64 0, .int .i64 0, .int .i64 0, .int .i64 0, .int .i64 0, .int .i64 0, .int .i64 0, .int .i64 0, .int .i64 0, .int .i64 0, .int .i64 0, .int .i64 0, .int .i64 0])
  obtain ⟨ab9, ao9, ac9, rfl, _, ah⟩ := h1.at (by omega)
  have Ha := Lib.hid ah
  clear ah h1
  obtain ⟨N1, hN1⟩ : ∃ N, N = la.length := ⟨_, rfl⟩
  rw [← hN1] at n1 ⊢
  have HN1 := Lib.hid hN1
  clear hN1
  obtain ⟨bb9, bo9, bc9, rfl, _, bh⟩ := h2.at (by omega)
  have Hb := Lib.hid bh
  clear bh h2
  obtain ⟨N2, hN2⟩ : ∃ N, N = lb.length := ⟨_, rfl⟩
  rw [← hN2] at n2 ⊢
  have HN2 := Lib.hid hN2
  clear hN2
  obtain ⟨fb9, fo9, fc9, rfl, _, fh⟩ := h3.at (by omega)
  have Hf := Lib.hid fh
  clear fh h3
  obtain ⟨N3, hN3⟩ : ∃ N, N = lc.length := ⟨_, rfl⟩
  rw [← hN3] at n3 ⊢
  have HN3 := Lib.hid hN3
  clear hN3
  have yla0 := Ha.out 0 (by have := HN1.out; omega)
  rw [Nat.add_zero] at yla0
  have yla1 := Ha.out 1 (by have := HN1.out; omega)
  have yla2 := Ha.out 2 (by have := HN1.out; omega)
  have yla3 := Ha.out 3 (by have := HN1.out; omega)
  have yla4 := Ha.out 4 (by have := HN1.out; omega)
  have yla5 := Ha.out 5 (by have := HN1.out; omega)
  have yla6 := Ha.out 6 (by have := HN1.out; omega)
  have ylb2 := Hb.out 2 (by have := HN2.out; omega)
  have ylb3 := Hb.out 3 (by have := HN2.out; omega)
  have ylb4 := Hb.out 4 (by have := HN2.out; omega)
  have ylb5 := Hb.out 5 (by have := HN2.out; omega)
  have ylb6 := Hb.out 6 (by have := HN2.out; omega)
  have ylb7 := Hb.out 7 (by have := HN2.out; omega)
  have ylc2 := Hf.out 2 (by have := HN3.out; omega)
  have ylc3 := Hf.out 3 (by have := HN3.out; omega)
  have ylc4 := Hf.out 4 (by have := HN3.out; omega)
  have ylc5 := Hf.out 5 (by have := HN3.out; omega)
  have ylc6 := Hf.out 6 (by have := HN3.out; omega)
  have ylc7 := Hf.out 7 (by have := HN3.out; omega)
  rw [show eV (togE la lb lc) = #[.int .i64 (la.getD 1 0), .int .i64 (la.getD 0 0), .int .i64 (la.getD 2 0), .int .i64 (la.getD 3 0), .int .i64 (la.getD 4 0), .int .i64 (la.getD 5 0), .int .i64 (la.getD 6 0), .int .i64 (lb.getD 2 0), .int .i64 (lb.getD 3 0), .int .i64 (lb.getD 4 0), .int .i64 (lb.getD 5 0), .int .i64 (lb.getD 6 0), .int .i64 (lb.getD 7 0), .int .i64 (lc.getD 2 0), .int .i64 (lc.getD 3 0), .int .i64 (lc.getD 4 0), .int .i64 (lc.getD 5 0), .int .i64 (lc.getD 6 0), .int .i64 (lc.getD 7 0)] from rfl]
  clear Ha Hb Hf
  generalize la.getD 1 0 = la1 at *
  generalize la.getD 0 0 = la0 at *
  generalize la.getD 2 0 = la2 at *
  generalize la.getD 3 0 = la3 at *
  generalize la.getD 4 0 = la4 at *
  generalize la.getD 5 0 = la5 at *
  generalize la.getD 6 0 = la6 at *
  generalize lb.getD 2 0 = lb2 at *
  generalize lb.getD 3 0 = lb3 at *
  generalize lb.getD 4 0 = lb4 at *
  generalize lb.getD 5 0 = lb5 at *
  generalize lb.getD 6 0 = lb6 at *
  generalize lb.getD 7 0 = lb7 at *
  generalize lc.getD 2 0 = lc2 at *
  generalize lc.getD 3 0 = lc3 at *
  generalize lc.getD 4 0 = lc4 at *
  generalize lc.getD 5 0 = lc5 at *
  generalize lc.getD 6 0 = lc6 at *
  generalize lc.getD 7 0 = lc7 at *
  go_enter Try.func39, Try.ntmps39
  go_upto_region 1 with fail
  obtain ⟨W0, hW0⟩ : ∃ W0, w.alloc (.cells #[.int .i64 0, .int .i64 0, .int .i64 0, .int .i64 0, .int .i64 0, .int .i64 0, .int .i64 0, .int .i64 0, .int .i64 0, .int .i64 0, .int .i64 0, .int .i64 0, .int .i64 0, .int .i64 0, .int .i64 0, .int .i64 0, .int .i64 0, .int .i64 0, .int .i64 0] 25) = W0 := ⟨_, rfl⟩
  rw [hW0] at HBW KR ⊢
  clear hW0
  have m0 : (0 : Int) < N1 := by omega
  have m1 : (1 : Int) < N1 := by omega
  have m2 : (2 : Int) < N1 := by omega
  have m3 : (3 : Int) < N1 := by omega
  have m4 : (4 : Int) < N1 := by omega
  have m5 : (5 : Int) < N1 := by omega
  have m6 : (6 : Int) < N1 := by omega
  have m7 : (2 : Int) < N2 := by omega
  have m8 : (3 : Int) < N2 := by omega
  have m9 : (4 : Int) < N2 := by omega
  have m10 : (5 : Int) < N2 := by omega
  have m11 : (6 : Int) < N2 := by omega
  have m12 : (7 : Int) < N2 := by omega
  have m13 : (2 : Int) < N3 := by omega
  have m14 : (3 : Int) < N3 := by omega
  have m15 : (4 : Int) < N3 := by omega
  have m16 : (5 : Int) < N3 := by omega
  have m17 : (6 : Int) < N3 := by omega
  have m18 : (7 : Int) < N3 := by omega
  have ela1 := fun p' : Ext W0 => Ext.cell' (HBW.out.cell' yla1) p'
  have ela0 := fun p' : Ext W0 => Ext.cell' (HBW.out.cell' yla0) p'
  have ela2 := fun p' : Ext W0 => Ext.cell' (HBW.out.cell' yla2) p'
  have ela3 := fun p' : Ext W0 => Ext.cell' (HBW.out.cell' yla3) p'
  have ela4 := fun p' : Ext W0 => Ext.cell' (HBW.out.cell' yla4) p'
  have ela5 := fun p' : Ext W0 => Ext.cell' (HBW.out.cell' yla5) p'
  have ela6 := fun p' : Ext W0 => Ext.cell' (HBW.out.cell' yla6) p'
  have elb2 := fun p' : Ext W0 => Ext.cell' (HBW.out.cell' ylb2) p'
  have elb3 := fun p' : Ext W0 => Ext.cell' (HBW.out.cell' ylb3) p'
  have elb4 := fun p' : Ext W0 => Ext.cell' (HBW.out.cell' ylb4) p'
  have elb5 := fun p' : Ext W0 => Ext.cell' (HBW.out.cell' ylb5) p'
  have elb6 := fun p' : Ext W0 => Ext.cell' (HBW.out.cell' ylb6) p'
  have elb7 := fun p' : Ext W0 => Ext.cell' (HBW.out.cell' ylb7) p'
  have elc2 := fun p' : Ext W0 => Ext.cell' (HBW.out.cell' ylc2) p'
  have elc3 := fun p' : Ext W0 => Ext.cell' (HBW.out.cell' ylc3) p'
  have elc4 := fun p' : Ext W0 => Ext.cell' (HBW.out.cell' ylc4) p'
  have elc5 := fun p' : Ext W0 => Ext.cell' (HBW.out.cell' ylc5) p'
  have elc6 := fun p' : Ext W0 => Ext.cell' (HBW.out.cell' ylc6) p'
  have elc7 := fun p' : Ext W0 => Ext.cell' (HBW.out.cell' ylc7) p'
  clear yla1 yla0 yla2 yla3 yla4 yla5 yla6 ylb2 ylb3 ylb4 ylb5 ylb6 ylb7 ylc2 ylc3 ylc4 ylc5 ylc6 ylc7
  (refine wp_region_ext_tail 62 (by kernel_rfl) (by kernel_rfl) ?_; simp only [List.take_succ_cons, List.take_zero, List.drop_succ_cons, List.drop_zero]; (repeat (go_big_quiet_step ((fail)))); refine wpQuiet_nil ?_; rintro wq ⟨⟨_, hbq⟩, rfl⟩; obtain ⟨hccq, hffq⟩ := Bw.cells hbq; have hszq := Bw.size hbq)
  replace HBW := Lib.hid (HBW.out.trans hbq)
  replace KR := Lib.hid (KR.out.bw hbq)
  go_wp2_with ((with_reducible refine at_store 25 (.tmp 6) (.tmp 68) ?_); refine wpList_store_row rfl 25 (.tmp 6) (.tmp 68) rfl w.heap.size #[.int .i64 la1, .int .i64 la0, .int .i64 la2, .int .i64 la3, .int .i64 la4, .int .i64 la5, .int .i64 la6, .int .i64 lb2, .int .i64 lb3, .int .i64 lb4, .int .i64 lb5, .int .i64 lb6, .int .i64 lb7, .int .i64 lc2, .int .i64 lc3, .int .i64 lc4, .int .i64 lc5, .int .i64 lc6, .int .i64 lc7] rfl rfl 25 _ KR.out (by kernel_rfl) rfl (by simp [Value.oneCell']) ?_)
  have F3 := KR.out.row #[.int .i64 la1, .int .i64 la0, .int .i64 la2, .int .i64 la3, .int .i64 la4, .int .i64 la5, .int .i64 la6, .int .i64 lb2, .int .i64 lb3, .int .i64 lb4, .int .i64 lb5, .int .i64 lb6, .int .i64 lb7, .int .i64 lc2, .int .i64 lc3, .int .i64 lc4, .int .i64 lc5, .int .i64 lc6, .int .i64 lc7]
  have B3 := Bw.setRow HBW.out (Nat.le_refl w.heap.size) #[.int .i64 la1, .int .i64 la0, .int .i64 la2, .int .i64 la3, .int .i64 la4, .int .i64 la5, .int .i64 la6, .int .i64 lb2, .int .i64 lb3, .int .i64 lb4, .int .i64 lb5, .int .i64 lb6, .int .i64 lb7, .int .i64 lc2, .int .i64 lc3, .int .i64 lc4, .int .i64 lc5, .int .i64 lc6, .int .i64 lc7]
  generalize World.setRow wq _ _ = WF at F3 B3 ⊢
  refine bodyPost_ret (v := .agg #[.int .i64 la1, .int .i64 la0, .int .i64 la2, .int .i64 la3, .int .i64 la4, .int .i64 la5, .int .i64 la6, .int .i64 lb2, .int .i64 lb3, .int .i64 lb4, .int .i64 lb5, .int .i64 lb6, .int .i64 lb7, .int .i64 lc2, .int .i64 lc3, .int .i64 lc4, .int .i64 lc5, .int .i64 lc6, .int .i64 lc7]) ?_ rfl ⟨rfl, B3⟩
  exact res_eph1 (p := 6) rfl _ _ _ (fun i => [la1, la0, la2, la3, la4, la5, la6, lb2, lb3, lb4, lb5, lb6, lb7, lc2, lc3, lc4, lc5, lc6, lc7].getD i 0) rfl F3
end Go.Proofs.Sky
