/-
  lemmas for the theorems of this claim. No conditions beyond those written in the statements.
-/
import Derived.Test.YtgeojbmhkmmedaaDoorM25
import Derived.Deep.RegionWith
import Derived.Deep.Cut
import Derived.Test.YtgeojbmhkmmedaaDoorPlainA
import Derived.Test.YtgeojbmhkmmedaaDoorFA25
set_option linter.unusedVariables false
set_option linter.unusedSimpArgs false
set_option linter.unnecessarySimpa false
namespace Go.Proofs.Sky
open Go Go.RowKit Go.Shelf
set_option maxHeartbeats 1000000
theorem makeInt (n : Nat) (hn : n ≤ 1048576) (w : World) : (Instr.makeSlice 42 (.int .i64 n) (.int .i64 n)).run Tryd.prog w = .ok (.slice (some ⟨w.heap.size, 0, none⟩) n n) (w.alloc (.cells (madeCells #[.int .i64 0] (n * 1)) 3)) := by
  obtain ⟨i, hi, hzz⟩ := Option.map_eq_some_iff.1 infoInt
  simp only [Prod.mk.injEq] at hzz
  obtain ⟨hz, hs, hb⟩ := hzz
  have h := run_make (P := Tryd.prog) w 42 3 i _ Tryd.underlying42 hi hz .i64 .i64 n n (by omega) (by omega) (by rw [hb]; omega) (by omega)
  simpa [hs, Value.cells] using h
theorem made1 (z : Value) (n : Nat) : (madeCells #[z] (n * 1)).toList = List.replicate n z := by
  apply List.ext_getElem?
  intro j
  by_cases hj : j < n
  · simp [madeCells, hj, Nat.mod_one]
  · simp [madeCells, hj]
theorem rdI_made (n : Nat) (hn : n ≤ 1048576) (w : World) : RdI (w.alloc (.cells (madeCells #[.int .i64 0] (n * 1)) 3)) (.slice (some ⟨w.heap.size, 0, none⟩) n n) (List.replicate n 0) := by
  have h := RdI.lit w (madeCells #[.int .i64 0] (n * 1)) 3 (List.replicate n 0) (by rw [made1]; simp) (by simp; omega)
  simpa using h
def PutOk (base : Nat) (l : List Int) (e : Ending) (w' : World) : Prop := ∃ v', e = .returned (.tuple #[v', .int .i64 0]) ∧ RdI w' v' l ∧ Fresh base v'
theorem Limits_ok (a n : Int) (g : Bool) (u c lo hi : Int) (w : World) (h : fk a n u c) (h1 : c + lowR n g * u = lo) (h2 : c + highR n g * u = hi) : Calls Tryd.prog 48 #[.agg #[.int .i64 a, .int .i64 n, .bool g, .int .i64 u, .int .i64 c]] w fun e w' => e = .returned (.tuple #[.int .i64 lo, .int .i64 hi, .int .i64 0]) ∧ Bw w w' := by
  have := Limits_any a n g u c w
  rw [limP_ok h, h1, h2] at this
  exact this
end Go.Proofs.Sky

namespace Go.Proofs.Sky
open Go Go.RowKit Go.Shelf
set_option maxHeartbeats 4000000
set_option maxRecDepth 4000
/-! chapter 26: the fields of a frame -/
def atS (L : List (Int × Bool × Nat)) : Nat → Int
  | 0 => 0
  | k + 1 => atS L k + (L.getD k (0, false, 0)).1
def fdS (L : List (Int × Bool × Nat)) (k : Nat) : Fd := ⟨atS L k, (L.getD k (0, false, 0)).1, (L.getD k (0, false, 0)).2.1, 1, 0⟩
def fdsS (L : List (Int × Bool × Nat)) : List Fd := (List.range L.length).map (fdS L)
def okL (L : List (Int × Bool × Nat)) : Prop := L.length ≤ 100 ∧ ∀ t ∈ L, 1 ≤ t.1 ∧ t.1 ≤ 40
theorem atS_bd {L : List (Int × Bool × Nat)} (h : okL L) : ∀ k, k ≤ L.length → 0 ≤ atS L k ∧ atS L k ≤ 40 * k := by
  intro k
  induction k with
  | zero => intro _; simp [atS]
  | succ k ih =>
    intro hk
    have h1 := ih (by omega)
    have h2 := h.2 _ (getD_mem L k (0, false, 0) (by omega))
    rw [atS]; omega
theorem rdF_get {w : World} {v : Value} {fs : List Fd} (h : RdF w v fs) (h0 : 0 < fs.length) : ∃ b off c, v = .slice (some ⟨b, off, none⟩) fs.length c ∧ ∀ i f, fs[i]? = some f →
    w.cell? ⟨b, off + i * 5, none⟩ = some (.int .i64 f.a) ∧ w.cell? ⟨b, off + i * 5 + 1, none⟩ = some (.int .i64 f.n) ∧ w.cell? ⟨b, off + i * 5 + 2, none⟩ = some (.bool f.g) ∧ w.cell? ⟨b, off + i * 5 + 3, none⟩ = some (.int .i64 f.u) ∧ w.cell? ⟨b, off + i * 5 + 4, none⟩ = some (.int .i64 f.c) := by
  obtain ⟨_, a, c, hv, h4⟩ := h
  rcases h4 with h4 | ⟨b, off, h5, _, h7⟩
  · rw [h4] at h0; simp at h0
  · exact ⟨b, off, c, by rw [hv, h5], h7⟩
theorem grown_blk {a b : World} {base k n : Nat} {e : TypeId} {v : Value} {xs : List Value} {g : Nat} {T : TypeId} {cs : Array Value} (hB : Blk a g T cs) (ho : a.ownsRow base e k v n xs) (hn : T ≠ e) (hg : a.grownBy b v.ownBlock) : Blk b g T cs := by
  unfold Blk at hB ⊢
  have hlt : g < a.heap.size := (Array.getElem?_eq_some_iff.1 hB).1
  rw [hg.block g hlt ?_]
  · exact hB
  · intro e'
    rcases ho.2 with ⟨rfl, _⟩ | ⟨g', cap, cur, rfl, _, hh, _⟩
    · simp [Value.ownBlock] at e'
    · simp [Value.ownBlock] at e'
      subst e'
      rw [hh] at hB
      injection hB with hB
      injection hB with h1 h2 h3
      exact hn h2.symm
theorem layFields_any (L : List (Int × Bool × Nat)) (v : Value) (base g : Nat) (w : World) (hL : okL L) (hl0 : 0 < L.length) (hv : LayAt w base v L) (hB : Blk w g 77 #[v]) :
    Calls Tryd.prog 47 #[.pointer (some ⟨g, 0, none⟩)] w fun e w' => (∃ v', e = .returned v' ∧ RdF w' v' (fdsS L) ∧ Fresh w.heap.size v') ∧ Bw w w' := by
  obtain ⟨ps, hrp, hml, _⟩ := hv
  have hlen := hml.len
  have HP := Lib.hid hrp
  have HM := Lib.hid hml
  have HLB := Lib.hid hL
  obtain ⟨a, c, rfl⟩ := hrp.form
  have BX := Lib.hid hB
  clear hrp hml hB
  obtain ⟨n, hn⟩ : ∃ n, n = L.length := ⟨_, rfl⟩
  have hn100 : n ≤ 100 := by rw [hn]; exact hL.1
  rw [hlen, ← hn] at BX
  rw [← hn] at hl0
  have HN := Lib.hid hn
  have HPL := Lib.hid (hlen.trans hn.symm)
  clear hn hlen hL
  have HAB := Lib.hid (fun k hk => atS_bd HLB.out k hk)
  obtain ⟨BB, hBB⟩ : ∃ BB, w.heap.size = BB := ⟨_, rfl⟩
  have HB := Lib.hid hBB
  rw [hBB]
  clear hBB
  have c0 := BX.out.cell (j := 0) (v := .slice a n c) rfl
  go_enter Tryd.func47, Tryd.ntmps47
  go_wp2
  go_loopg [3, 4, 11] n (fun gg s3 s4 s11 wr => ∃ k : Nat, k ≤ n ∧ n - k ≤ gg ∧ s11 = .int .i64 k ∧ s4 = .int .i64 (atS L k) ∧ Hid (Bw w wr) ∧ Hid (wr.ownsRow BB 83 5 s3 ((List.range k).map (fdS L)).length (flatF ((List.range k).map (fdS L)))))
  case atStart => exact ⟨0, by omega, by omega, rfl, rfl, Lib.hid (Bw.refl _), Lib.hid (World.ownsRow_nil _ _ _ _)⟩
  case round =>
    obtain ⟨k, hk, hgg, rfl, rfl, HW, O1⟩ := hrel
    by_cases hlt : k < n
    · have hkz : (k : Int) < n := by omega
      have hk0 : (0 : Int) ≤ k := by omega
      have hab := HAB.out k (by have := HN.out; omega)
      have hab2 := HAB.out (k + 1) (by have := HN.out; omega)
      have hat : L[k]? = some (L.getD k (0, false, 0)) := by
        have := HN.out
        rw [List.getD_eq_getElem?_getD, List.getElem?_eq_getElem (by omega)]; rfl
      obtain ⟨p, hp, e1, e2, e3⟩ := HM.out.at k _ hat
      obtain ⟨gid, cap, hpf, _⟩ := e3.ok
      obtain ⟨b2, o2, cc2, hv2, hcc⟩ := (HP.out.mono HW.out).at (by have := HPL.out; omega)
      injection hv2 with i1 i2 i3
      subst i1
      obtain ⟨d0, d1, d2⟩ := hcc k p hp
      rw [e1] at d0
      rw [e2] at d1
      rw [hpf] at d2
      clear hpf e3
      have HA := Lib.hid (show atS L (k + 1) = atS L k + (L.getD k (0, false, 0)).1 from rfl)
      have HF := Lib.hid (show fdS L k = ⟨atS L k, (L.getD k (0, false, 0)).1, (L.getD k (0, false, 0)).2.1, 1, 0⟩ from rfl)
      have hnb := HLB.out.2 _ (getD_mem L k (0, false, 0) (by have := HN.out; omega))
      have HT := Lib.hid (show (List.range (k + 1)).map (fdS L) = (List.range k).map (fdS L) ++ [fdS L k] by rw [List.range_succ, List.map_append]; rfl)
      have HL1 := Lib.hid (show ((List.range k).map (fdS L)).length = k by rw [List.length_map, List.length_range])
      have HAN := Lib.hid (show atS L k + (L.getD k (0, false, 0)).1 ≤ 4000 by have := HAB.out (k + 1) (by have := HN.out; omega); rw [atS] at this; omega)
      generalize (List.range k).map (fdS L) = l1 at O1 HT HL1
      generalize fdS L k = F at HF HT
      generalize atS L k = A at *
      generalize (L.getD k (0, false, 0)) = t at *
      obtain ⟨tn, tg, tj⟩ := t
      dsimp only at *
      clear hcc i2 i3 hat hp e1 e2
      have hba0 := Bw.alloc (Bw.refl wr) (.cells #[.int .i64 tn, .bool tg, .func (.func gid) #[] cap] 89)
      have PB := Lib.hid (Blk.new wr 89 #[.int .i64 tn, .bool tg, .func (.func gid) #[] cap])
      obtain ⟨gp, hgp⟩ : ∃ gp, wr.heap.size = gp := ⟨_, rfl⟩
      rw [hgp] at PB
      have c1 := HW.out.cell' c0
      go_upto_region 6 with fail
      obtain ⟨W1, hW1⟩ : ∃ W1, wr.alloc (.cells #[.int .i64 tn, .bool tg, .func (.func gid) #[] cap] 89) = W1 := ⟨_, rfl⟩
      rw [hW1] at PB hba0 ⊢
      clear hW1 hgp
      replace HW := Lib.hid (HW.out.trans hba0)
      replace O1 := Lib.hid (own_bw O1.out hba0)
      clear hba0 d0 d1 d2 c1
      have p0 := PB.out.cell (j := 0) (v := .int .i64 tn) rfl
      have p1 := PB.out.cell (j := 1) (v := .bool tg) rfl
      have hF := HF.out
      have HAN2 := HAN.out
      subst hF
      go_wp2_with (at_builtin; have hba := Bw.alloc (Bw.refl W1) (.cells #[.int .i64 A, .int .i64 tn, .bool tg, .int .i64 1, .int .i64 0] 83); have NB := Lib.hid (Blk.new W1 83 #[.int .i64 A, .int .i64 tn, .bool tg, .int .i64 1, .int .i64 0]); replace O1 := Lib.hid (own_bw O1.out hba); replace HW := Lib.hid (HW.out.trans hba); replace PB := Lib.hid (PB.out.bw hba); clear hba p0 p1; refine wpList_append_fld rfl (.tmp 15) (.tmp 22) _ rfl BB Tryd.underlying80 _ l1 ⟨A, tn, tg, 1, 0⟩ rfl O1.out _ 83 rfl NB.out (by have := HL1.out; omega) (by have := HW.out.size; have := HB.out; simp only [World.size_alloc] at *; omega) ?_; intro v8 w8 hown hgr; have p0 := (grown_blk PB.out O1.out (by decide) hgr).cell (j := 0) (v := .int .i64 tn) rfl; replace HW := Lib.hid (bw_grownP HB.out HW.out O1.out hgr); replace O1 := Lib.hid hown; clear hown hgr NB)
      go_roundg (n - (k + 1))
      case measure => omega
      case rel => exact ⟨k + 1, by omega, by omega, by go_num, by rw [HA.out], HW, Lib.hid (by rw [HT.out]; exact O1.out)⟩
    · obtain rfl : k = n := by omega
      have hkz : ¬ (k : Int) < k := by omega
      have HR := Lib.hid (own_rdF O1.out (by rw [List.length_map, List.length_range]; omega))
      have HQ := Lib.hid (show fdsS L = (List.range k).map (fdS L) by unfold fdsS; rw [← HN.out])
      go_wp2
      go_ret
      rw [HQ.out]
      exact ⟨⟨_, rfl, HR.out.1, HR.out.2⟩, HW.out⟩
end Go.Proofs.Sky
