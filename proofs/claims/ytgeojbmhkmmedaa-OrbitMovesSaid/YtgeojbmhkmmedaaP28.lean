/-
  lemmas for the theorems of this claim. No conditions beyond those written in the statements.
-/
import Derived.Test.YtgeojbmhkmmedaaM25
import Derived.Deep.RegionWith
import Derived.Deep.Cut
import Derived.Test.YtgeojbmhkmmedaaPlainA
import Derived.Test.YtgeojbmhkmmedaaFA25
import Derived.Test.YtgeojbmhkmmedaaRdAt
import Derived.BigQuiet
set_option linter.unusedVariables false
set_option linter.unusedSimpArgs false
set_option linter.unnecessarySimpa false
namespace Go.Proofs.Sky
open Go Go.RowKit Go.Shelf
set_option maxHeartbeats 1000000
theorem makeInt (n : Nat) (hn : n ≤ 1048576) (w : World) : (Instr.makeSlice 35 (.int .i64 n) (.int .i64 n)).run Try.prog w = .ok (.slice (some ⟨w.heap.size, 0, none⟩) n n) (w.alloc (.cells (madeCells #[.int .i64 0] (n * 1)) 3)) := by
  obtain ⟨i, hi, hzz⟩ := Option.map_eq_some_iff.1 infoInt
  simp only [Prod.mk.injEq] at hzz
  obtain ⟨hz, hs, hb⟩ := hzz
  have h := run_make (P := Try.prog) w 35 3 i _ Try.underlying35 hi hz .i64 .i64 n n (by omega) (by omega) (by rw [hb]; omega) (by omega)
  simpa [hs, Value.cells] using h
theorem made1 (z : Value) (n : Nat) : (madeCells #[z] (n * 1)).toList = List.replicate n z := by
  apply List.ext_getElem?
  intro j
  by_cases hj : j < n
  · simp [madeCells, hj, Nat.mod_one]
  · simp [madeCells, hj]
theorem rdI_made (n : Nat) (hn : n ≤ 1048576) (w : World) : RdI (w.alloc (.cells (madeCells #[.int .i64 0] (n * 1)) 3)) (.slice (some ⟨w.heap.size, 0, none⟩) n n) (List.replicate n 0) := by
  have h := RdI.lit w (madeCells #[.int .i64 0] (n * 1)) 3 (List.replicate n 0) (by rw [made1]; simp) (by simp; omega)
  simpa using h
def PutOk (base : Nat) (l : List Int) (e : Ending) (w' : World) : Prop := ∃ v', e = .returned (.tuple #[v', .int .i64 0]) ∧ RdI w' v' l ∧ Fresh base v'
theorem Limits_ok (a n : Int) (g : Bool) (u c lo hi : Int) (w : World) (h : fk a n u c) (h1 : c + lowR n g * u = lo) (h2 : c + highR n g * u = hi) : Calls Try.prog 57 #[.agg #[.int .i64 a, .int .i64 n, .bool g, .int .i64 u, .int .i64 c]] w fun e w' => e = .returned (.tuple #[.int .i64 lo, .int .i64 hi, .int .i64 0]) ∧ Bw w w' := by
  have := Limits_any a n g u c w
  rw [limP_ok h, h1, h2] at this
  exact this
end Go.Proofs.Sky

namespace Go.Proofs.Sky
open Go Go.RowKit Go.Shelf
set_option maxHeartbeats 4000000
set_option maxRecDepth 4000
/-! chapter 26: the fields of a frame -/
def atS (L : List (Int × Bool × Nat)) : Nat → Int
  | 0 => 0
  | k + 1 => atS L k + (L.getD k (0, false, 0)).1
def fdS (L : List (Int × Bool × Nat)) (k : Nat) : Fd := ⟨atS L k, (L.getD k (0, false, 0)).1, (L.getD k (0, false, 0)).2.1, 1, 0⟩
def fdsS (L : List (Int × Bool × Nat)) : List Fd := (List.range L.length).map (fdS L)
def okL (L : List (Int × Bool × Nat)) : Prop := L.length ≤ 100 ∧ ∀ t ∈ L, 1 ≤ t.1 ∧ t.1 ≤ 40
theorem atS_bd {L : List (Int × Bool × Nat)} (h : okL L) : ∀ k, k ≤ L.length → 0 ≤ atS L k ∧ atS L k ≤ 40 * k := by
  intro k
  induction k with
  | zero => intro _; simp [atS]
  | succ k ih =>
    intro hk
    have h1 := ih (by omega)
    have h2 := h.2 _ (getD_mem L k (0, false, 0) (by omega))
    rw [atS]; omega
theorem rdF_get {w : World} {v : Value} {fs : List Fd} (h : RdF w v fs) (h0 : 0 < fs.length) : ∃ b off c, v = .slice (some ⟨b, off, none⟩) fs.length c ∧ ∀ i f, fs[i]? = some f →
    w.cell? ⟨b, off + i * 5, none⟩ = some (.int .i64 f.a) ∧ w.cell? ⟨b, off + i * 5 + 1, none⟩ = some (.int .i64 f.n) ∧ w.cell? ⟨b, off + i * 5 + 2, none⟩ = some (.bool f.g) ∧ w.cell? ⟨b, off + i * 5 + 3, none⟩ = some (.int .i64 f.u) ∧ w.cell? ⟨b, off + i * 5 + 4, none⟩ = some (.int .i64 f.c) := by
  obtain ⟨_, a, c, hv, h4⟩ := h
  rcases h4 with h4 | ⟨b, off, h5, _, h7⟩
  · rw [h4] at h0; simp at h0
  · exact ⟨b, off, c, by rw [hv, h5], h7⟩
theorem grown_blk {a b : World} {base k n : Nat} {e : TypeId} {v : Value} {xs : List Value} {g : Nat} {T : TypeId} {cs : Array Value} (hB : Blk a g T cs) (ho : a.ownsRow base e k v n xs) (hn : T ≠ e) (hg : a.grownBy b v.ownBlock) : Blk b g T cs := by
  unfold Blk at hB ⊢
  have hlt : g < a.heap.size := (Array.getElem?_eq_some_iff.1 hB).1
  rw [hg.block g hlt ?_]
  · exact hB
  · intro e'
    rcases ho.2 with ⟨rfl, _⟩ | ⟨g', cap, cur, rfl, _, hh, _⟩
    · simp [Value.ownBlock] at e'
    · simp [Value.ownBlock] at e'
      subst e'
      rw [hh] at hB
      injection hB with hB
      injection hB with h1 h2 h3
      exact hn h2.symm
theorem layFields_any (L : List (Int × Bool × Nat)) (v : Value) (base g : Nat) (w : World) (hL : okL L) (hl0 : 0 < L.length) (hv : LayAt w base v L) (hB : Blk w g 89 #[v]) :
    Calls Try.prog 56 #[.pointer (some ⟨g, 0, none⟩)] w fun e w' => (∃ v', e = .returned v' ∧ RdF w' v' (fdsS L) ∧ Fresh w.heap.size v') ∧ Bw w w' := by
  obtain ⟨ps, hrp, hml, _⟩ := hv
  have hlen := hml.len
  have HP := Lib.hid hrp
  have HM := Lib.hid hml
  have HLB := Lib.hid hL
  obtain ⟨a, c, rfl⟩ := hrp.form
  have BX := Lib.hid hB
  clear hrp hml hB
  obtain ⟨n, hn⟩ : ∃ n, n = L.length := ⟨_, rfl⟩
  have hn100 : n ≤ 100 := by rw [hn]; exact hL.1
  rw [hlen, ← hn] at BX
  rw [← hn] at hl0
  have HN := Lib.hid hn
  have HPL := Lib.hid (hlen.trans hn.symm)
  clear hn hlen hL
  have HAB := Lib.hid (fun k hk => atS_bd HLB.out k hk)
  obtain ⟨BB, hBB⟩ : ∃ BB, w.heap.size = BB := ⟨_, rfl⟩
  have HB := Lib.hid hBB
  rw [hBB]
  clear hBB
  have c0 := BX.out.cell (j := 0) (v := .slice a n c) rfl
  go_enter Try.func56, Try.ntmps56
  go_wp2
  go_loopg [3, 4, 11] n (fun gg s3 s4 s11 wr => ∃ k : Nat, k ≤ n ∧ n - k ≤ gg ∧ s11 = .int .i64 k ∧ s4 = .int .i64 (atS L k) ∧ Hid (Bw w wr) ∧ Hid (wr.ownsRow BB 95 5 s3 ((List.range k).map (fdS L)).length (flatF ((List.range k).map (fdS L)))))
  case atStart => exact ⟨0, by omega, by omega, rfl, rfl, Lib.hid (Bw.refl _), Lib.hid (World.ownsRow_nil _ _ _ _)⟩
  case round =>
    obtain ⟨k, hk, hgg, rfl, rfl, HW, O1⟩ := hrel
    by_cases hlt : k < n
    · have hkz : (k : Int) < n := by omega
      have hk0 : (0 : Int) ≤ k := by omega
      have hab := HAB.out k (by have := HN.out; omega)
      have hab2 := HAB.out (k + 1) (by have := HN.out; omega)
      have hat : L[k]? = some (L.getD k (0, false, 0)) := by
        have := HN.out
        rw [List.getD_eq_getElem?_getD, List.getElem?_eq_getElem (by omega)]; rfl
      obtain ⟨p, hp, e1, e2, e3⟩ := HM.out.at k _ hat
      obtain ⟨gid, cap, hpf, _⟩ := e3.ok
      obtain ⟨b2, o2, cc2, hv2, hcc⟩ := (HP.out.mono HW.out).at (by have := HPL.out; omega)
      injection hv2 with i1 i2 i3
      subst i1
      obtain ⟨d0, d1, d2⟩ := hcc k p hp
      rw [e1] at d0
      rw [e2] at d1
      rw [hpf] at d2
      clear hpf e3
      have HA := Lib.hid (show atS L (k + 1) = atS L k + (L.getD k (0, false, 0)).1 from rfl)
      have HF := Lib.hid (show fdS L k = ⟨atS L k, (L.getD k (0, false, 0)).1, (L.getD k (0, false, 0)).2.1, 1, 0⟩ from rfl)
      have hnb := HLB.out.2 _ (getD_mem L k (0, false, 0) (by have := HN.out; omega))
      have HT := Lib.hid (show (List.range (k + 1)).map (fdS L) = (List.range k).map (fdS L) ++ [fdS L k] by rw [List.range_succ, List.map_append]; rfl)
      have HL1 := Lib.hid (show ((List.range k).map (fdS L)).length = k by rw [List.length_map, List.length_range])
      have HAN := Lib.hid (show atS L k + (L.getD k (0, false, 0)).1 ≤ 4000 by have := HAB.out (k + 1) (by have := HN.out; omega); rw [atS] at this; omega)
      generalize (List.range k).map (fdS L) = l1 at O1 HT HL1
      generalize fdS L k = F at HF HT
      generalize atS L k = A at *
      generalize (L.getD k (0, false, 0)) = t at *
      obtain ⟨tn, tg, tj⟩ := t
      dsimp only at *
      clear hcc i2 i3 hat hp e1 e2
      have hba0 := Bw.alloc (Bw.refl wr) (.cells #[.int .i64 tn, .bool tg, .func (.func gid) #[] cap] 101)
      have PB := Lib.hid (Blk.new wr 101 #[.int .i64 tn, .bool tg, .func (.func gid) #[] cap])
      obtain ⟨gp, hgp⟩ : ∃ gp, wr.heap.size = gp := ⟨_, rfl⟩
      rw [hgp] at PB
      have c1 := HW.out.cell' c0
      go_upto_region 6 with fail
      obtain ⟨W1, hW1⟩ : ∃ W1, wr.alloc (.cells #[.int .i64 tn, .bool tg, .func (.func gid) #[] cap] 101) = W1 := ⟨_, rfl⟩
      rw [hW1] at PB hba0 ⊢
      clear hW1 hgp
      replace HW := Lib.hid (HW.out.trans hba0)
      replace O1 := Lib.hid (own_bw O1.out hba0)
      clear hba0 d0 d1 d2 c1
      have p0 := PB.out.cell (j := 0) (v := .int .i64 tn) rfl
      have p1 := PB.out.cell (j := 1) (v := .bool tg) rfl
      have hF := HF.out
      have HAN2 := HAN.out
      subst hF
      go_wp2_with (at_builtin; have hba := Bw.alloc (Bw.refl W1) (.cells #[.int .i64 A, .int .i64 tn, .bool tg, .int .i64 1, .int .i64 0] 95); have NB := Lib.hid (Blk.new W1 95 #[.int .i64 A, .int .i64 tn, .bool tg, .int .i64 1, .int .i64 0]); replace O1 := Lib.hid (own_bw O1.out hba); replace HW := Lib.hid (HW.out.trans hba); replace PB := Lib.hid (PB.out.bw hba); clear hba p0 p1; refine wpList_append_fld rfl (.tmp 15) (.tmp 22) _ rfl BB Try.underlying92 _ l1 ⟨A, tn, tg, 1, 0⟩ rfl O1.out _ 95 rfl NB.out (by have := HL1.out; omega) (by have := HW.out.size; have := HB.out; simp only [World.size_alloc] at *; omega) ?_; intro v8 w8 hown hgr; have p0 := (grown_blk PB.out O1.out (by decide) hgr).cell (j := 0) (v := .int .i64 tn) rfl; replace HW := Lib.hid (bw_grownP HB.out HW.out O1.out hgr); replace O1 := Lib.hid hown; clear hown hgr NB)
      go_roundg (n - (k + 1))
      case measure => omega
      case rel => exact ⟨k + 1, by omega, by omega, by go_num, by rw [HA.out], HW, Lib.hid (by rw [HT.out]; exact O1.out)⟩
    · obtain rfl : k = n := by omega
      have hkz : ¬ (k : Int) < k := by omega
      have HR := Lib.hid (own_rdF O1.out (by rw [List.length_map, List.length_range]; omega))
      have HQ := Lib.hid (show fdsS L = (List.range k).map (fdS L) by unfold fdsS; rw [← HN.out])
      go_wp2
      go_ret
      rw [HQ.out]
      exact ⟨⟨_, rfl, HR.out.1, HR.out.2⟩, HW.out⟩
end Go.Proofs.Sky

namespace Go.Proofs.Sky
open Go Go.RowKit Go.Shelf
set_option maxHeartbeats 4000000
set_option maxRecDepth 4000
/-! chapter 26: which ephemerides are valid -/
def okT (x : Nat → Int) (t : Int × Bool × Nat) : Bool := decide (lowR t.1 t.2.1 ≤ x t.2.2 ∧ x t.2.2 ≤ highR t.1 t.2.1)
def errE (x : Nat → Int) : Int := if ((LS 0).all (okT x) && (LS 1).all (okT x) && (LS 2).all (okT x)) && decide (1 ≤ x 0 ∧ x 2 < 604800) then 0 else 2
def eV (x : Nat → Int) : Array Value := #[.int .i64 (x 0), .int .i64 (x 1), .int .i64 (x 2), .int .i64 (x 3), .int .i64 (x 4), .int .i64 (x 5), .int .i64 (x 6), .int .i64 (x 7), .int .i64 (x 8), .int .i64 (x 9), .int .i64 (x 10), .int .i64 (x 11), .int .i64 (x 12), .int .i64 (x 13), .int .i64 (x 14), .int .i64 (x 15), .int .i64 (x 16), .int .i64 (x 17), .int .i64 (x 18)]
theorem eV_at (x : Nat → Int) (i : Nat) (h : i < 19) : (eV x)[i]? = some (.int .i64 (x i)) := by
  match i, h with
  | 0, _ => rfl
  | 1, _ => rfl
  | 2, _ => rfl
  | 3, _ => rfl
  | 4, _ => rfl
  | 5, _ => rfl
  | 6, _ => rfl
  | 7, _ => rfl
  | 8, _ => rfl
  | 9, _ => rfl
  | 10, _ => rfl
  | 11, _ => rfl
  | 12, _ => rfl
  | 13, _ => rfl
  | 14, _ => rfl
  | 15, _ => rfl
  | 16, _ => rfl
  | 17, _ => rfl
  | 18, _ => rfl
  | n + 19, h => exact absurd h (by omega)
theorem layouts_V (w : World) : Calls Try.prog 55 #[] w fun e w' => (∃ V : Nat → Value, e = .returned (.agg #[V 0, V 1, V 2]) ∧ ∀ k, k < 3 → LayAt w' w.heap.size (V k) (LS k)) ∧ Bw w w' := by
  refine (layouts_any w).mono ?_
  rintro e w' ⟨⟨v0, v1, v2, rfl, h0, h1, h2⟩, hb⟩
  refine ⟨⟨fun k => if k = 0 then v0 else if k = 1 then v1 else v2, rfl, fun k hk => ?_⟩, hb⟩
  match k, hk with
  | 0, _ => exact h0
  | 1, _ => exact h1
  | 2, _ => exact h2
theorem okL_LS (k : Nat) : okL (LS k) ∧ 0 < (LS k).length ∧ (LS k).length ≤ 8 ∧ ∀ t ∈ LS k, t.2.2 < 19 := by
  match k with
  | 0 => exact ⟨⟨by decide, by decide⟩, by decide, by decide, by decide⟩
  | 1 => exact ⟨⟨by decide, by decide⟩, by decide, by decide, by decide⟩
  | k + 2 => exact ⟨⟨by show ([(8, false, 1), (6, false, 0), (22, true, 13), (24, true, 14), (32, true, 15), (24, true, 16), (22, true, 17), (24, true, 18)] : List (Int × Bool × Nat)).length ≤ 100; decide, by show ∀ t ∈ ([(8, false, 1), (6, false, 0), (22, true, 13), (24, true, 14), (32, true, 15), (24, true, 16), (22, true, 17), (24, true, 18)] : List (Int × Bool × Nat)), _; decide⟩, by show 0 < ([(8, false, 1), (6, false, 0), (22, true, 13), (24, true, 14), (32, true, 15), (24, true, 16), (22, true, 17), (24, true, 18)] : List (Int × Bool × Nat)).length; decide, by show ([(8, false, 1), (6, false, 0), (22, true, 13), (24, true, 14), (32, true, 15), (24, true, 16), (22, true, 17), (24, true, 18)] : List (Int × Bool × Nat)).length ≤ 8; decide, by show ∀ t ∈ ([(8, false, 1), (6, false, 0), (22, true, 13), (24, true, 14), (32, true, 15), (24, true, 16), (22, true, 17), (24, true, 18)] : List (Int × Bool × Nat)), _; decide⟩
theorem errE_bad {x : Nat → Int} {k i : Nat} (hk : k < 3) (hi : i < (LS k).length) (h : okT x ((LS k).getD i (0, false, 0)) = false) : errE x = 2 := by
  have h1 : (LS k).all (okT x) = false := by
    rw [List.all_eq_false]
    exact ⟨_, getD_mem _ _ _ hi, by rw [h]; simp⟩
  unfold errE
  rw [if_neg]
  match k, hk with
  | 0, _ => rw [h1]; simp
  | 1, _ => rw [h1]; simp
  | 2, _ => rw [h1]; simp
theorem errE_end {x : Nat → Int} (h : ∀ l, l < 3 → (LS l).all (okT x) = true) : errE x = if 1 ≤ x 0 ∧ x 2 < 604800 then 0 else 2 := by
  unfold errE
  rw [h 0 (by omega), h 1 (by omega), h 2 (by omega)]
  simp
theorem all_get {x : Nat → Int} (L : List (Int × Bool × Nat)) (h : ∀ j, j < L.length → okT x (L.getD j (0, false, 0)) = true) : L.all (okT x) = true := by
  rw [List.all_eq_true]
  intro t ht
  obtain ⟨i, hi, rfl⟩ := List.mem_iff_getElem.1 ht
  have := h i hi
  rw [List.getD_eq_getElem?_getD, List.getElem?_eq_getElem hi] at this
  exact this
theorem ECheck_any (x : Nat → Int) (w : World) : Calls Try.prog 37 #[.agg (eV x)] w fun e w' => e = .returned (.int .i64 (errE x)) ∧ Bw w w' := by
  have HBW := Lib.hid (Bw.alloc (Bw.refl w) (.cells (eV x) 25))
  have KX := Lib.hid (Blk.new w 25 (eV x))
  unfold eV at HBW KX ⊢
  have LY := Lib.hid (fun W => layouts_V W)
  have FD := Lib.hid (fun k v base g W h1 h2 => layFields_any (LS k) v base g W (okL_LS k).1 (okL_LS k).2.1 h1 h2)
  have LM := Lib.hid (fun A n g W (h : fk A n 1 0) => Limits_ok A n g 1 0 (lowR n g) (highR n g) W h (by omega) (by omega))
  have IX := Lib.hid (fun V k h w => ixL V k h w)
  obtain ⟨E, hE⟩ : ∃ E, E = errE x := ⟨_, rfl⟩
  rw [← hE]
  have HE := Lib.hid hE
  clear hE
  go_enter Try.func37, Try.ntmps37
  go_upto_region 1 with fail
  obtain ⟨W0, hW0⟩ : ∃ W0, w.alloc (.cells #[.int .i64 (x 0), .int .i64 (x 1), .int .i64 (x 2), .int .i64 (x 3), .int .i64 (x 4), .int .i64 (x 5), .int .i64 (x 6), .int .i64 (x 7), .int .i64 (x 8), .int .i64 (x 9), .int .i64 (x 10), .int .i64 (x 11), .int .i64 (x 12), .int .i64 (x 13), .int .i64 (x 14), .int .i64 (x 15), .int .i64 (x 16), .int .i64 (x 17), .int .i64 (x 18)] 25) = W0 := ⟨_, rfl⟩
  rw [hW0] at HBW KX ⊢
  clear hW0
  replace KX := Lib.hid (show Blk W0 w.heap.size 25 (eV x) from KX.out)
  go_wp2_with (go_at_call 55; (with_reducible refine Calls.mono (LY.out _) ?_); rintro e1 w1 ⟨⟨V, rfl, hl9⟩, hb9⟩; have HL := Lib.hid hl9; replace HBW := Lib.hid (HBW.out.trans hb9); replace KX := Lib.hid (KX.out.bw hb9); clear hl9 hb9)
  go_loopg [12] 3 (fun gg s12 wr => ∃ k : Nat, k ≤ 3 ∧ 3 - k ≤ gg ∧ s12 = .int .i64 k ∧ Hid (∀ l, l < k → (LS l).all (okT x) = true) ∧ Hid (Bw w1 wr))
  case atStart => exact ⟨0, by omega, by omega, rfl, Lib.hid (fun l h => by omega), Lib.hid (Bw.refl _)⟩
  case round =>
    obtain ⟨k, hk, hgg, rfl, HA, HW⟩ := hrel
    obtain ⟨wa, rfl⟩ : ∃ wa, wa = wr := ⟨_, rfl⟩
    by_cases hlt : k < 3
    · have hkz : (k : Int) < 3 := by omega
      have hk0 : (0 : Int) ≤ k := by omega
      have hx := fun W => IX.out V k hlt W
      have hla := (HL.out k hlt).mono HW.out
      obtain ⟨a4, c4, hv4⟩ := hla.form
      have HBK := Lib.hid (fun i hi h => HE.out.trans (errE_bad hlt (i := i) hi h))
      have HOK := Lib.hid (okL_LS k)
      have HNX := Lib.hid (fun h => (fun l (hl : l < k + 1) => (by rcases Nat.lt_succ_iff_lt_or_eq.1 hl with h9 | rfl; exact HA.out l h9; exact all_get (LS l) h : (LS l).all (okT x) = true)))
      have FDK := Lib.hid (fun v base g W h1 h2 => FD.out k v base g W h1 h2)
      generalize LS k = L at hla hv4 HBK HOK HNX FDK
      obtain ⟨n, hn⟩ : ∃ n, n = L.length := ⟨_, rfl⟩
      rw [← hn] at hv4
      have HN := Lib.hid hn
      clear hn
      rw [hv4] at hx hla
      have HLA := Lib.hid hla
      clear hla hv4
      have BX := Lib.hid (Blk.new wa 89 #[.slice a4 n c4])
      have hba := Bw.alloc (Bw.refl wa) (.cells #[.slice a4 n c4] 89)
      obtain ⟨g4, hg4⟩ : ∃ g4, wa.heap.size = g4 := ⟨_, rfl⟩
      rw [hg4] at BX
      go_upto_region 4 with fail
      obtain ⟨W1, hW1⟩ : ∃ W1, wa.alloc (.cells #[.slice a4 n c4] 89) = W1 := ⟨_, rfl⟩
      rw [hW1] at BX hba ⊢
      clear hW1 hg4
      replace HW := Lib.hid (HW.out.trans hba)
      replace HLA := Lib.hid (HLA.out.mono hba)
      clear hba hx
      go_wp2_with (go_at_call 56; (with_reducible refine Calls.mono (FDK.out _ _ _ _ HLA.out BX.out) ?_); rintro e2 w2 ⟨⟨v15, rfl, hr9, _⟩, hb9⟩; obtain ⟨a15, c15, hv15⟩ := hr9.form; have HRF := Lib.hid hr9; replace HW := Lib.hid (HW.out.trans hb9); replace HLA := Lib.hid (HLA.out.mono hb9); replace BX := Lib.hid (BX.out.bw hb9); clear hr9 hb9; replace hv15 : v15 = .slice a15 n c15 := (by rw [hv15, show (fdsS L).length = n from (by unfold fdsS; rw [List.length_map, List.length_range]; exact HN.out.symm)]); subst hv15)
      go_loopg [17] 8 (fun gg s17 wr => ∃ i : Nat, i ≤ n ∧ n - i ≤ gg ∧ s17 = .int .i64 i ∧ Hid (∀ j, j < i → okT x (L.getD j (0, false, 0)) = true) ∧ Hid (Bw w2 wr))
      case atStart => exact ⟨0, by omega, by have := HN.out; have := HOK.out.2.2.1; omega, rfl, Lib.hid (fun j h => by omega), Lib.hid (Bw.refl _)⟩
      case round =>
        obtain ⟨i, hi, hgg2, rfl, HI, HX⟩ := hrel
        obtain ⟨wb, rfl⟩ : ∃ wb, wb = wr := ⟨_, rfl⟩
        by_cases hil : i < n
        · have hiz : (i : Int) < n := by omega
          have hi0 : (0 : Int) ≤ i := by omega
          have hiL : i < L.length := by have := HN.out; omega
          have hat : L[i]? = some (L.getD i (0, false, 0)) := by rw [List.getD_eq_getElem?_getD, List.getElem?_eq_getElem hiL]; rfl
          have hff : (fdsS L)[i]? = some (fdS L i) := by unfold fdsS; rw [List.getElem?_map, List.getElem?_range hiL]; rfl
          obtain ⟨bf, of_, cf, hvf, hcf⟩ := rdF_get (HRF.out.mono HX.out) (by unfold fdsS; rw [List.length_map, List.length_range]; omega)
          injection hvf with i1 i2 i3
          subst i1
          obtain ⟨f0, f1, f2, f3, f4⟩ := hcf i _ hff
          have hab := atS_bd HOK.out.1 i (by omega)
          have hln := HOK.out.1.1
          have hnb := HOK.out.1.2 _ (getD_mem L i (0, false, 0) hiL)
          have hjb := HOK.out.2.2.2 _ (getD_mem L i (0, false, 0) hiL)
          have hl8 := HOK.out.2.2.1
          have HBI := Lib.hid (fun h => HBK.out i hiL h)
          have HII := Lib.hid (fun (h : okT x (L.getD i (0, false, 0)) = true) => (fun j (hj : j < i + 1) => (by rcases Nat.lt_succ_iff_lt_or_eq.1 hj with h9 | rfl; exact HI.out j h9; exact h : okT x (L.getD j (0, false, 0)) = true)))
          obtain ⟨ps, q1, q2, _⟩ := (HLA.out.mono HX.out)
          obtain ⟨p, hp, e1, e2, e3⟩ := q2.at i _ hat
          obtain ⟨gid, cap, hpf, eg, hcall⟩ := e3.ok
          have HCL := Lib.hid hcall
          obtain ⟨bp, op, cp, hvp, hcp⟩ := q1.at (by have := q2.len; omega)
          injection hvp with j1 j2 j3
          subst j1
          obtain ⟨_, _, d2⟩ := hcp i p hp
          rw [hpf] at d2
          unfold fdS at f0 f1 f2 f3 f4
          dsimp only at f0 f1 f2 f3 f4
          generalize atS L i = A at *
          generalize (L.getD i (0, false, 0)) = t at *
          obtain ⟨tn, tg, tj⟩ := t
          dsimp only at hnb hjb f0 f1 f2 f3 f4 HCL
          have LMX := Lib.hid (fun W => LM.out A tn tg W (by unfold fk; omega))
          have hb8 := BX.out.bw HX.out
          have g0 := hb8.cell (j := 0) (v := .slice (some ⟨bp, op, none⟩) n c4) rfl
          have kx : wb.cell? ⟨w.heap.size, tj, none⟩ = some (.int .i64 (x tj)) := ((KX.out.bw (HW.out.trans HX.out)).cell (eV_at x tj hjb))
          clear hcall hcp hcf i2 i3 j2 j3 hat hff hp e1 e2 e3 q1 q2 hpf hb8
          have hzz : okT x (tn, tg, tj) = decide (lowR tn tg ≤ x tj ∧ x tj ≤ highR tn tg) := rfl
          rw [hzz] at HBI HII
          clear hzz
          generalize x tj = z at *
          generalize lowR tn tg = lo at *
          generalize highR tn tg = hg at *
          by_cases z1 : z < lo
          · have HG := Lib.hid (HBI.out (decide_eq_false (by omega)))
            clear HBI HII
            go_wp2_with (first | (go_at_call 57; (with_reducible refine Calls.mono (LMX.out _) ?_); rintro e3 w3 ⟨rfl, hb9⟩; have hbt : Bw wb w3 := (Bw.alloc (Bw.refl wb) (.cells #[.int .i64 A, .int .i64 tn, .bool tg, .int .i64 1, .int .i64 0] 95)).trans hb9; replace HX := Lib.hid (HX.out.trans hbt); have HT := Lib.hid hbt; replace kx := hbt.cell' kx; replace g0 := hbt.cell' g0; replace d2 := hbt.cell' d2; clear hbt hb9 f0 f1 f2 f3 f4) | (go_at_fn gid; refine Calls.mono (HCL.out _ HT.out _) ?_; rintro e4 w4 ⟨rfl, hb9⟩; replace HX := Lib.hid (HX.out.trans hb9); replace kx := hb9.cell' kx; clear hb9 g0 d2))
            go_ret
            exact ⟨ret_int HG.out.symm, HBW.out.trans (HW.out.trans HX.out)⟩
          by_cases z2 : hg < z
          · have HG := Lib.hid (HBI.out (decide_eq_false (by omega)))
            clear HBI HII
            go_wp2_with (first | (go_at_call 57; (with_reducible refine Calls.mono (LMX.out _) ?_); rintro e3 w3 ⟨rfl, hb9⟩; have hbt : Bw wb w3 := (Bw.alloc (Bw.refl wb) (.cells #[.int .i64 A, .int .i64 tn, .bool tg, .int .i64 1, .int .i64 0] 95)).trans hb9; replace HX := Lib.hid (HX.out.trans hbt); have HT := Lib.hid hbt; replace kx := hbt.cell' kx; replace g0 := hbt.cell' g0; replace d2 := hbt.cell' d2; clear hbt hb9 f0 f1 f2 f3 f4) | (go_at_fn gid; refine Calls.mono (HCL.out _ HT.out _) ?_; rintro e4 w4 ⟨rfl, hb9⟩; replace HX := Lib.hid (HX.out.trans hb9); replace kx := hb9.cell' kx; clear hb9 g0 d2))
            go_ret
            exact ⟨ret_int HG.out.symm, HBW.out.trans (HW.out.trans HX.out)⟩
          · have HG := Lib.hid (HII.out (decide_eq_true (by omega)))
            clear HBI HII
            go_wp2_with (first | (go_at_call 57; (with_reducible refine Calls.mono (LMX.out _) ?_); rintro e3 w3 ⟨rfl, hb9⟩; have hbt : Bw wb w3 := (Bw.alloc (Bw.refl wb) (.cells #[.int .i64 A, .int .i64 tn, .bool tg, .int .i64 1, .int .i64 0] 95)).trans hb9; replace HX := Lib.hid (HX.out.trans hbt); have HT := Lib.hid hbt; replace kx := hbt.cell' kx; replace g0 := hbt.cell' g0; replace d2 := hbt.cell' d2; clear hbt hb9 f0 f1 f2 f3 f4) | (go_at_fn gid; refine Calls.mono (HCL.out _ HT.out _) ?_; rintro e4 w4 ⟨rfl, hb9⟩; replace HX := Lib.hid (HX.out.trans hb9); replace kx := hb9.cell' kx; clear hb9 g0 d2))
            go_roundg (n - (i + 1))
            case measure => omega
            case rel => exact ⟨i + 1, by omega, by omega, by go_num, HG, HX⟩
        · obtain rfl : i = n := by omega
          have hiz : ¬ (i : Int) < i := by omega
          have HA2 := Lib.hid (HNX.out (fun j h => HI.out j (by have := HN.out; omega)))
          go_wp2
          go_roundg (3 - (k + 1))
          case measure => omega
          case rel => exact ⟨k + 1, by omega, by omega, by go_num, HA2, Lib.hid (HW.out.trans HX.out)⟩
    · obtain rfl : k = 3 := by omega
      have HEN := Lib.hid (HE.out.trans (errE_end HA.out))
      have hkx := KX.out.bw HW.out
      have k0 := hkx.cell (eV_at x 0 (by omega))
      have k2 := hkx.cell (eV_at x 2 (by omega))
      clear hkx
      by_cases z1 : x 0 < 1
      · have HG := Lib.hid (HEN.out.trans (if_neg (by omega)))
        clear HEN
        go_wp2
        go_ret
        exact ⟨ret_int HG.out.symm, HBW.out.trans HW.out⟩
      by_cases z2 : 604800 ≤ x 2
      · have HG := Lib.hid (HEN.out.trans (if_neg (by omega)))
        clear HEN
        go_wp2
        go_ret
        exact ⟨ret_int HG.out.symm, HBW.out.trans HW.out⟩
      · have HG := Lib.hid (HEN.out.trans (if_pos (by omega)))
        clear HEN
        go_wp2
        go_ret
        exact ⟨ret_int HG.out.symm, HBW.out.trans HW.out⟩
end Go.Proofs.Sky

namespace Go.Proofs.Sky
/-- the number from 0 to k-1 that any number selects -/
def bel (n k : Int) : Int := if k < 1 then 0 else n % k
theorem bel_bd (n k : Int) (h : 1 ≤ k) : 0 ≤ bel n k ∧ bel n k < k := by
  unfold bel; rw [if_neg (by omega)]
  exact ⟨Int.emod_nonneg _ (by omega), Int.emod_lt_of_pos _ (by omega)⟩
def nth (zs : List Int) (i : Int) : Int := if i < 0 ∨ (zs.length : Int) ≤ i then 0 else zs.getD i.toNat 0
theorem tmod_way (n k : Int) (h : 1 ≤ k) : ∃ r, n.tmod k = r ∧ -k < r ∧ r < k ∧ ((r < 0 ∧ n % k = r + k) ∨ (0 ≤ r ∧ n % k = r)) := by
  refine ⟨n.tmod k, rfl, ?_⟩
  have a := Int.emod_nonneg n (show k ≠ 0 by omega)
  have b := Int.emod_lt_of_pos n (show 0 < k by omega)
  by_cases hn : 0 ≤ n
  · rw [Int.tmod_eq_emod_of_nonneg hn]; exact ⟨by omega, by omega, .inr ⟨a, rfl⟩⟩
  · have e : n.tmod k = -((-n) % k) := by
      have := Int.neg_tmod (-n) k; rw [Int.neg_neg] at this; rw [this, Int.tmod_eq_emod_of_nonneg (by omega)]
    have c := Int.emod_nonneg (-n) (show k ≠ 0 by omega)
    have d := Int.emod_lt_of_pos (-n) (show 0 < k by omega)
    have f := Int.mul_ediv_add_emod (-n) k
    have g := Int.mul_ediv_add_emod n k
    rw [e]
    refine ⟨by omega, by omega, ?_⟩
    by_cases hz : (-n) % k = 0
    · right
      refine ⟨by omega, ?_⟩
      have : k ∣ n := by have := Int.dvd_of_emod_eq_zero hz; exact (Int.dvd_neg).1 this
      rw [Int.emod_eq_zero_of_dvd this, hz]; rfl
    · left
      refine ⟨by omega, ?_⟩
      have h1 : n = k * (-((-n) / k) - 1) + (k - (-n) % k) := by rw [Int.mul_sub, Int.mul_neg]; omega
      have h2 : n % k = (k - (-n) % k) % k := by
        conv => lhs; rw [h1]
        rw [Int.add_comm, Int.add_mul_emod_self_left]
      rw [h2, Int.emod_eq_of_lt (by omega) (by omega)]; omega
end Go.Proofs.Sky

namespace Go.Proofs.Sky
open Go Go.RowKit Go.Shelf
set_option maxHeartbeats 4000000
set_option maxRecDepth 8000
/-! chapter 26: the reference's within and Check -/
theorem RdI.litN (w : World) (cs : Array Value) (t : TypeId) (zs : List Int) (n : Nat) (hn : w.heap.size = n) (h : cs.toList = zs.map (Value.int .i64)) (hl : zs.length ≤ 9223372036854775807) : RdI (w.alloc (.cells cs t)) (.slice (some ⟨n, 0, none⟩) zs.length zs.length) zs := by
  subst hn; exact RdI.lit w cs t zs h hl
def okZ (b z : Int) : Bool := decide (lowR b true ≤ z ∧ z ≤ highR b true)
theorem okZ_T (x : Nat → Int) (b : Int) (j : Nat) : okT x (b, true, j) = okZ b (x j) := rfl
theorem rwithin26_any (n b : Int) (hb : b = 16 ∨ b = 22 ∨ b = 24 ∨ b = 32) (w : World) : Calls Try.prog 59 #[.int .i64 n, .int .i64 b] w fun e w' => e = .returned (.bool (okZ b n)) ∧ Bw w w' := by
  obtain ⟨O, hO⟩ : ∃ O, O = okZ b n := ⟨_, rfl⟩
  rw [← hO]
  rcases hb with rfl | rfl | rfl | rfl
  · have HO := Lib.hid (hO.trans (show okZ 16 n = decide (-32768 ≤ n ∧ n < 32768) from decide_eq_decide.2 (by rw [show lowR 16 true = -32768 from by decide, show highR 16 true = 32767 from by decide]; omega)))
    clear hO
    by_cases q1 : n < -32768
    · have q1b : decide (-32768 ≤ n) = false := decide_eq_false (by omega)
      have HG := Lib.hid (HO.out.trans (decide_eq_false (by omega)))
      go_enter Try.func59, Try.ntmps59
      go_wp2
      go_ret
      exact ⟨ret_bool HG.out.symm, Bw.refl _⟩
    · have q1b : decide (-32768 ≤ n) = true := decide_eq_true (by omega)
      have HG := Lib.hid (HO.out.trans (show _ = decide (n < 32768) from decide_eq_decide.2 (by omega)))
      go_enter Try.func59, Try.ntmps59
      go_wp2
      go_ret
      exact ⟨ret_bool HG.out.symm, Bw.refl _⟩
  · have HO := Lib.hid (hO.trans (show okZ 22 n = decide (-2097152 ≤ n ∧ n < 2097152) from decide_eq_decide.2 (by rw [show lowR 22 true = -2097152 from by decide, show highR 22 true = 2097151 from by decide]; omega)))
    clear hO
    by_cases q1 : n < -2097152
    · have q1b : decide (-2097152 ≤ n) = false := decide_eq_false (by omega)
      have HG := Lib.hid (HO.out.trans (decide_eq_false (by omega)))
      go_enter Try.func59, Try.ntmps59
      go_wp2
      go_ret
      exact ⟨ret_bool HG.out.symm, Bw.refl _⟩
    · have q1b : decide (-2097152 ≤ n) = true := decide_eq_true (by omega)
      have HG := Lib.hid (HO.out.trans (show _ = decide (n < 2097152) from decide_eq_decide.2 (by omega)))
      go_enter Try.func59, Try.ntmps59
      go_wp2
      go_ret
      exact ⟨ret_bool HG.out.symm, Bw.refl _⟩
  · have HO := Lib.hid (hO.trans (show okZ 24 n = decide (-8388608 ≤ n ∧ n < 8388608) from decide_eq_decide.2 (by rw [show lowR 24 true = -8388608 from by decide, show highR 24 true = 8388607 from by decide]; omega)))
    clear hO
    by_cases q1 : n < -8388608
    · have q1b : decide (-8388608 ≤ n) = false := decide_eq_false (by omega)
      have HG := Lib.hid (HO.out.trans (decide_eq_false (by omega)))
      go_enter Try.func59, Try.ntmps59
      go_wp2
      go_ret
      exact ⟨ret_bool HG.out.symm, Bw.refl _⟩
    · have q1b : decide (-8388608 ≤ n) = true := decide_eq_true (by omega)
      have HG := Lib.hid (HO.out.trans (show _ = decide (n < 8388608) from decide_eq_decide.2 (by omega)))
      go_enter Try.func59, Try.ntmps59
      go_wp2
      go_ret
      exact ⟨ret_bool HG.out.symm, Bw.refl _⟩
  · have HO := Lib.hid (hO.trans (show okZ 32 n = decide (-2147483648 ≤ n ∧ n < 2147483648) from decide_eq_decide.2 (by rw [show lowR 32 true = -2147483648 from by decide, show highR 32 true = 2147483647 from by decide]; omega)))
    clear hO
    by_cases q1 : n < -2147483648
    · have q1b : decide (-2147483648 ≤ n) = false := decide_eq_false (by omega)
      have HG := Lib.hid (HO.out.trans (decide_eq_false (by omega)))
      go_enter Try.func59, Try.ntmps59
      go_wp2
      go_ret
      exact ⟨ret_bool HG.out.symm, Bw.refl _⟩
    · have q1b : decide (-2147483648 ≤ n) = true := decide_eq_true (by omega)
      have HG := Lib.hid (HO.out.trans (show _ = decide (n < 2147483648) from decide_eq_decide.2 (by omega)))
      go_enter Try.func59, Try.ntmps59
      go_wp2
      go_ret
      exact ⟨ret_bool HG.out.symm, Bw.refl _⟩
def clB (i : Nat) : Int := if i = 0 then 32 else if i = 1 then 24 else 16
def axB (i : Nat) : Int := if i = 0 then 32 else if i = 2 then 22 else 24
theorem clB_ok (i : Nat) : clB i = 16 ∨ clB i = 22 ∨ clB i = 24 ∨ clB i = 32 := by unfold clB; split; · simp
                                                                                   split <;> simp
theorem axB_ok (i : Nat) : axB i = 16 ∨ axB i = 22 ∨ axB i = 24 ∨ axB i = 32 := by unfold axB; split; · simp
                                                                                   split <;> simp
theorem errE_cl {x : Nat → Int} {i : Nat} (hi : i < 3) (h : okZ (clB i) (x (4 + i)) = false) : errE x = 2 := by
  match i, hi with
  | 0, _ => exact errE_bad (k := 0) (i := 4) (by decide) (by decide) h
  | 1, _ => exact errE_bad (k := 0) (i := 5) (by decide) (by decide) h
  | 2, _ => exact errE_bad (k := 0) (i := 6) (by decide) (by decide) h
theorem errE_ax {x : Nat → Int} {i : Nat} (hi : i < 4) (h : okZ (axB i) (x (7 + i)) = false ∨ okZ (axB i) (x (11 + i)) = false ∨ okZ (axB i) (x (15 + i)) = false) : errE x = 2 := by
  match i, hi with
  | 0, _ => exact h.elim (errE_bad (k := 1) (i := 2) (by decide) (by decide)) (fun h => h.elim (errE_bad (k := 1) (i := 6) (by decide) (by decide)) (errE_bad (k := 2) (i := 4) (by decide) (by decide)))
  | 1, _ => exact h.elim (errE_bad (k := 1) (i := 3) (by decide) (by decide)) (fun h => h.elim (errE_bad (k := 1) (i := 7) (by decide) (by decide)) (errE_bad (k := 2) (i := 5) (by decide) (by decide)))
  | 2, _ => exact h.elim (errE_bad (k := 1) (i := 4) (by decide) (by decide)) (fun h => h.elim (errE_bad (k := 2) (i := 2) (by decide) (by decide)) (errE_bad (k := 2) (i := 6) (by decide) (by decide)))
  | 3, _ => exact h.elim (errE_bad (k := 1) (i := 5) (by decide) (by decide)) (fun h => h.elim (errE_bad (k := 2) (i := 3) (by decide) (by decide)) (errE_bad (k := 2) (i := 7) (by decide) (by decide)))
def hdE (x : Nat → Int) : Prop := 1 ≤ x 0 ∧ x 0 ≤ 63 ∧ 0 ≤ x 1 ∧ x 1 ≤ 255 ∧ 0 ≤ x 2 ∧ x 2 ≤ 604799 ∧ 0 ≤ x 3 ∧ x 3 ≤ 65535
theorem okT_un {x : Nat → Int} {b hi : Int} {j : Nat} (h : highR b false = hi) : okT x (b, false, j) = decide (0 ≤ x j ∧ x j ≤ hi) := by
  subst h; rfl
theorem errE_yes {x : Nat → Int} (h : hdE x) (h2 : ∀ i, i < 3 → okZ (clB i) (x (4 + i)) = true) (h3 : ∀ i, i < 4 → okZ (axB i) (x (7 + i)) = true ∧ okZ (axB i) (x (11 + i)) = true ∧ okZ (axB i) (x (15 + i)) = true) : errE x = 0 := by
  have u8 : ∀ j, okT x (8, false, j) = decide (0 ≤ x j ∧ x j ≤ 255) := fun j => okT_un (by decide)
  have u6 : ∀ j, okT x (6, false, j) = decide (0 ≤ x j ∧ x j ≤ 63) := fun j => okT_un (by decide)
  have u20 : ∀ j, okT x (20, false, j) = decide (0 ≤ x j ∧ x j ≤ 1048575) := fun j => okT_un (by decide)
  have u16 : ∀ j, okT x (16, false, j) = decide (0 ≤ x j ∧ x j ≤ 65535) := fun j => okT_un (by decide)
  have e0 : (LS 0).all (okT x) = (okT x (8, false, 1) && (okT x (6, false, 0) && (okT x (20, false, 2) && (okT x (16, false, 3) && (okZ 32 (x 4) && (okZ 24 (x 5) && (okZ 16 (x 6) && true))))))) := rfl
  have e1 : (LS 1).all (okT x) = (okT x (8, false, 1) && (okT x (6, false, 0) && (okZ 32 (x 7) && (okZ 24 (x 8) && (okZ 22 (x 9) && (okZ 24 (x 10) && (okZ 32 (x 11) && (okZ 24 (x 12) && true)))))))) := rfl
  have e2 : (LS 2).all (okT x) = (okT x (8, false, 1) && (okT x (6, false, 0) && (okZ 22 (x 13) && (okZ 24 (x 14) && (okZ 32 (x 15) && (okZ 24 (x 16) && (okZ 22 (x 17) && (okZ 24 (x 18) && true)))))))) := rfl
  obtain ⟨a1, a2, a3, a4, a5, a6, a7, a8⟩ := h
  have c0 : okZ 32 (x 4) = true := h2 0 (by omega)
  have c1 : okZ 24 (x 5) = true := h2 1 (by omega)
  have c2 : okZ 16 (x 6) = true := h2 2 (by omega)
  have d0 : okZ 32 (x 7) = true ∧ okZ 32 (x 11) = true ∧ okZ 32 (x 15) = true := h3 0 (by omega)
  have d1 : okZ 24 (x 8) = true ∧ okZ 24 (x 12) = true ∧ okZ 24 (x 16) = true := h3 1 (by omega)
  have d2 : okZ 22 (x 9) = true ∧ okZ 22 (x 13) = true ∧ okZ 22 (x 17) = true := h3 2 (by omega)
  have d3 : okZ 24 (x 10) = true ∧ okZ 24 (x 14) = true ∧ okZ 24 (x 18) = true := h3 3 (by omega)
  unfold errE
  rw [e0, e1, e2, u8, u6, u20, u16, c0, c1, c2, d0.1, d0.2.1, d0.2.2, d1.1, d1.2.1, d1.2.2, d2.1, d2.2.1, d2.2.2, d3.1, d3.2.1, d3.2.2, decide_eq_true (show 0 ≤ x 1 ∧ x 1 ≤ 255 by omega), decide_eq_true (show 0 ≤ x 0 ∧ x 0 ≤ 63 by omega), decide_eq_true (show 0 ≤ x 2 ∧ x 2 ≤ 1048575 by omega), decide_eq_true (show 0 ≤ x 3 ∧ x 3 ≤ 65535 by omega), decide_eq_true (show 1 ≤ x 0 ∧ x 2 < 604800 by omega)]
  rfl
theorem errE_hd {x : Nat → Int} (h : ¬ hdE x) : errE x = 2 := by
  have u8 : ∀ j, okT x (8, false, j) = decide (0 ≤ x j ∧ x j ≤ 255) := fun j => okT_un (by decide)
  have u6 : ∀ j, okT x (6, false, j) = decide (0 ≤ x j ∧ x j ≤ 63) := fun j => okT_un (by decide)
  have u20 : ∀ j, okT x (20, false, j) = decide (0 ≤ x j ∧ x j ≤ 1048575) := fun j => okT_un (by decide)
  have u16 : ∀ j, okT x (16, false, j) = decide (0 ≤ x j ∧ x j ≤ 65535) := fun j => okT_un (by decide)
  have e0 : (LS 0).all (okT x) = (okT x (8, false, 1) && (okT x (6, false, 0) && (okT x (20, false, 2) && (okT x (16, false, 3) && (okZ 32 (x 4) && (okZ 24 (x 5) && (okZ 16 (x 6) && true))))))) := rfl
  unfold errE
  rw [if_neg]
  intro h9
  apply h
  simp only [Bool.and_eq_true] at h9
  rw [e0, u8, u6, u20, u16] at h9
  simp only [Bool.and_eq_true, decide_eq_true_eq] at h9
  obtain ⟨⟨⟨⟨b1, b2, b3, b4, _⟩, _⟩, _⟩, b5⟩ := h9
  unfold hdE
  omega
theorem errE_parts {x : Nat → Int} (h : errE x = 0) : hdE x ∧ (∀ i, i < 3 → okZ (clB i) (x (4 + i)) = true) ∧ (∀ i, i < 4 → okZ (axB i) (x (7 + i)) = true ∧ okZ (axB i) (x (11 + i)) = true ∧ okZ (axB i) (x (15 + i)) = true) := by
  refine ⟨Classical.byContradiction fun h9 => ?_, fun i hi => ?_, fun i hi => ⟨?_, ?_, ?_⟩⟩
  · rw [errE_hd h9] at h; cases h
  · cases hq : okZ (clB i) (x (4 + i)) with
    | true => rfl
    | false => rw [errE_cl hi hq] at h; cases h
  · cases hq : okZ (axB i) (x (7 + i)) with
    | true => rfl
    | false => rw [errE_ax hi (.inl hq)] at h; cases h
  · cases hq : okZ (axB i) (x (11 + i)) with
    | true => rfl
    | false => rw [errE_ax hi (.inr (.inl hq))] at h; cases h
  · cases hq : okZ (axB i) (x (15 + i)) with
    | true => rfl
    | false => rw [errE_ax hi (.inr (.inr hq))] at h; cases h
end Go.Proofs.Sky

namespace Go.Proofs.Sky
open Go Go.RowKit Go.Shelf
set_option maxHeartbeats 4000000
set_option maxRecDepth 8000
/-! chapter 26: the reference's Check -/
theorem rCheck26_any (x : Nat → Int) (w : World) : Calls Try.prog 45 #[.agg (eV x)] w fun e w' => e = .returned (.int .i64 (errE x)) ∧ Bw w w' := by
  have HBW := Lib.hid (Bw.alloc (Bw.refl w) (.cells (eV x) 25))
  have KX := Lib.hid (Blk.new w 25 (eV x))
  have HD := Lib.hid (fun h => errE_hd (x := x) h)
  have HCL := Lib.hid (fun i h h2 => errE_cl (x := x) (i := i) h h2)
  have HAX := Lib.hid (fun i h h2 => errE_ax (x := x) (i := i) h h2)
  have HYES := Lib.hid (fun h h2 h3 => errE_yes (x := x) h h2 h3)
  have RW := Lib.hid (fun n b hb W => rwithin26_any n b hb W)
  generalize errE x = E at HD HCL HAX HYES ⊢
  go_enter Try.func45, Try.ntmps45
  go_upto_region 1 with fail
  obtain ⟨W0, hW0⟩ : ∃ W0, w.alloc (.cells (eV x) 25) = W0 := ⟨_, rfl⟩
  rw [hW0] at HBW KX ⊢
  clear hW0
  have c0 : W0.cell? ⟨w.heap.size, 0, none⟩ = some (.int .i64 (x 0)) := KX.out.cell (eV_at x 0 (by omega))
  have c1 : W0.cell? ⟨w.heap.size, 1, none⟩ = some (.int .i64 (x 1)) := KX.out.cell (eV_at x 1 (by omega))
  have c2 : W0.cell? ⟨w.heap.size, 2, none⟩ = some (.int .i64 (x 2)) := KX.out.cell (eV_at x 2 (by omega))
  have c3 : W0.cell? ⟨w.heap.size, 3, none⟩ = some (.int .i64 (x 3)) := KX.out.cell (eV_at x 3 (by omega))
  by_cases q0 : x 0 < 1
  case pos =>
    have HG := Lib.hid (HD.out (fun h => by unfold hdE at h; omega))
    go_wp2
    go_ret
    exact ⟨ret_int HG.out.symm, HBW.out⟩
  by_cases q1 : 63 < x 0
  case pos =>
    have HG := Lib.hid (HD.out (fun h => by unfold hdE at h; omega))
    go_wp2
    go_ret
    exact ⟨ret_int HG.out.symm, HBW.out⟩
  by_cases q2 : x 1 < 0
  case pos =>
    have HG := Lib.hid (HD.out (fun h => by unfold hdE at h; omega))
    go_wp2
    go_ret
    exact ⟨ret_int HG.out.symm, HBW.out⟩
  by_cases q3 : 255 < x 1
  case pos =>
    have HG := Lib.hid (HD.out (fun h => by unfold hdE at h; omega))
    go_wp2
    go_ret
    exact ⟨ret_int HG.out.symm, HBW.out⟩
  by_cases q4 : x 2 < 0
  case pos =>
    have HG := Lib.hid (HD.out (fun h => by unfold hdE at h; omega))
    go_wp2
    go_ret
    exact ⟨ret_int HG.out.symm, HBW.out⟩
  by_cases q5 : 604799 < x 2
  case pos =>
    have HG := Lib.hid (HD.out (fun h => by unfold hdE at h; omega))
    go_wp2
    go_ret
    exact ⟨ret_int HG.out.symm, HBW.out⟩
  by_cases q6 : x 3 < 0
  case pos =>
    have HG := Lib.hid (HD.out (fun h => by unfold hdE at h; omega))
    go_wp2
    go_ret
    exact ⟨ret_int HG.out.symm, HBW.out⟩
  by_cases q7 : 65535 < x 3
  case pos =>
    have HG := Lib.hid (HD.out (fun h => by unfold hdE at h; omega))
    go_wp2
    go_ret
    exact ⟨ret_int HG.out.symm, HBW.out⟩
  have HH := Lib.hid (show hdE x by unfold hdE; omega)
  go_upto_region 3 with fail
  clear c0 c1 c2 c3 q0 q1 q2 q3 q4 q5 q6 q7
  go_upto_region 4 with fail
  have L1 := RdI.litN W0 #[.int .i64 32, .int .i64 24, .int .i64 16] 3 [32, 24, 16] W0.heap.size rfl (by rfl) (by simp)
  have L2 := RdI.litN (W0.alloc (.cells #[.int .i64 32, .int .i64 24, .int .i64 16] 3)) #[.int .i64 32, .int .i64 24, .int .i64 22, .int .i64 24] 3 [32, 24, 22, 24] (W0.heap.size + 1) (by simp [World.size_alloc]) (by rfl) (by simp)
  obtain ⟨B1, hB1⟩ : ∃ B1, W0.heap.size = B1 := ⟨_, rfl⟩
  have HB1 := Lib.hid hB1
  rw [hB1] at L1 L2
  have KY := Lib.hid ((KX.out.alloc (.cells #[.int .i64 32, .int .i64 24, .int .i64 16] 3)).alloc (.cells #[.int .i64 32, .int .i64 24, .int .i64 22, .int .i64 24] 3))
  have HBY := Lib.hid (Bw.alloc (Bw.alloc HBW.out (.cells #[.int .i64 32, .int .i64 24, .int .i64 16] 3)) (.cells #[.int .i64 32, .int .i64 24, .int .i64 22, .int .i64 24] 3))
  replace L1 := L1.mono (Bw.alloc (Bw.refl _) (.cells #[.int .i64 32, .int .i64 24, .int .i64 22, .int .i64 24] 3))
  rw [hB1]
  obtain ⟨W1, hW1⟩ : ∃ W1, (W0.alloc (.cells #[.int .i64 32, .int .i64 24, .int .i64 16] 3)).alloc (.cells #[.int .i64 32, .int .i64 24, .int .i64 22, .int .i64 24] 3) = W1 := ⟨_, rfl⟩
  rw [hW1] at KY HBY L1 L2 ⊢
  clear hW1 hB1 KX HBW
  have HL1 := Lib.hid (show ∀ i, i < 3 → W1.cell? ⟨B1, i, none⟩ = some (.int .i64 (clB i)) from fun i hi => by
    obtain ⟨b, o, c, hv, _, hc⟩ := L1.at (by decide)
    injection hv with a1 a2 a3
    injection a1 with a1
    injection a1 with a1 a4 a5
    subst a1 a4
    have h9 := hc i hi
    rw [Nat.zero_add] at h9
    match i, hi with
    | 0, _ => exact h9
    | 1, _ => exact h9
    | 2, _ => exact h9)
  have HL2 := Lib.hid (show ∀ i, i < 4 → W1.cell? ⟨B1 + 1, i, none⟩ = some (.int .i64 (axB i)) from fun i hi => by
    obtain ⟨b, o, c, hv, _, hc⟩ := L2.at (by decide)
    injection hv with a1 a2 a3
    injection a1 with a1
    injection a1 with a1 a4 a5
    subst a1 a4
    have h9 := hc i hi
    rw [Nat.zero_add] at h9
    match i, hi with
    | 0, _ => exact h9
    | 1, _ => exact h9
    | 2, _ => exact h9
    | 3, _ => exact h9)
  clear L1 L2
  go_wp2
  go_loopg [5] 3 (fun gg s5 wr => ∃ i : Nat, i ≤ 3 ∧ 3 - i ≤ gg ∧ s5 = .int .i64 i ∧ Hid (Bw W1 wr) ∧ Hid (∀ j, j < i → okZ (clB j) (x (4 + j)) = true))
  case atStart => exact ⟨0, by omega, by omega, rfl, Lib.hid (Bw.refl _), Lib.hid (fun j h => absurd h (by omega))⟩
  case round =>
    obtain ⟨i, hi, hgg, rfl, HW, HI⟩ := hrel
    obtain ⟨wa, rfl⟩ : ∃ wa, wa = wr := ⟨_, rfl⟩
    by_cases hlt : i < 3
    · have hiz : (i : Int) < 3 := by omega
      have hi0 : (0 : Int) ≤ i := by omega
      have cx := (KY.out.bw HW.out).cell (eV_at x (4 + i) (by omega))
      have cb := HW.out.cell' (HL1.out i hlt)
      have RWI := Lib.hid (fun W => RW.out (x (4 + i)) (clB i) (clB_ok i) W)
      have HCI := Lib.hid (HCL.out i hlt)
      have HIN := Lib.hid (fun h => (fun j (hj : j < i + 1) => (by
        rcases Nat.lt_succ_iff_lt_or_eq.1 hj with h9 | rfl
        · exact HI.out j h9
        · exact h) : ∀ j, j < i + 1 → okZ (clB j) (x (4 + j)) = true))
      generalize okZ (clB i) (x (4 + i)) = K at RWI HCI HIN
      generalize clB i = bz at cb RWI
      generalize x (4 + i) = z at cx RWI
      go_upto_region 7 with fail
      have e1 := fun p' : Ext wa => Ext.cell' cx p'
      have e2 := fun p' : Ext wa => Ext.cell' cb p'
      clear cx cb
      cases K with
      | false =>
        have HG := Lib.hid (HCI.out rfl)
        (refine wp_region_quiet_ext (by kernel_rfl) (by kernel_rfl) ?_; (repeat (go_big_quiet_step (((go_at_call 59; exact Calls.ext_of (RWI.out _)))))); refine wpQuiet_nil ?_; rintro wq ⟨⟨_, hbq⟩, rfl⟩; obtain ⟨hccq, hffq⟩ := Bw.cells hbq; have hszq := Bw.size hbq)
        replace HW := Lib.hid (HW.out.trans hbq)
        clear e1 e2
        go_wp2
        go_ret
        exact ⟨ret_int HG.out.symm, HBY.out.trans HW.out⟩
      | true =>
        have HG := Lib.hid (HIN.out rfl)
        (refine wp_region_quiet_ext (by kernel_rfl) (by kernel_rfl) ?_; (repeat (go_big_quiet_step (((go_at_call 59; exact Calls.ext_of (RWI.out _)))))); refine wpQuiet_nil ?_; rintro wq ⟨⟨_, hbq⟩, rfl⟩; obtain ⟨hccq, hffq⟩ := Bw.cells hbq; have hszq := Bw.size hbq)
        replace HW := Lib.hid (HW.out.trans hbq)
        clear e1 e2
        go_wp2
        go_roundg (3 - (i + 1))
        case measure => omega
        case rel => exact ⟨i + 1, by omega, by omega, by go_num, HW, HG⟩
    · obtain rfl : i = 3 := by omega
      have HCY := HI
      go_upto_region 9 with fail
      replace HBY := Lib.hid (HBY.out.trans HW.out)
      replace KY := Lib.hid (KY.out.bw HW.out)
      replace HL2 := Lib.hid (fun i hi => HW.out.cell' (HL2.out i hi))
      clear HW HI HL1 HCL
      go_wp2
      go_loopg [6] 4 (fun gg s6 wr => ∃ i : Nat, i ≤ 4 ∧ 4 - i ≤ gg ∧ s6 = .int .i64 i ∧ Hid (Bw wa wr) ∧ Hid (∀ j, j < i → okZ (axB j) (x (7 + j)) = true ∧ okZ (axB j) (x (11 + j)) = true ∧ okZ (axB j) (x (15 + j)) = true))
      case atStart => exact ⟨0, by omega, by omega, rfl, Lib.hid (Bw.refl _), Lib.hid (fun j h => absurd h (by omega))⟩
      case round =>
        clear hi hgg hlt
        obtain ⟨i, hi, hgg, rfl, HW, HI⟩ := hrel
        obtain ⟨wb, rfl⟩ : ∃ wb, wb = wr := ⟨_, rfl⟩
        by_cases hlt : i < 4
        · have hiz : (i : Int) < 4 := by omega
          have hi0 : (0 : Int) ≤ i := by omega
          have cx := (KY.out.bw HW.out).cell (eV_at x (7 + i) (by omega))
          have cy := (KY.out.bw HW.out).cell (eV_at x (11 + i) (by omega))
          have cz := (KY.out.bw HW.out).cell (eV_at x (15 + i) (by omega))
          have cb := HW.out.cell' (HL2.out i hlt)
          have RX := Lib.hid (fun W => RW.out (x (7 + i)) (axB i) (axB_ok i) W)
          have RY := Lib.hid (fun W => RW.out (x (11 + i)) (axB i) (axB_ok i) W)
          have RZ := Lib.hid (fun W => RW.out (x (15 + i)) (axB i) (axB_ok i) W)
          have HCI := Lib.hid (HAX.out i hlt)
          have HIN := Lib.hid (fun h => (fun j (hj : j < i + 1) => (by
            rcases Nat.lt_succ_iff_lt_or_eq.1 hj with h9 | rfl
            · exact HI.out j h9
            · exact h) : ∀ j, j < i + 1 → okZ (axB j) (x (7 + j)) = true ∧ okZ (axB j) (x (11 + j)) = true ∧ okZ (axB j) (x (15 + j)) = true))
          generalize okZ (axB i) (x (7 + i)) = K1 at RX HCI HIN
          generalize okZ (axB i) (x (11 + i)) = K2 at RY HCI HIN
          generalize okZ (axB i) (x (15 + i)) = K3 at RZ HCI HIN
          generalize axB i = bz at cb RX RY RZ
          generalize x (7 + i) = zx at cx RX
          generalize x (11 + i) = zy at cy RY
          generalize x (15 + i) = zz at cz RZ
          go_upto_region 12 with fail
          have e1 := fun p' : Ext wb => Ext.cell' cx p'
          have e2 := fun p' : Ext wb => Ext.cell' cy p'
          have e3 := fun p' : Ext wb => Ext.cell' cz p'
          have e4 := fun p' : Ext wb => Ext.cell' cb p'
          clear cx cy cz cb
          cases K1 with
          | false =>
            have HG := Lib.hid (HCI.out (.inl rfl))
            (refine wp_region_quiet_ext (by kernel_rfl) (by kernel_rfl) ?_; (repeat (go_big_quiet_step (((go_at_call 59; exact Calls.ext_of (RX.out _)))))); refine wpQuiet_nil ?_; rintro wq ⟨⟨_, hbq⟩, rfl⟩; obtain ⟨hccq, hffq⟩ := Bw.cells hbq; have hszq := Bw.size hbq)
            replace HW := Lib.hid (HW.out.trans hbq)
            clear e1 e2 e3 e4
            go_wp2
            go_ret
            exact ⟨ret_int HG.out.symm, HBY.out.trans HW.out⟩
          | true =>
            cases K2 with
            | false =>
              have HG := Lib.hid (HCI.out (.inr (.inl rfl)))
              (refine wp_region_quiet_ext (by kernel_rfl) (by kernel_rfl) ?_; (repeat (go_big_quiet_step (((go_at_call 59; first | with_reducible exact Calls.ext_of (RX.out _) | with_reducible exact Calls.ext_of (RY.out _)))))); refine wpQuiet_nil ?_; rintro wq ⟨⟨_, hbq⟩, rfl⟩; obtain ⟨hccq, hffq⟩ := Bw.cells hbq; have hszq := Bw.size hbq)
              replace HW := Lib.hid (HW.out.trans hbq)
              clear e1 e2 e3 e4
              go_wp2
              go_ret
              exact ⟨ret_int HG.out.symm, HBY.out.trans HW.out⟩
            | true =>
              cases K3 with
              | false =>
                have HG := Lib.hid (HCI.out (.inr (.inr rfl)))
                (refine wp_region_quiet_ext (by kernel_rfl) (by kernel_rfl) ?_; (repeat (go_big_quiet_step (((go_at_call 59; first | with_reducible exact Calls.ext_of (RX.out _) | with_reducible exact Calls.ext_of (RY.out _) | with_reducible exact Calls.ext_of (RZ.out _)))))); refine wpQuiet_nil ?_; rintro wq ⟨⟨_, hbq⟩, rfl⟩; obtain ⟨hccq, hffq⟩ := Bw.cells hbq; have hszq := Bw.size hbq)
                replace HW := Lib.hid (HW.out.trans hbq)
                clear e1 e2 e3 e4
                go_wp2
                go_ret
                exact ⟨ret_int HG.out.symm, HBY.out.trans HW.out⟩
              | true =>
                have HG := Lib.hid (HIN.out ⟨rfl, rfl, rfl⟩)
                (refine wp_region_quiet_ext (by kernel_rfl) (by kernel_rfl) ?_; (repeat (go_big_quiet_step (((go_at_call 59; first | with_reducible exact Calls.ext_of (RX.out _) | with_reducible exact Calls.ext_of (RY.out _) | with_reducible exact Calls.ext_of (RZ.out _)))))); refine wpQuiet_nil ?_; rintro wq ⟨⟨_, hbq⟩, rfl⟩; obtain ⟨hccq, hffq⟩ := Bw.cells hbq; have hszq := Bw.size hbq)
                replace HW := Lib.hid (HW.out.trans hbq)
                clear e1 e2 e3 e4
                go_wp2
                go_roundg (4 - (i + 1))
                case measure => omega
                case rel => exact ⟨i + 1, by omega, by omega, by go_num, HW, HG⟩
        · obtain rfl : i = 4 := by omega
          have HG := Lib.hid (HYES.out HH.out HCY.out HI.out)
          go_wp2
          go_ret
          exact ⟨ret_int HG.out.symm, HBY.out.trans HW.out⟩
end Go.Proofs.Sky

namespace Go.Proofs.Sky
open Go Go.RowKit
/-- all but one block is kept -/
structure Kx (g : Nat) (w w' : World) : Prop where
  b : Below g w w'
  oth : ∀ b, b < w.heap.size → b ≠ g → w'.heap[b]? = w.heap[b]?
theorem Kx.size {g : Nat} {w w' : World} (h : Kx g w w') : w.heap.size ≤ w'.heap.size := Below.size h.b
theorem Kx.of_bw {g : Nat} {w w' : World} (h : Bw w w') (hg : g ≤ w.heap.size) : Kx g w w' := ⟨Below.mono h hg, fun b hb _ => h.out.block b hb⟩
theorem Kx.trans {g : Nat} {a b c : World} (h : Kx g a b) (k : Kx g b c) : Kx g a c :=
  ⟨Below.trans h.b k.b, fun x hx hn => (k.oth x (Nat.lt_of_lt_of_le hx h.size) hn).trans (h.oth x hx hn)⟩
theorem Kx.blk {g b : Nat} {w w' : World} {T : TypeId} {cs : Array Value} (h : Kx g w w') (hB : Blk w b T cs) (hn : b ≠ g) : Blk w' b T cs := (h.oth b hB.lt hn).trans hB
theorem Kx.bw {g : Nat} {a w w' : World} (h : Kx g w w') (hb : Bw a w) (hg : a.heap.size ≤ g) : Bw a w' := Below.trans hb (Below.mono h.b hg)
theorem Kx.set {g j : Nat} {w : World} (hg : g < w.heap.size) (v : Value) : Kx g w (w.setCell ⟨g, j, none⟩ v) :=
  ⟨Below.setCell (p := ⟨g, j, none⟩) (Below.refl g w) (Nat.le_refl g) v, fun b _ hn => heap_setCell_other w ⟨g, j, none⟩ b v (by simpa using hn)⟩
theorem Kx.rdI {g base : Nat} {w w' : World} {v : Value} {zs : List Int} (h : Kx g w w') (hr : RdI w v zs) (hf : Fresh base v) (hg : g < base) : RdI w' v zs := by
  obtain ⟨h2, a, cap, rfl, h4⟩ := hr
  refine ⟨h2, a, cap, rfl, ?_⟩
  rcases h4 with h4 | ⟨b', off, rfl, h6, h7⟩
  · exact .inl h4
  · have := hf b' rfl
    refine .inr ⟨b', off, rfl, Nat.lt_of_lt_of_le h6 h.size, fun i hi => ?_⟩
    rw [World.cell?_of_block (h.oth b' h6 (by omega))]; exact h7 i hi
end Go.Proofs.Sky

namespace Go.Proofs.Sky
/-! chapter 28, plain: numbers of 256 bits by digits of 64 bits -/
def d64 (N i : Nat) : Nat := N / 18446744073709551616 ^ i % 18446744073709551616
theorem d64_lt (N i : Nat) : d64 N i < 18446744073709551616 := Nat.mod_lt _ (by decide)
theorem q_pos (i : Nat) : 0 < 18446744073709551616 ^ i := Nat.pow_pos (by decide)
theorem mod_succ (A i : Nat) : A % 18446744073709551616 ^ (i + 1) = A % 18446744073709551616 ^ i + 18446744073709551616 ^ i * d64 A i := by
  rw [Nat.pow_succ, Nat.mod_mul]; rfl
/-- the carry into digit i of a sum -/
def cA (A B i : Nat) : Nat := (A % 18446744073709551616 ^ i + B % 18446744073709551616 ^ i) / 18446744073709551616 ^ i
theorem cA_zero (A B : Nat) : cA A B 0 = 0 := by simp [cA, Nat.mod_one]
theorem cA_le (A B i : Nat) : cA A B i ≤ 1 := by
  unfold cA
  have h0 := q_pos i
  have h1 := Nat.mod_lt A h0
  have h2 := Nat.mod_lt B h0
  generalize 18446744073709551616 ^ i = p at *
  have : (A % p + B % p) / p < 2 := by rw [Nat.div_lt_iff_lt_mul h0]; omega
  omega
theorem div_sum (p a r : Nat) (hp : 0 < p) : (r + p * a) / p = r / p + a := Nat.add_mul_div_left r a hp
theorem add_div3 (A B p : Nat) (hp : 0 < p) : (A + B) / p = A / p + B / p + (A % p + B % p) / p := by
  have e : A + B = (A % p + B % p) + p * (A / p + B / p) := by
    have h1 := Nat.mod_add_div A p
    have h2 := Nat.mod_add_div B p
    rw [Nat.mul_add]; omega
  rw [e, div_sum _ _ _ hp]
  omega
theorem d64_add (A B i : Nat) : d64 (A + B) i = (d64 A i + d64 B i + cA A B i) % 18446744073709551616 := by
  unfold d64 cA
  rw [add_div3 A B _ (q_pos i)]
  omega
theorem cA_succ (A B i : Nat) : cA A B (i + 1) = (d64 A i + d64 B i + cA A B i) / 18446744073709551616 := by
  have h : cA A B (i + 1) = (A % 18446744073709551616 ^ (i + 1) + B % 18446744073709551616 ^ (i + 1)) / (18446744073709551616 ^ i * 18446744073709551616) := by unfold cA; rw [← Nat.pow_succ]
  rw [h, mod_succ, mod_succ, ← Nat.div_div_eq_div_mul]
  have e : A % 18446744073709551616 ^ i + 18446744073709551616 ^ i * d64 A i + (B % 18446744073709551616 ^ i + 18446744073709551616 ^ i * d64 B i) = (A % 18446744073709551616 ^ i + B % 18446744073709551616 ^ i) + 18446744073709551616 ^ i * (d64 A i + d64 B i) := by rw [Nat.mul_add]; omega
  rw [e, div_sum _ _ _ (q_pos i)]
  congr 1
  show cA A B i + _ = _
  omega
def M256 : Nat := 115792089237316195423570985008687907853269984665640564039457584007913129639936
theorem M256_eq : M256 = 18446744073709551616 ^ 4 := by decide
theorem low_add (A j i : Nat) (h : i ≤ 4) : (A + M256 * j) % 18446744073709551616 ^ i = A % 18446744073709551616 ^ i := by
  have e : M256 * j = 18446744073709551616 ^ i * (18446744073709551616 ^ (4 - i) * j) := by
    rw [M256_eq, ← Nat.mul_assoc, ← Nat.pow_add, Nat.add_sub_cancel' h]
  rw [e, Nat.add_mul_mod_self_left]
theorem d64_low {A B : Nat} (i : Nat) (h : A % 18446744073709551616 ^ (i + 1) = B % 18446744073709551616 ^ (i + 1)) : d64 A i = d64 B i := by
  have h1 : ∀ X : Nat, d64 X i = X % 18446744073709551616 ^ (i + 1) / 18446744073709551616 ^ i := fun X => by
    rw [mod_succ, div_sum _ _ _ (q_pos i), Nat.div_eq_of_lt (Nat.mod_lt _ (q_pos i)), Nat.zero_add]
  rw [h1, h1, h]
/-- the borrow into digit i of a difference -/
def bS (A B i : Nat) : Nat := if A % 18446744073709551616 ^ i < B % 18446744073709551616 ^ i then 1 else 0
theorem bS_zero (A B : Nat) : bS A B 0 = 0 := by simp [bS, Nat.mod_one]
theorem bS_le (A B i : Nat) : bS A B i ≤ 1 := by unfold bS; split <;> omega
theorem bS_cA {A B T : Nat} (h : T + B = A + M256) (i : Nat) (hi : i ≤ 4) : cA T B i = bS A B i := by
  have h1 := low_add A 1 i hi
  rw [Nat.mul_one, ← h] at h1
  unfold cA bS
  have h0 := q_pos i
  have h2 := Nat.mod_lt T h0
  have h3 := Nat.mod_lt B h0
  have h4 := Nat.mod_lt A h0
  have h5 : (T + B) % 18446744073709551616 ^ i = (T % 18446744073709551616 ^ i + B % 18446744073709551616 ^ i) % 18446744073709551616 ^ i := Nat.add_mod _ _ _
  rw [h1] at h5
  generalize 18446744073709551616 ^ i = p at *
  generalize A % p = a at *
  generalize B % p = b at *
  generalize T % p = t at *
  by_cases hc : t + b < p
  · rw [Nat.mod_eq_of_lt hc] at h5
    rw [Nat.div_eq_of_lt hc, if_neg (by omega)]
  · have h6 : (t + b) % p = t + b - p := by rw [Nat.mod_eq_sub_mod (by omega), Nat.mod_eq_of_lt (by omega)]
    have h7 : (t + b) / p = 1 := by rw [Nat.div_eq_sub_div h0 (by omega), Nat.div_eq_of_lt (by omega)]
    rw [h7, if_pos (by omega)]
theorem d64_sub {A B T : Nat} (h : T + B = A + M256) (i : Nat) (hi : i < 4) : (d64 A i + 18446744073709551616 - d64 B i - bS A B i) % 18446744073709551616 = d64 T i ∧ (if d64 A i < d64 B i + bS A B i then 1 else 0) = bS A B (i + 1) := by
  have e1 := d64_add T B i
  have e2 : d64 (T + B) i = d64 A i := by
    rw [h]
    have := low_add A 1 (i + 1) (by omega)
    rw [Nat.mul_one] at this
    exact d64_low i this
  have e3 := cA_succ T B i
  rw [bS_cA h i (by omega)] at e1 e3
  rw [bS_cA h (i + 1) (by omega)] at e3
  rw [e2] at e1
  have b1 := d64_lt A i
  have b2 := d64_lt B i
  have b3 := d64_lt T i
  have b4 := bS_le A B i
  generalize d64 A i = a at *
  generalize d64 B i = b at *
  generalize d64 T i = t at *
  generalize bS A B i = c at *
  rw [e3]
  refine ⟨by omega, ?_⟩
  split <;> omega
theorem bS_four {A B : Nat} (hA : A < M256) (hB : B < M256) : bS A B 4 = if A < B then 1 else 0 := by
  unfold bS
  rw [← M256_eq, Nat.mod_eq_of_lt hA, Nat.mod_eq_of_lt hB]
/-- the carry into digit i of a product with one digit -/
def cM (N m i : Nat) : Nat := N % 18446744073709551616 ^ i * m / 18446744073709551616 ^ i
theorem cM_zero (N m : Nat) : cM N m 0 = 0 := by simp [cM, Nat.mod_one]
theorem cM_lt (N m i : Nat) (hm : 0 < m) : cM N m i < m := by
  unfold cM
  rw [Nat.div_lt_iff_lt_mul (q_pos i)]
  have h := Nat.mod_lt N (q_pos i)
  calc N % 18446744073709551616 ^ i * m < 18446744073709551616 ^ i * m := Nat.mul_lt_mul_of_pos_right h hm
    _ = m * 18446744073709551616 ^ i := Nat.mul_comm _ _
theorem cM_le (N m i : Nat) : cM N m i ≤ m := by
  by_cases h : m = 0
  · subst h; simp [cM]
  · exact Nat.le_of_lt (cM_lt N m i (by omega))
theorem mul_div3 (N m p : Nat) (hp : 0 < p) : N * m / p = N / p * m + N % p * m / p := by
  have e : N * m = N % p * m + p * (N / p * m) := by
    have h1 := Nat.mod_add_div N p
    calc N * m = (N % p + p * (N / p)) * m := by rw [h1]
      _ = _ := by rw [Nat.add_mul, Nat.mul_assoc]
  rw [e, div_sum _ _ _ hp]
  omega
theorem d64_mul (N m i : Nat) : d64 (N * m) i = (d64 N i * m + cM N m i) % 18446744073709551616 := by
  have h : d64 (N * m) i = (N / 18446744073709551616 ^ i * m + cM N m i) % 18446744073709551616 := by
    unfold d64 cM
    rw [mul_div3 N m _ (q_pos i)]
  rw [h, Nat.add_mod, Nat.mul_mod, Nat.add_mod (d64 N i * m), Nat.mul_mod (d64 N i)]
  unfold d64
  rw [Nat.mod_mod]
theorem cM_succ (N m i : Nat) : cM N m (i + 1) = (d64 N i * m + cM N m i) / 18446744073709551616 := by
  have h : cM N m (i + 1) = N % 18446744073709551616 ^ (i + 1) * m / (18446744073709551616 ^ i * 18446744073709551616) := by unfold cM; rw [← Nat.pow_succ]
  rw [h, mod_succ, ← Nat.div_div_eq_div_mul, Nat.add_mul, Nat.mul_assoc, div_sum _ _ _ (q_pos i)]
  congr 1
  show cM N m i + _ = _
  omega
end Go.Proofs.Sky
