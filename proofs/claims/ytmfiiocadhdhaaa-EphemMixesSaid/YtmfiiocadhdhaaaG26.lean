/-
  lemmas for the theorems of this claim. No conditions beyond those written in the statements.
-/
import Derived.Test.YtmfiiocadhdhaaaM25
import Derived.Deep.RegionWith
import Derived.Deep.Cut
import Derived.Test.YtmfiiocadhdhaaaPlainA
import Derived.Test.YtmfiiocadhdhaaaFA25
set_option linter.unusedVariables false
set_option linter.unusedSimpArgs false
set_option linter.unnecessarySimpa false
namespace Go.Proofs.Sky
open Go Go.RowKit Go.Shelf
set_option maxHeartbeats 1000000
theorem makeInt (n : Nat) (hn : n ≤ 1048576) (w : World) : (Instr.makeSlice 40 (.int .i64 n) (.int .i64 n)).run Try.prog w = .ok (.slice (some ⟨w.heap.size, 0, none⟩) n n) (w.alloc (.cells (madeCells #[.int .i64 0] (n * 1)) 3)) := by
  obtain ⟨i, hi, hzz⟩ := Option.map_eq_some_iff.1 infoInt
  simp only [Prod.mk.injEq] at hzz
  obtain ⟨hz, hs, hb⟩ := hzz
  have h := run_make (P := Try.prog) w 40 3 i _ Try.underlying40 hi hz .i64 .i64 n n (by omega) (by omega) (by rw [hb]; omega) (by omega)
  simpa [hs, Value.cells] using h
theorem made1 (z : Value) (n : Nat) : (madeCells #[z] (n * 1)).toList = List.replicate n z := by
  apply List.ext_getElem?
  intro j
  by_cases hj : j < n
  · simp [madeCells, hj, Nat.mod_one]
  · simp [madeCells, hj]
theorem rdI_made (n : Nat) (hn : n ≤ 1048576) (w : World) : RdI (w.alloc (.cells (madeCells #[.int .i64 0] (n * 1)) 3)) (.slice (some ⟨w.heap.size, 0, none⟩) n n) (List.replicate n 0) := by
  have h := RdI.lit w (madeCells #[.int .i64 0] (n * 1)) 3 (List.replicate n 0) (by rw [made1]; simp) (by simp; omega)
  simpa using h
def PutOk (base : Nat) (l : List Int) (e : Ending) (w' : World) : Prop := ∃ v', e = .returned (.tuple #[v', .int .i64 0]) ∧ RdI w' v' l ∧ Fresh base v'
theorem Get_ok (zs : List Int) (v : Value) (a n : Int) (g : Bool) (u c x : Int) (w : World) (hv : RdI w v zs) (h1 : errT zs a n u c = 0) (h2 : getV zs a.toNat n.toNat g u c = x) : Calls Try.prog 70 #[v, .agg #[.int .i64 a, .int .i64 n, .bool g, .int .i64 u, .int .i64 c]] w fun e w' => e = .returned (.tuple #[.int .i64 x, .int .i64 0]) ∧ Bw w w' := by
  have := Get_any zs v a n g u c w hv
  unfold GetP getR at this
  rw [h1, if_pos rfl, h2] at this
  exact this
theorem Limits_ok (a n : Int) (g : Bool) (u c lo hi : Int) (w : World) (h : fk a n u c) (h1 : c + lowR n g * u = lo) (h2 : c + highR n g * u = hi) : Calls Try.prog 33 #[.agg #[.int .i64 a, .int .i64 n, .bool g, .int .i64 u, .int .i64 c]] w fun e w' => e = .returned (.tuple #[.int .i64 lo, .int .i64 hi, .int .i64 0]) ∧ Bw w w' := by
  have := Limits_any a n g u c w
  rw [limP_ok h, h1, h2] at this
  exact this
theorem alike_same (xs : List Int) (v1 v2 : Value) (w : World) (h1 : RdI w v1 xs) (h2 : RdI w v2 xs) : Calls Try.prog 35 #[v1, v2] w fun e w' => e = .returned (.bool true) ∧ Bw w w' := by
  have := alike_any xs xs v1 v2 w h1 h2
  simpa using this
end Go.Proofs.Sky

namespace Go.Proofs.Sky
open Go Go.RowKit Go.Shelf
set_option maxHeartbeats 4000000
set_option maxRecDepth 4000
/-! chapter 26: the fields of a frame -/
def atS (L : List (Int × Bool × Nat)) : Nat → Int
  | 0 => 0
  | k + 1 => atS L k + (L.getD k (0, false, 0)).1
def fdS (L : List (Int × Bool × Nat)) (k : Nat) : Fd := ⟨atS L k, (L.getD k (0, false, 0)).1, (L.getD k (0, false, 0)).2.1, 1, 0⟩
def fdsS (L : List (Int × Bool × Nat)) : List Fd := (List.range L.length).map (fdS L)
def okL (L : List (Int × Bool × Nat)) : Prop := L.length ≤ 100 ∧ ∀ t ∈ L, 1 ≤ t.1 ∧ t.1 ≤ 40
theorem atS_bd {L : List (Int × Bool × Nat)} (h : okL L) : ∀ k, k ≤ L.length → 0 ≤ atS L k ∧ atS L k ≤ 40 * k := by
  intro k
  induction k with
  | zero => intro _; simp [atS]
  | succ k ih =>
    intro hk
    have h1 := ih (by omega)
    have h2 := h.2 _ (getD_mem L k (0, false, 0) (by omega))
    rw [atS]; omega
theorem rdF_get {w : World} {v : Value} {fs : List Fd} (h : RdF w v fs) (h0 : 0 < fs.length) : ∃ b off c, v = .slice (some ⟨b, off, none⟩) fs.length c ∧ ∀ i f, fs[i]? = some f →
    w.cell? ⟨b, off + i * 5, none⟩ = some (.int .i64 f.a) ∧ w.cell? ⟨b, off + i * 5 + 1, none⟩ = some (.int .i64 f.n) ∧ w.cell? ⟨b, off + i * 5 + 2, none⟩ = some (.bool f.g) ∧ w.cell? ⟨b, off + i * 5 + 3, none⟩ = some (.int .i64 f.u) ∧ w.cell? ⟨b, off + i * 5 + 4, none⟩ = some (.int .i64 f.c) := by
  obtain ⟨_, a, c, hv, h4⟩ := h
  rcases h4 with h4 | ⟨b, off, h5, _, h7⟩
  · rw [h4] at h0; simp at h0
  · exact ⟨b, off, c, by rw [hv, h5], h7⟩
theorem grown_blk {a b : World} {base k n : Nat} {e : TypeId} {v : Value} {xs : List Value} {g : Nat} {T : TypeId} {cs : Array Value} (hB : Blk a g T cs) (ho : a.ownsRow base e k v n xs) (hn : T ≠ e) (hg : a.grownBy b v.ownBlock) : Blk b g T cs := by
  unfold Blk at hB ⊢
  have hlt : g < a.heap.size := (Array.getElem?_eq_some_iff.1 hB).1
  rw [hg.block g hlt ?_]
  · exact hB
  · intro e'
    rcases ho.2 with ⟨rfl, _⟩ | ⟨g', cap, cur, rfl, _, hh, _⟩
    · simp [Value.ownBlock] at e'
    · simp [Value.ownBlock] at e'
      subst e'
      rw [hh] at hB
      injection hB with hB
      injection hB with h1 h2 h3
      exact hn h2.symm
theorem layFields_any (L : List (Int × Bool × Nat)) (v : Value) (base g : Nat) (w : World) (hL : okL L) (hl0 : 0 < L.length) (hv : LayAt w base v L) (hB : Blk w g 63 #[v]) :
    Calls Try.prog 31 #[.pointer (some ⟨g, 0, none⟩)] w fun e w' => (∃ v', e = .returned v' ∧ RdF w' v' (fdsS L) ∧ Fresh w.heap.size v') ∧ Bw w w' := by
  obtain ⟨ps, hrp, hml, _⟩ := hv
  have hlen := hml.len
  have HP := Lib.hid hrp
  have HM := Lib.hid hml
  have HLB := Lib.hid hL
  obtain ⟨a, c, rfl⟩ := hrp.form
  have BX := Lib.hid hB
  clear hrp hml hB
  obtain ⟨n, hn⟩ : ∃ n, n = L.length := ⟨_, rfl⟩
  have hn100 : n ≤ 100 := by rw [hn]; exact hL.1
  rw [hlen, ← hn] at BX
  rw [← hn] at hl0
  have HN := Lib.hid hn
  have HPL := Lib.hid (hlen.trans hn.symm)
  clear hn hlen hL
  have HAB := Lib.hid (fun k hk => atS_bd HLB.out k hk)
  obtain ⟨BB, hBB⟩ : ∃ BB, w.heap.size = BB := ⟨_, rfl⟩
  have HB := Lib.hid hBB
  rw [hBB]
  clear hBB
  have c0 := BX.out.cell (j := 0) (v := .slice a n c) rfl
  go_enter Try.func31, Try.ntmps31
  go_wp2
  go_loopg [3, 4, 11] n (fun gg s3 s4 s11 wr => ∃ k : Nat, k ≤ n ∧ n - k ≤ gg ∧ s11 = .int .i64 k ∧ s4 = .int .i64 (atS L k) ∧ Hid (Bw w wr) ∧ Hid (wr.ownsRow BB 81 5 s3 ((List.range k).map (fdS L)).length (flatF ((List.range k).map (fdS L)))))
  case atStart => exact ⟨0, by omega, by omega, rfl, rfl, Lib.hid (Bw.refl _), Lib.hid (World.ownsRow_nil _ _ _ _)⟩
  case round =>
    obtain ⟨k, hk, hgg, rfl, rfl, HW, O1⟩ := hrel
    by_cases hlt : k < n
    · have hkz : (k : Int) < n := by omega
      have hk0 : (0 : Int) ≤ k := by omega
      have hab := HAB.out k (by have := HN.out; omega)
      have hab2 := HAB.out (k + 1) (by have := HN.out; omega)
      have hat : L[k]? = some (L.getD k (0, false, 0)) := by
        have := HN.out
        rw [List.getD_eq_getElem?_getD, List.getElem?_eq_getElem (by omega)]; rfl
      obtain ⟨p, hp, e1, e2, e3⟩ := HM.out.at k _ hat
      obtain ⟨gid, cap, hpf, _⟩ := e3.ok
      obtain ⟨b2, o2, cc2, hv2, hcc⟩ := (HP.out.mono HW.out).at (by have := HPL.out; omega)
      injection hv2 with i1 i2 i3
      subst i1
      obtain ⟨d0, d1, d2⟩ := hcc k p hp
      rw [e1] at d0
      rw [e2] at d1
      rw [hpf] at d2
      clear hpf e3
      have HA := Lib.hid (show atS L (k + 1) = atS L k + (L.getD k (0, false, 0)).1 from rfl)
      have HF := Lib.hid (show fdS L k = ⟨atS L k, (L.getD k (0, false, 0)).1, (L.getD k (0, false, 0)).2.1, 1, 0⟩ from rfl)
      have hnb := HLB.out.2 _ (getD_mem L k (0, false, 0) (by have := HN.out; omega))
      have HT := Lib.hid (show (List.range (k + 1)).map (fdS L) = (List.range k).map (fdS L) ++ [fdS L k] by rw [List.range_succ, List.map_append]; rfl)
      have HL1 := Lib.hid (show ((List.range k).map (fdS L)).length = k by rw [List.length_map, List.length_range])
      have HAN := Lib.hid (show atS L k + (L.getD k (0, false, 0)).1 ≤ 4000 by have := HAB.out (k + 1) (by have := HN.out; omega); rw [atS] at this; omega)
      generalize (List.range k).map (fdS L) = l1 at O1 HT HL1
      generalize fdS L k = F at HF HT
      generalize atS L k = A at *
      generalize (L.getD k (0, false, 0)) = t at *
      obtain ⟨tn, tg, tj⟩ := t
      dsimp only at *
      clear hcc i2 i3 hat hp e1 e2
      have hba0 := Bw.alloc (Bw.refl wr) (.cells #[.int .i64 tn, .bool tg, .func (.func gid) #[] cap] 68)
      have PB := Lib.hid (Blk.new wr 68 #[.int .i64 tn, .bool tg, .func (.func gid) #[] cap])
      obtain ⟨gp, hgp⟩ : ∃ gp, wr.heap.size = gp := ⟨_, rfl⟩
      rw [hgp] at PB
      have c1 := HW.out.cell' c0
      go_upto_region 6 with fail
      obtain ⟨W1, hW1⟩ : ∃ W1, wr.alloc (.cells #[.int .i64 tn, .bool tg, .func (.func gid) #[] cap] 68) = W1 := ⟨_, rfl⟩
      rw [hW1] at PB hba0 ⊢
      clear hW1 hgp
      replace HW := Lib.hid (HW.out.trans hba0)
      replace O1 := Lib.hid (own_bw O1.out hba0)
      clear hba0 d0 d1 d2 c1
      have p0 := PB.out.cell (j := 0) (v := .int .i64 tn) rfl
      have p1 := PB.out.cell (j := 1) (v := .bool tg) rfl
      have hF := HF.out
      have HAN2 := HAN.out
      subst hF
      go_wp2_with (at_builtin; have hba := Bw.alloc (Bw.refl W1) (.cells #[.int .i64 A, .int .i64 tn, .bool tg, .int .i64 1, .int .i64 0] 81); have NB := Lib.hid (Blk.new W1 81 #[.int .i64 A, .int .i64 tn, .bool tg, .int .i64 1, .int .i64 0]); replace O1 := Lib.hid (own_bw O1.out hba); replace HW := Lib.hid (HW.out.trans hba); replace PB := Lib.hid (PB.out.bw hba); clear hba p0 p1; refine wpList_append_fld rfl (.tmp 15) (.tmp 22) _ rfl BB Try.underlying75 _ l1 ⟨A, tn, tg, 1, 0⟩ rfl O1.out _ 81 rfl NB.out (by have := HL1.out; omega) (by have := HW.out.size; have := HB.out; simp only [World.size_alloc] at *; omega) ?_; intro v8 w8 hown hgr; have p0 := (grown_blk PB.out O1.out (by decide) hgr).cell (j := 0) (v := .int .i64 tn) rfl; replace HW := Lib.hid (bw_grownP HB.out HW.out O1.out hgr); replace O1 := Lib.hid hown; clear hown hgr NB)
      go_roundg (n - (k + 1))
      case measure => omega
      case rel => exact ⟨k + 1, by omega, by omega, by go_num, by rw [HA.out], HW, Lib.hid (by rw [HT.out]; exact O1.out)⟩
    · obtain rfl : k = n := by omega
      have hkz : ¬ (k : Int) < k := by omega
      have HR := Lib.hid (own_rdF O1.out (by rw [List.length_map, List.length_range]; omega))
      have HQ := Lib.hid (show fdsS L = (List.range k).map (fdS L) by unfold fdsS; rw [← HN.out])
      go_wp2
      go_ret
      rw [HQ.out]
      exact ⟨⟨_, rfl, HR.out.1, HR.out.2⟩, HW.out⟩
end Go.Proofs.Sky

namespace Go.Proofs.Sky
open Go Go.RowKit Go.Shelf
set_option maxHeartbeats 4000000
set_option maxRecDepth 4000
/-! chapter 26: which ephemerides are valid -/
def okT (x : Nat → Int) (t : Int × Bool × Nat) : Bool := decide (lowR t.1 t.2.1 ≤ x t.2.2 ∧ x t.2.2 ≤ highR t.1 t.2.1)
def errE (x : Nat → Int) : Int := if ((LS 0).all (okT x) && (LS 1).all (okT x) && (LS 2).all (okT x)) && decide (1 ≤ x 0 ∧ x 2 < 604800) then 0 else 2
def eV (x : Nat → Int) : Array Value := #[.int .i64 (x 0), .int .i64 (x 1), .int .i64 (x 2), .int .i64 (x 3), .int .i64 (x 4), .int .i64 (x 5), .int .i64 (x 6), .int .i64 (x 7), .int .i64 (x 8), .int .i64 (x 9), .int .i64 (x 10), .int .i64 (x 11), .int .i64 (x 12), .int .i64 (x 13), .int .i64 (x 14), .int .i64 (x 15), .int .i64 (x 16), .int .i64 (x 17), .int .i64 (x 18)]
theorem eV_at (x : Nat → Int) (i : Nat) (h : i < 19) : (eV x)[i]? = some (.int .i64 (x i)) := by
  match i, h with
  | 0, _ => rfl
  | 1, _ => rfl
  | 2, _ => rfl
  | 3, _ => rfl
  | 4, _ => rfl
  | 5, _ => rfl
  | 6, _ => rfl
  | 7, _ => rfl
  | 8, _ => rfl
  | 9, _ => rfl
  | 10, _ => rfl
  | 11, _ => rfl
  | 12, _ => rfl
  | 13, _ => rfl
  | 14, _ => rfl
  | 15, _ => rfl
  | 16, _ => rfl
  | 17, _ => rfl
  | 18, _ => rfl
  | n + 19, h => exact absurd h (by omega)
theorem layouts_V (w : World) : Calls Try.prog 29 #[] w fun e w' => (∃ V : Nat → Value, e = .returned (.agg #[V 0, V 1, V 2]) ∧ ∀ k, k < 3 → LayAt w' w.heap.size (V k) (LS k)) ∧ Bw w w' := by
  refine (layouts_any w).mono ?_
  rintro e w' ⟨⟨v0, v1, v2, rfl, h0, h1, h2⟩, hb⟩
  refine ⟨⟨fun k => if k = 0 then v0 else if k = 1 then v1 else v2, rfl, fun k hk => ?_⟩, hb⟩
  match k, hk with
  | 0, _ => exact h0
  | 1, _ => exact h1
  | 2, _ => exact h2
theorem okL_LS (k : Nat) : okL (LS k) ∧ 0 < (LS k).length ∧ (LS k).length ≤ 8 ∧ ∀ t ∈ LS k, t.2.2 < 19 := by
  match k with
  | 0 => exact ⟨⟨by decide, by decide⟩, by decide, by decide, by decide⟩
  | 1 => exact ⟨⟨by decide, by decide⟩, by decide, by decide, by decide⟩
  | k + 2 => exact ⟨⟨by show ([(8, false, 1), (6, false, 0), (22, true, 13), (24, true, 14), (32, true, 15), (24, true, 16), (22, true, 17), (24, true, 18)] : List (Int × Bool × Nat)).length ≤ 100; decide, by show ∀ t ∈ ([(8, false, 1), (6, false, 0), (22, true, 13), (24, true, 14), (32, true, 15), (24, true, 16), (22, true, 17), (24, true, 18)] : List (Int × Bool × Nat)), _; decide⟩, by show 0 < ([(8, false, 1), (6, false, 0), (22, true, 13), (24, true, 14), (32, true, 15), (24, true, 16), (22, true, 17), (24, true, 18)] : List (Int × Bool × Nat)).length; decide, by show ([(8, false, 1), (6, false, 0), (22, true, 13), (24, true, 14), (32, true, 15), (24, true, 16), (22, true, 17), (24, true, 18)] : List (Int × Bool × Nat)).length ≤ 8; decide, by show ∀ t ∈ ([(8, false, 1), (6, false, 0), (22, true, 13), (24, true, 14), (32, true, 15), (24, true, 16), (22, true, 17), (24, true, 18)] : List (Int × Bool × Nat)), _; decide⟩
theorem errE_bad {x : Nat → Int} {k i : Nat} (hk : k < 3) (hi : i < (LS k).length) (h : okT x ((LS k).getD i (0, false, 0)) = false) : errE x = 2 := by
  have h1 : (LS k).all (okT x) = false := by
    rw [List.all_eq_false]
    exact ⟨_, getD_mem _ _ _ hi, by rw [h]; simp⟩
  unfold errE
  rw [if_neg]
  match k, hk with
  | 0, _ => rw [h1]; simp
  | 1, _ => rw [h1]; simp
  | 2, _ => rw [h1]; simp
theorem errE_end {x : Nat → Int} (h : ∀ l, l < 3 → (LS l).all (okT x) = true) : errE x = if 1 ≤ x 0 ∧ x 2 < 604800 then 0 else 2 := by
  unfold errE
  rw [h 0 (by omega), h 1 (by omega), h 2 (by omega)]
  simp
theorem all_get {x : Nat → Int} (L : List (Int × Bool × Nat)) (h : ∀ j, j < L.length → okT x (L.getD j (0, false, 0)) = true) : L.all (okT x) = true := by
  rw [List.all_eq_true]
  intro t ht
  obtain ⟨i, hi, rfl⟩ := List.mem_iff_getElem.1 ht
  have := h i hi
  rw [List.getD_eq_getElem?_getD, List.getElem?_eq_getElem hi] at this
  exact this
theorem ECheck_any (x : Nat → Int) (w : World) : Calls Try.prog 13 #[.agg (eV x)] w fun e w' => e = .returned (.int .i64 (errE x)) ∧ Bw w w' := by
  have HBW := Lib.hid (Bw.alloc (Bw.refl w) (.cells (eV x) 25))
  have KX := Lib.hid (Blk.new w 25 (eV x))
  unfold eV at HBW KX ⊢
  have LY := Lib.hid (fun W => layouts_V W)
  have FD := Lib.hid (fun k v base g W h1 h2 => layFields_any (LS k) v base g W (okL_LS k).1 (okL_LS k).2.1 h1 h2)
  have LM := Lib.hid (fun A n g W (h : fk A n 1 0) => Limits_ok A n g 1 0 (lowR n g) (highR n g) W h (by omega) (by omega))
  have IX := Lib.hid (fun V k h w => ixL V k h w)
  obtain ⟨E, hE⟩ : ∃ E, E = errE x := ⟨_, rfl⟩
  rw [← hE]
  have HE := Lib.hid hE
  clear hE
  go_enter Try.func13, Try.ntmps13
  go_upto_region 1 with fail
  obtain ⟨W0, hW0⟩ : ∃ W0, w.alloc (.cells #[.int .i64 (x 0), .int .i64 (x 1), .int .i64 (x 2), .int .i64 (x 3), .int .i64 (x 4), .int .i64 (x 5), .int .i64 (x 6), .int .i64 (x 7), .int .i64 (x 8), .int .i64 (x 9), .int .i64 (x 10), .int .i64 (x 11), .int .i64 (x 12), .int .i64 (x 13), .int .i64 (x 14), .int .i64 (x 15), .int .i64 (x 16), .int .i64 (x 17), .int .i64 (x 18)] 25) = W0 := ⟨_, rfl⟩
  rw [hW0] at HBW KX ⊢
  clear hW0
  replace KX := Lib.hid (show Blk W0 w.heap.size 25 (eV x) from KX.out)
  go_wp2_with (go_at_call 29; (with_reducible refine Calls.mono (LY.out _) ?_); rintro e1 w1 ⟨⟨V, rfl, hl9⟩, hb9⟩; have HL := Lib.hid hl9; replace HBW := Lib.hid (HBW.out.trans hb9); replace KX := Lib.hid (KX.out.bw hb9); clear hl9 hb9)
  go_loopg [12] 3 (fun gg s12 wr => ∃ k : Nat, k ≤ 3 ∧ 3 - k ≤ gg ∧ s12 = .int .i64 k ∧ Hid (∀ l, l < k → (LS l).all (okT x) = true) ∧ Hid (Bw w1 wr))
  case atStart => exact ⟨0, by omega, by omega, rfl, Lib.hid (fun l h => by omega), Lib.hid (Bw.refl _)⟩
  case round =>
    obtain ⟨k, hk, hgg, rfl, HA, HW⟩ := hrel
    obtain ⟨wa, rfl⟩ : ∃ wa, wa = wr := ⟨_, rfl⟩
    by_cases hlt : k < 3
    · have hkz : (k : Int) < 3 := by omega
      have hk0 : (0 : Int) ≤ k := by omega
      have hx := fun W => IX.out V k hlt W
      have hla := (HL.out k hlt).mono HW.out
      obtain ⟨a4, c4, hv4⟩ := hla.form
      have HBK := Lib.hid (fun i hi h => HE.out.trans (errE_bad hlt (i := i) hi h))
      have HOK := Lib.hid (okL_LS k)
      have HNX := Lib.hid (fun h => (fun l (hl : l < k + 1) => (by rcases Nat.lt_succ_iff_lt_or_eq.1 hl with h9 | rfl; exact HA.out l h9; exact all_get (LS l) h : (LS l).all (okT x) = true)))
      have FDK := Lib.hid (fun v base g W h1 h2 => FD.out k v base g W h1 h2)
      generalize LS k = L at hla hv4 HBK HOK HNX FDK
      obtain ⟨n, hn⟩ : ∃ n, n = L.length := ⟨_, rfl⟩
      rw [← hn] at hv4
      have HN := Lib.hid hn
      clear hn
      rw [hv4] at hx hla
      have HLA := Lib.hid hla
      clear hla hv4
      have BX := Lib.hid (Blk.new wa 63 #[.slice a4 n c4])
      have hba := Bw.alloc (Bw.refl wa) (.cells #[.slice a4 n c4] 63)
      obtain ⟨g4, hg4⟩ : ∃ g4, wa.heap.size = g4 := ⟨_, rfl⟩
      rw [hg4] at BX
      go_upto_region 4 with fail
      obtain ⟨W1, hW1⟩ : ∃ W1, wa.alloc (.cells #[.slice a4 n c4] 63) = W1 := ⟨_, rfl⟩
      rw [hW1] at BX hba ⊢
      clear hW1 hg4
      replace HW := Lib.hid (HW.out.trans hba)
      replace HLA := Lib.hid (HLA.out.mono hba)
      clear hba hx
      go_wp2_with (go_at_call 31; (with_reducible refine Calls.mono (FDK.out _ _ _ _ HLA.out BX.out) ?_); rintro e2 w2 ⟨⟨v15, rfl, hr9, _⟩, hb9⟩; obtain ⟨a15, c15, hv15⟩ := hr9.form; have HRF := Lib.hid hr9; replace HW := Lib.hid (HW.out.trans hb9); replace HLA := Lib.hid (HLA.out.mono hb9); replace BX := Lib.hid (BX.out.bw hb9); clear hr9 hb9; replace hv15 : v15 = .slice a15 n c15 := (by rw [hv15, show (fdsS L).length = n from (by unfold fdsS; rw [List.length_map, List.length_range]; exact HN.out.symm)]); subst hv15)
      go_loopg [17] 8 (fun gg s17 wr => ∃ i : Nat, i ≤ n ∧ n - i ≤ gg ∧ s17 = .int .i64 i ∧ Hid (∀ j, j < i → okT x (L.getD j (0, false, 0)) = true) ∧ Hid (Bw w2 wr))
      case atStart => exact ⟨0, by omega, by have := HN.out; have := HOK.out.2.2.1; omega, rfl, Lib.hid (fun j h => by omega), Lib.hid (Bw.refl _)⟩
      case round =>
        obtain ⟨i, hi, hgg2, rfl, HI, HX⟩ := hrel
        obtain ⟨wb, rfl⟩ : ∃ wb, wb = wr := ⟨_, rfl⟩
        by_cases hil : i < n
        · have hiz : (i : Int) < n := by omega
          have hi0 : (0 : Int) ≤ i := by omega
          have hiL : i < L.length := by have := HN.out; omega
          have hat : L[i]? = some (L.getD i (0, false, 0)) := by rw [List.getD_eq_getElem?_getD, List.getElem?_eq_getElem hiL]; rfl
          have hff : (fdsS L)[i]? = some (fdS L i) := by unfold fdsS; rw [List.getElem?_map, List.getElem?_range hiL]; rfl
          obtain ⟨bf, of_, cf, hvf, hcf⟩ := rdF_get (HRF.out.mono HX.out) (by unfold fdsS; rw [List.length_map, List.length_range]; omega)
          injection hvf with i1 i2 i3
          subst i1
          obtain ⟨f0, f1, f2, f3, f4⟩ := hcf i _ hff
          have hab := atS_bd HOK.out.1 i (by omega)
          have hln := HOK.out.1.1
          have hnb := HOK.out.1.2 _ (getD_mem L i (0, false, 0) hiL)
          have hjb := HOK.out.2.2.2 _ (getD_mem L i (0, false, 0) hiL)
          have hl8 := HOK.out.2.2.1
          have HBI := Lib.hid (fun h => HBK.out i hiL h)
          have HII := Lib.hid (fun (h : okT x (L.getD i (0, false, 0)) = true) => (fun j (hj : j < i + 1) => (by rcases Nat.lt_succ_iff_lt_or_eq.1 hj with h9 | rfl; exact HI.out j h9; exact h : okT x (L.getD j (0, false, 0)) = true)))
          obtain ⟨ps, q1, q2, _⟩ := (HLA.out.mono HX.out)
          obtain ⟨p, hp, e1, e2, e3⟩ := q2.at i _ hat
          obtain ⟨gid, cap, hpf, eg, hcall⟩ := e3.ok
          have HCL := Lib.hid hcall
          obtain ⟨bp, op, cp, hvp, hcp⟩ := q1.at (by have := q2.len; omega)
          injection hvp with j1 j2 j3
          subst j1
          obtain ⟨_, _, d2⟩ := hcp i p hp
          rw [hpf] at d2
          unfold fdS at f0 f1 f2 f3 f4
          dsimp only at f0 f1 f2 f3 f4
          generalize atS L i = A at *
          generalize (L.getD i (0, false, 0)) = t at *
          obtain ⟨tn, tg, tj⟩ := t
          dsimp only at hnb hjb f0 f1 f2 f3 f4 HCL
          have LMX := Lib.hid (fun W => LM.out A tn tg W (by unfold fk; omega))
          have hb8 := BX.out.bw HX.out
          have g0 := hb8.cell (j := 0) (v := .slice (some ⟨bp, op, none⟩) n c4) rfl
          have kx : wb.cell? ⟨w.heap.size, tj, none⟩ = some (.int .i64 (x tj)) := ((KX.out.bw (HW.out.trans HX.out)).cell (eV_at x tj hjb))
          clear hcall hcp hcf i2 i3 j2 j3 hat hff hp e1 e2 e3 q1 q2 hpf hb8
          have hzz : okT x (tn, tg, tj) = decide (lowR tn tg ≤ x tj ∧ x tj ≤ highR tn tg) := rfl
          rw [hzz] at HBI HII
          clear hzz
          generalize x tj = z at *
          generalize lowR tn tg = lo at *
          generalize highR tn tg = hg at *
          by_cases z1 : z < lo
          · have HG := Lib.hid (HBI.out (decide_eq_false (by omega)))
            clear HBI HII
            go_wp2_with (first | (go_at_call 33; (with_reducible refine Calls.mono (LMX.out _) ?_); rintro e3 w3 ⟨rfl, hb9⟩; have hbt : Bw wb w3 := (Bw.alloc (Bw.refl wb) (.cells #[.int .i64 A, .int .i64 tn, .bool tg, .int .i64 1, .int .i64 0] 81)).trans hb9; replace HX := Lib.hid (HX.out.trans hbt); have HT := Lib.hid hbt; replace kx := hbt.cell' kx; replace g0 := hbt.cell' g0; replace d2 := hbt.cell' d2; clear hbt hb9 f0 f1 f2 f3 f4) | (go_at_fn gid; refine Calls.mono (HCL.out _ HT.out _) ?_; rintro e4 w4 ⟨rfl, hb9⟩; replace HX := Lib.hid (HX.out.trans hb9); replace kx := hb9.cell' kx; clear hb9 g0 d2))
            go_ret
            exact ⟨ret_int HG.out.symm, HBW.out.trans (HW.out.trans HX.out)⟩
          by_cases z2 : hg < z
          · have HG := Lib.hid (HBI.out (decide_eq_false (by omega)))
            clear HBI HII
            go_wp2_with (first | (go_at_call 33; (with_reducible refine Calls.mono (LMX.out _) ?_); rintro e3 w3 ⟨rfl, hb9⟩; have hbt : Bw wb w3 := (Bw.alloc (Bw.refl wb) (.cells #[.int .i64 A, .int .i64 tn, .bool tg, .int .i64 1, .int .i64 0] 81)).trans hb9; replace HX := Lib.hid (HX.out.trans hbt); have HT := Lib.hid hbt; replace kx := hbt.cell' kx; replace g0 := hbt.cell' g0; replace d2 := hbt.cell' d2; clear hbt hb9 f0 f1 f2 f3 f4) | (go_at_fn gid; refine Calls.mono (HCL.out _ HT.out _) ?_; rintro e4 w4 ⟨rfl, hb9⟩; replace HX := Lib.hid (HX.out.trans hb9); replace kx := hb9.cell' kx; clear hb9 g0 d2))
            go_ret
            exact ⟨ret_int HG.out.symm, HBW.out.trans (HW.out.trans HX.out)⟩
          · have HG := Lib.hid (HII.out (decide_eq_true (by omega)))
            clear HBI HII
            go_wp2_with (first | (go_at_call 33; (with_reducible refine Calls.mono (LMX.out _) ?_); rintro e3 w3 ⟨rfl, hb9⟩; have hbt : Bw wb w3 := (Bw.alloc (Bw.refl wb) (.cells #[.int .i64 A, .int .i64 tn, .bool tg, .int .i64 1, .int .i64 0] 81)).trans hb9; replace HX := Lib.hid (HX.out.trans hbt); have HT := Lib.hid hbt; replace kx := hbt.cell' kx; replace g0 := hbt.cell' g0; replace d2 := hbt.cell' d2; clear hbt hb9 f0 f1 f2 f3 f4) | (go_at_fn gid; refine Calls.mono (HCL.out _ HT.out _) ?_; rintro e4 w4 ⟨rfl, hb9⟩; replace HX := Lib.hid (HX.out.trans hb9); replace kx := hb9.cell' kx; clear hb9 g0 d2))
            go_roundg (n - (i + 1))
            case measure => omega
            case rel => exact ⟨i + 1, by omega, by omega, by go_num, HG, HX⟩
        · obtain rfl : i = n := by omega
          have hiz : ¬ (i : Int) < i := by omega
          have HA2 := Lib.hid (HNX.out (fun j h => HI.out j (by have := HN.out; omega)))
          go_wp2
          go_roundg (3 - (k + 1))
          case measure => omega
          case rel => exact ⟨k + 1, by omega, by omega, by go_num, HA2, Lib.hid (HW.out.trans HX.out)⟩
    · obtain rfl : k = 3 := by omega
      have HEN := Lib.hid (HE.out.trans (errE_end HA.out))
      have hkx := KX.out.bw HW.out
      have k0 := hkx.cell (eV_at x 0 (by omega))
      have k2 := hkx.cell (eV_at x 2 (by omega))
      clear hkx
      by_cases z1 : x 0 < 1
      · have HG := Lib.hid (HEN.out.trans (if_neg (by omega)))
        clear HEN
        go_wp2
        go_ret
        exact ⟨ret_int HG.out.symm, HBW.out.trans HW.out⟩
      by_cases z2 : 604800 ≤ x 2
      · have HG := Lib.hid (HEN.out.trans (if_neg (by omega)))
        clear HEN
        go_wp2
        go_ret
        exact ⟨ret_int HG.out.symm, HBW.out.trans HW.out⟩
      · have HG := Lib.hid (HEN.out.trans (if_pos (by omega)))
        clear HEN
        go_wp2
        go_ret
        exact ⟨ret_int HG.out.symm, HBW.out.trans HW.out⟩
end Go.Proofs.Sky
