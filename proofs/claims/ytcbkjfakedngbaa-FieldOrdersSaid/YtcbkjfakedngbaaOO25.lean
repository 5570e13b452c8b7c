/-
  lemmas for the theorems of this claim. No conditions beyond those written in the statements.
-/
import Derived.Test.YtcbkjfakedngbaaFA25
import Derived.Test.YtcbkjfakedngbaaPO25
import Derived.Test.YtcbkjfakedngbaaAA25
import Derived.Test.YtcbkjfakedngbaaApp
import Derived.Deep.Cut
import Derived.BigRegion
import Derived.Deep.CutRange
import Derived.Deep.RegionHeld3
import Derived.Test.YtcbkjfakedngbaaU25b
set_option linter.unusedVariables false
set_option linter.unusedSimpArgs false
set_option linter.unnecessarySimpa false
namespace Go.Proofs.Sky
open Go Go.RowKit Go.Shelf
set_option maxHeartbeats 8000000
set_option maxRecDepth 4000
theorem rdI_drop {w : World} {b o n c : Nat} {zs : List Int} (h : RdI w (.slice (some ⟨b, o, none⟩) n c) zs) (i : Nat) (hi : i < n) {c' : Nat} : RdI w (.slice (some ⟨b, o + i, none⟩) (n - i) c') (zs.drop i) := by
  obtain ⟨h1, a, cc, hv, h2⟩ := h
  injection hv with e1 e2 e3
  subst e1 e2 e3
  refine ⟨by rw [List.length_drop]; omega, some ⟨b, o + i, none⟩, c', by rw [List.length_drop], .inr ?_⟩
  rcases h2 with h2 | ⟨b', off, e, hb, hc⟩
  · subst h2; simp at hi
  · injection e with e; injection e with e1 e2
    subst e1 e2
    refine ⟨b, o + i, rfl, hb, fun j hj => ?_⟩
    rw [List.length_drop] at hj
    have := hc (i + j) (by omega)
    rw [show o + i + j = o + (i + j) by omega, this]
    simp [List.getD_eq_getElem?_getD]
theorem blk_grownN {w w' : World} {g : Nat} {T : TypeId} {cs : Array Value} (h : Blk w g T cs) {row : Option Nat} (hg : w.grownBy w' row) (hr : ∀ r, row = some r → r < g) : Blk w' g T cs :=
  (hg.block g h.lt (by intro e; have := hr _ e.symm; omega)).trans h
theorem RdF.at {w : World} {v : Value} {fs : List Fd} (h : RdF w v fs) (h0 : 0 < fs.length) : ∃ b off c, v = .slice (some ⟨b, off, none⟩) fs.length c ∧ ∀ i f, fs[i]? = some f →
    w.cell? ⟨b, off + i * 5, none⟩ = some (.int .i64 f.a) ∧ w.cell? ⟨b, off + i * 5 + 1, none⟩ = some (.int .i64 f.n) ∧ w.cell? ⟨b, off + i * 5 + 2, none⟩ = some (.bool f.g) ∧ w.cell? ⟨b, off + i * 5 + 3, none⟩ = some (.int .i64 f.u) ∧ w.cell? ⟨b, off + i * 5 + 4, none⟩ = some (.int .i64 f.c) := by
  obtain ⟨_, a, cap, rfl, h4⟩ := h
  rcases h4 with h4 | ⟨b, off, rfl, _, hc⟩
  · subst h4; simp at h0
  · exact ⟨b, off, cap, rfl, hc⟩
theorem blk_grownT {w w' : World} {g : Nat} {T : TypeId} {cs : Array Value} (h : Blk w g T cs) {base : Nat} {e : TypeId} {k : Nat} {v : Value} {n : Nat} {xs : List Value} (ho : w.ownsRow base e k v n xs) (hg : w.grownBy w' v.ownBlock) (hne : T ≠ e) : Blk w' g T cs := by
  refine (hg.block g h.lt ?_).trans h
  intro e1
  rcases ho.2 with ⟨rfl, _⟩ | ⟨g1, c1, cur1, rfl, _, hh, _⟩
  · simp [Value.ownBlock] at e1
  · simp [Value.ownBlock] at e1
    subst e1
    unfold Blk at h
    rw [hh] at h; cases h; exact hne rfl
def SetB (w : World) (g n : Nat) (S : Nat → Bool) : Prop := ∀ x, x < n → w.cell? ⟨g, x, none⟩ = some (.bool (S x)) ∧ w.frozen? ⟨g, x, none⟩ = false
theorem SetB.made (w : World) (n : Nat) (T : TypeId) : SetB (w.alloc (.cells (madeCells #[.bool false] n) T)) w.heap.size n (fun _ => false) := by
  intro x hx
  have hB := Blk.new w T (madeCells #[.bool false] n)
  refine ⟨hB.cell ?_, hB.frozen x⟩
  have h := made1 (.bool false) n
  rw [Nat.mul_one] at h
  rw [← Array.getElem?_toList, h, List.getElem?_replicate, if_pos hx]
theorem SetB.bw {w w' : World} {g n : Nat} {S : Nat → Bool} (h : SetB w g n S) (hb : Bw w w') : SetB w' g n S := fun x hx =>
  ⟨hb.cell' (h x hx).1, (hb.cells.2 g x (lt_of_cell (h x hx).1)).trans (h x hx).2⟩
theorem SetB.set {w : World} {g n : Nat} {S : Nat → Bool} (h : SetB w g n S) (k : Nat) (hk : k < n) : SetB (w.setCell ⟨g, k, none⟩ (.bool true)) g n (fun x => S x || x == k) := by
  intro x hx
  refine ⟨?_, (frozen_set w g x g k (.bool true)).trans (h x hx).2⟩
  by_cases e : x = k
  · subst e
    rw [cell_set_same w g x (.bool true) (h x hx).1]; simp
  · rw [cell_set_off w g x k (.bool true) (fun e' => e e'.symm), (h x hx).1]; simp [e]
theorem rev_drop {α : Type} (l : List α) (i : Nat) (p : α) (h : l[i]? = some p) : (l.drop i).reverse = (l.drop (i + 1)).reverse ++ [p] := by
  obtain ⟨hi, e⟩ := List.getElem?_eq_some_iff.1 h
  rw [List.drop_eq_getElem_cons hi, e, List.reverse_cons]
theorem span_pow (n : Int) (g : Bool) (h : 1 ≤ n) : highR n g - lowR n g = 2 ^ n.toNat - 1 := by
  have := pow_pred n h
  cases g
  · simp [highR, lowR]
  · simp only [highR, lowR, if_true]; omega
theorem orders_main (zs ms : List Int) (v1 v2 : Value) (w : World) (h1 : RdI w v1 zs) (h2 : RdI w v2 ms) (hcap : ∀ a n c, v1 = .slice a n c → n ≤ c ∧ c ≤ 9223372036854775807) :
    Calls Try.prog 8 #[v1, v2] w fun r w' => r = .returned (.bool true) ∧ Bw w w' := by
  have HV1 := Lib.hid h1
  have HV2 := Lib.hid h2
  obtain ⟨ad1, cap1, rfl⟩ := h1.form
  obtain ⟨ad2, cap2, rfl⟩ := h2.form
  clear h1 h2
  have hcp := hcap _ _ _ rfl
  clear hcap
  obtain ⟨nz, hnz⟩ : ∃ nz, nz = zs.length := ⟨_, rfl⟩
  rw [← hnz] at HV1 hcp ⊢
  have HNZ := Lib.hid hnz
  clear hnz
  have NTA := Lib.hid (fun i W hW => Nth_any zs (.slice ad1 nz cap1) i W hW)
  have NTB := Lib.hid (fun i W hW => Nth_any ms (.slice ad2 ms.length cap2) i W hW)
  obtain ⟨BB, hBB⟩ : ∃ BB, w.heap.size = BB := ⟨_, rfl⟩
  have HB := Lib.hid hBB
  clear hBB
  go_enter Try.func8, Try.ntmps8
  go_wp2
  go_loopg [5, 7, 9, 10, 11] 6 (fun gg s5 s7 s9 s10 s11 wr => ∃ (ps : List (Fd × Int)) (e us : Nat), ps.length ≤ 6 ∧ 6 - ps.length ≤ gg ∧ ps.length ≤ nz ∧ e ≤ 42 * ps.length ∧ us ≤ 42 * ps.length ∧ s11 = .int .i64 (ps.length : Nat) ∧ s9 = .int .i64 e ∧ s10 = .int .i64 us ∧ Hid (∀ p ∈ ps, okP e p) ∧ Hid (ps.Pairwise disP) ∧ Hid (Bw w wr) ∧ Hid (wr.ownsRow BB 24 5 s5 (ps.map (·.1)).length (flatF (ps.map (·.1)))) ∧ Hid (wr.ownsRow BB 3 1 s7 (ps.map fldV).length ((ps.map fldV).map (Value.int .i64))))
  case atStart => exact ⟨[], 0, 0, by simp, by simp, by simp, by simp, by simp, rfl, rfl, rfl, Lib.hid (fun p hp => by cases hp), Lib.hid List.Pairwise.nil, Lib.hid (Bw.refl _), Lib.hid (World.ownsRow_nil _ _ _ _), Lib.hid (World.ownsRow_nil _ _ _ _)⟩
  case round =>
    obtain ⟨ps, e, us, hk6, hgg, hkn, he, hus, rfl, rfl, rfl, HOK, HDI, HW, O1, O2⟩ := hrel
    obtain ⟨k, hk⟩ : ∃ k, k = ps.length := ⟨_, rfl⟩
    rw [← hk] at hk6 hgg hkn he hus ⊢
    have HK := Lib.hid hk
    clear hk
    by_cases hlt : k < 6 ∧ k < nz
    · obtain ⟨hl1, hl2⟩ := hlt
      have hz1 : (k : Int) < 6 := by omega
      have hz2 : (k : Int) < nz := by omega
      have NT1 := Lib.hid (fun W hW => NTA.out k W hW)
      have BE1 := Lib.hid (fun W => Below_any (nth zs (k : Int)) 3 W (by omega) (by omega))
      have hd0 := bel_bd (nth zs (k : Int)) 3 (by omega)
      generalize bel (nth zs (k : Int)) 3 = d0 at *
      generalize nth zs (k : Int) = r0 at *
      obtain ⟨b1, o1, cc1, hv1, hb1, _⟩ := HV1.out.at (by have := HNZ.out; omega)
      injection hv1 with i1 i2 i3; subst i1; clear i2 i3 hb1
      have HD1 := Lib.hid (rdI_drop HV1.out k (by omega) (c' := cap1 - k))
      have OF1 := Lib.hid (fun W hW => of_any (zs.drop k) (.slice (some ⟨b1, o1 + k, none⟩) (nz - k) (cap1 - k)) ((e : Int) + d0) W hW)
      unfold OfP at OF1
      have HLF := Lib.hid (show (ps.map (·.1)).length = k by rw [List.length_map]; exact HK.out.symm)
      have HLV := Lib.hid (show (ps.map fldV).length = k by rw [List.length_map]; exact HK.out.symm)
      obtain ⟨fs1, hfs1⟩ : ∃ fs1, fs1 = ps.map (·.1) := ⟨_, rfl⟩
      obtain ⟨vs1, hvs1⟩ : ∃ vs1, vs1 = ps.map fldV := ⟨_, rfl⟩
      rw [← hfs1] at HLF O1
      rw [← hvs1] at HLV O2
      have HFS := Lib.hid hfs1
      have HVS := Lib.hid hvs1
      clear hfs1 hvs1
      go_upto_region 9 with (first | (go_at_call 21; (with_reducible refine Calls.mono (NT1.out _ (HV1.out.mono HW.out)) ?_); rintro e1 y1 ⟨rfl, hb9⟩; replace O1 := Lib.hid (own_bw O1.out hb9); replace O2 := Lib.hid (own_bw O2.out hb9); replace HW := Lib.hid (HW.out.trans hb9); clear hb9 NT1) | (go_at_call 20; (with_reducible refine Calls.mono (BE1.out _) ?_); rintro e1 y2 ⟨rfl, hb9⟩; replace O1 := Lib.hid (own_bw O1.out hb9); replace O2 := Lib.hid (own_bw O2.out hb9); replace HW := Lib.hid (HW.out.trans hb9); clear hb9 BE1) | (go_at_call 19; (with_reducible refine Calls.mono (OF1.out _ (HD1.out.mono HW.out)) ?_); rintro e1 y3 ⟨⟨n, g, u, c, rfl, hn9, hu9, hc9⟩, hb9⟩; replace O1 := Lib.hid (own_bw O1.out hb9); replace O2 := Lib.hid (own_bw O2.out hb9); replace HW := Lib.hid (HW.out.trans hb9); clear hb9 OF1))
      have B12 := Lib.hid (Blk.new y3 24 #[.int .i64 ((e : Int) + d0), .int .i64 n, .bool g, .int .i64 u, .int .i64 c])
      have hba := Bw.alloc (Bw.refl y3) (.cells #[.int .i64 ((e : Int) + d0), .int .i64 n, .bool g, .int .i64 u, .int .i64 c] 24)
      have OB1 := Lib.hid (fun r h => (O1.out.lt r h).2)
      have OB2 := Lib.hid (fun r h => (O2.out.lt r h).2)
      replace O1 := Lib.hid (own_bw O1.out hba)
      replace O2 := Lib.hid (own_bw O2.out hba)
      replace HW := Lib.hid (HW.out.trans hba)
      obtain ⟨g12, hg12⟩ : ∃ g12, y3.heap.size = g12 := ⟨_, rfl⟩
      rw [hg12] at B12 OB1 OB2 ⊢
      clear hg12 hba
      generalize y3.alloc _ = y4 at B12 O1 O2 HW ⊢
      have c0 : y4.cell? ⟨g12, 0, none⟩ = some (.int .i64 ((e : Int) + d0)) := B12.out.cell rfl
      have c1 : y4.cell? ⟨g12, 1, none⟩ = some (.int .i64 n) := B12.out.cell rfl
      have c2 : y4.cell? ⟨g12, 2, none⟩ = some (.bool g) := B12.out.cell rfl
      have c3 : y4.cell? ⟨g12, 3, none⟩ = some (.int .i64 u) := B12.out.cell rfl
      have c4 : y4.cell? ⟨g12, 4, none⟩ = some (.int .i64 c) := B12.out.cell rfl
      have hfk : fk ((e : Int) + d0) n u c := ⟨by omega, by omega, by omega, by omega, by omega, by omega, by omega, by omega, by omega⟩
      have hlb := lowR_bd n g hn9.1 hn9.2
      have hhb := highR_bd n g hn9.1 hn9.2
      have hDD := span_pow n g hn9.1
      have hp40 := (pow40 n.toNat (by omega)).2
      have hp1 := (pow40 n.toNat (by omega)).1
      obtain ⟨lR, hlR⟩ : ∃ lR, lR = lowR n g := ⟨_, rfl⟩
      obtain ⟨hR, hhR⟩ : ∃ hR, hR = highR n g := ⟨_, rfl⟩
      rw [← hlR] at hlb hDD
      rw [← hhR] at hhb hDD
      have HLR := Lib.hid hlR
      have HHR := Lib.hid hhR
      have hm1 := mul_bd lR u (by omega) (by omega) (by omega) (by omega)
      have hm2 := mul_bd hR u (by omega) (by omega) (by omega) (by omega)
      obtain ⟨lo, hlo⟩ : ∃ lo, c + lR * u = lo := ⟨_, rfl⟩
      obtain ⟨hi, hhi⟩ : ∃ hi, c + hR * u = hi := ⟨_, rfl⟩
      have LM := Lib.hid (fun W => Limits_ok ((e : Int) + d0) n g u c lo hi W hfk (by rw [← hlR]; exact hlo) (by rw [← hhR]; exact hhi))
      obtain ⟨D, hD⟩ : ∃ D, D = hR - lR := ⟨_, rfl⟩
      have hdm : hi - lo = D * u := by rw [hD, Int.sub_mul]; omega
      have hD1 : 1 ≤ D ∧ D ≤ 1099511627775 := by have := low_lt_high n g hn9.1; omega
      have hmd := mul_bd D u (by omega) (by omega) (by omega) (by omega)
      have hDu : 0 ≤ D * u := Int.mul_nonneg (by omega) (by omega)
      have hlh : lo ≤ hi := by omega
      have hlob : -1099511627777000000 ≤ lo ∧ lo ≤ 1099511627777000000 := by omega
      have hhib : -1099511627777000000 ≤ hi ∧ hi ≤ 1099511627777000000 := by omega
      have hdiv : (hi - lo) / u = D := by rw [hdm]; exact Int.mul_ediv_cancel _ (by omega)
      have hrg : 0 ≤ hi - lo := by omega
      have HLO := Lib.hid hlo
      have HD := Lib.hid hD
      have HFK := Lib.hid hfk
      have NT2 := Lib.hid (fun W hW => NTB.out (k : Int) W hW)
      have BE2 := Lib.hid (fun W => Below_any (nth ms (k : Int)) (D + 1) W (by omega) (by omega))
      have hq0 := bel_bd (nth ms (k : Int)) (D + 1) (by omega)
      generalize bel (nth ms (k : Int)) (D + 1) = q0 at BE2 hq0
      generalize nth ms (k : Int) = r1 at NT2 BE2
      have hmq := mul_bd q0 u (by omega) (by omega) (by omega) (by omega)
      clear hfk hlR hhR hlo hhi hD hdm hm1 hm2 hDD hp40 hp1 hmd hDu hlb hhb
      go_upto_region 13 with (first | (go_at_call 10; (with_reducible refine Calls.mono (LM.out _) ?_); rintro e1 y5 ⟨rfl, hb9⟩; replace O1 := Lib.hid (own_bw O1.out hb9); replace O2 := Lib.hid (own_bw O2.out hb9); replace HW := Lib.hid (HW.out.trans hb9); replace B12 := Lib.hid (B12.out.bw hb9); replace c0 := hb9.cell' c0; replace c1 := hb9.cell' c1; replace c2 := hb9.cell' c2; replace c3 := hb9.cell' c3; replace c4 := hb9.cell' c4; clear hb9 LM) | (at_builtin; have hba := Bw.alloc (Bw.refl y5) (.cells #[.int .i64 ((e : Int) + d0), .int .i64 n, .bool g, .int .i64 u, .int .i64 c] 24); have NB := Lib.hid (Blk.new y5 24 #[.int .i64 ((e : Int) + d0), .int .i64 n, .bool g, .int .i64 u, .int .i64 c]); replace O1 := Lib.hid (own_bw O1.out hba); replace O2 := Lib.hid (own_bw O2.out hba); replace B12 := Lib.hid (B12.out.bw hba); replace HW := Lib.hid (HW.out.trans hba); clear hba c0 c1 c2 c3 c4; refine wpList_append_fld rfl (.tmp 63) (.tmp 65) _ rfl BB Try.underlying41 _ fs1 ⟨(e : Int) + d0, n, g, u, c⟩ rfl O1.out _ _ rfl NB.out (by have := HLF.out; omega) (by have := HW.out.size; have := HB.out; omega) ?_; intro v7 y6 hown hgr; replace O2 := Lib.hid (own_other O2.out O1.out (by decide) hgr); replace B12 := Lib.hid (blk_grownN B12.out hgr OB1.out); replace HW := Lib.hid (Bw.grownN HB.out HW.out O1.out hgr); replace O1 := Lib.hid hown; clear hown hgr NB; have c0 : y6.cell? ⟨g12, 0, none⟩ = some (.int .i64 ((e : Int) + d0)) := B12.out.cell rfl; have c1 : y6.cell? ⟨g12, 1, none⟩ = some (.int .i64 n) := B12.out.cell rfl; have c2 : y6.cell? ⟨g12, 2, none⟩ = some (.bool g) := B12.out.cell rfl; have c3 : y6.cell? ⟨g12, 3, none⟩ = some (.int .i64 u) := B12.out.cell rfl; have c4 : y6.cell? ⟨g12, 4, none⟩ = some (.int .i64 c) := B12.out.cell rfl))
      have e3 := fun p' : Ext y6 => Ext.cell' c3 p'
      clear c0 c1 c2 c3 c4
      (refine wp_region_ext_float 17 _ rfl rfl (by kernel_rfl) (by kernel_rfl) (fun _ _ _ _ h => h) ?_; simp only [Nat.reduceSub, List.take_succ_cons, List.take_zero, List.drop_succ_cons, List.drop_zero]; go_frame; (repeat (go_big_quiet_step ((first | (go_at_call 21; with_reducible refine Calls.ext_of (NT2.out _ (HV2.out.mono (HW.out.trans (Ext.b _))))) | (go_at_call 20; with_reducible refine Calls.ext_of (BE2.out _)))))); refine wpQuiet_nil ?_; rintro y7 ⟨⟨_, hbq⟩, rfl⟩; obtain ⟨hccq, hffq⟩ := Bw.cells hbq; have hszq := Bw.size hbq)
      replace O1 := Lib.hid (own_bw O1.out hbq)
      replace O2 := Lib.hid (own_bw O2.out hbq)
      replace HW := Lib.hid (HW.out.trans hbq)
      replace B12 := Lib.hid (B12.out.bw hbq)
      clear e3 hbq hccq hffq hszq
      go_upto_region 14 with (at_builtin; have hba := Bw.alloc (Bw.refl y7) (.cells #[.int .i64 (lo + q0 * u)] 3); have NB := Lib.hid (Blk.new y7 3 #[.int .i64 (lo + q0 * u)]); replace O1 := Lib.hid (own_bw O1.out hba); replace O2 := Lib.hid (own_bw O2.out hba); replace B12 := Lib.hid (B12.out.bw hba); replace HW := Lib.hid (HW.out.trans hba); clear hba; refine wpList_append_int1 rfl (.tmp 67) (.tmp 84) _ rfl BB 3 Try.underlying22 infoInt _ vs1 (lo + q0 * u) rfl O2.out _ rfl (NB.out.cell rfl) (by have := HLV.out; omega) (by have := HW.out.size; have := HB.out; omega) ?_; intro v8 y8 hown hgr; replace O1 := Lib.hid (own_other O1.out O2.out (by decide) hgr); replace B12 := Lib.hid (blk_grownN B12.out hgr OB2.out); replace HW := Lib.hid (Bw.grownN HB.out HW.out O2.out hgr); replace O2 := Lib.hid hown; clear hown hgr NB; have c0 : y8.cell? ⟨g12, 0, none⟩ = some (.int .i64 ((e : Int) + d0)) := B12.out.cell rfl; have c1 : y8.cell? ⟨g12, 1, none⟩ = some (.int .i64 n) := B12.out.cell rfl; have c2 : y8.cell? ⟨g12, 2, none⟩ = some (.bool g) := B12.out.cell rfl; have c3 : y8.cell? ⟨g12, 3, none⟩ = some (.int .i64 u) := B12.out.cell rfl; have c4 : y8.cell? ⟨g12, 4, none⟩ = some (.int .i64 c) := B12.out.cell rfl)
      go_region
      replace HW := Lib.hid (Bw.drew HW.out)
      replace O1 := Lib.hid (own_bw O1.out (Bw.drew (Bw.refl _)))
      replace O2 := Lib.hid (own_bw O2.out (Bw.drew (Bw.refl _)))
      obtain ⟨e2, he2⟩ : ∃ e2 : Nat, (e2 : Int) = (e : Int) + d0 + n := ⟨((e : Int) + d0 + n).toNat, by omega⟩
      obtain ⟨us2, hus2⟩ : ∃ us2 : Nat, (us2 : Int) = (us : Int) + n := ⟨((us : Int) + n).toNat, by omega⟩
      have HF9 := Lib.hid (show fldV (((⟨(e : Int) + d0, n, g, u, c⟩ : Fd), lR + q0) : Fd × Int) = lo + q0 * u by unfold fldV; simp only; rw [Int.add_mul]; have := HLO.out; omega)
      have HO := Lib.hid (show ∀ p ∈ ps ++ [(((⟨(e : Int) + d0, n, g, u, c⟩ : Fd), lR + q0) : Fd × Int)], okP e2 p from fun p hp => by
        rcases List.mem_append.1 hp with hp | hp
        · obtain ⟨a1, a2, a3⟩ := HOK.out p hp
          exact ⟨a1, by omega, a3⟩
        · rw [List.mem_singleton] at hp
          subst hp
          exact ⟨HFK.out, by simp only; omega, by simp only; rw [← HLR.out]; omega, by simp only; rw [← HHR.out]; have := HD.out; omega, hc9.1, hc9.2⟩)
      have HP := Lib.hid (show (ps ++ [(((⟨(e : Int) + d0, n, g, u, c⟩ : Fd), lR + q0) : Fd × Int)]).Pairwise disP from List.pairwise_append.2 ⟨HDI.out, List.pairwise_singleton _ _, fun a ha b hb => by
        rw [List.mem_singleton] at hb
        subst hb
        left
        have := (HOK.out a ha).2.1
        simp only; omega⟩)
      have HLP := Lib.hid (show (ps ++ [(((⟨(e : Int) + d0, n, g, u, c⟩ : Fd), lR + q0) : Fd × Int)]).length = k + 1 by rw [List.length_append, ← HK.out]; rfl)
      have HM1 := Lib.hid (show (ps ++ [(((⟨(e : Int) + d0, n, g, u, c⟩ : Fd), lR + q0) : Fd × Int)]).map (·.1) = fs1 ++ [(⟨(e : Int) + d0, n, g, u, c⟩ : Fd)] by rw [List.map_append, ← HFS.out]; rfl)
      have HM2 := Lib.hid (show (ps ++ [(((⟨(e : Int) + d0, n, g, u, c⟩ : Fd), lR + q0) : Fd × Int)]).map fldV = vs1 ++ [lo + q0 * u] by rw [List.map_append, ← HVS.out, List.map_cons, HF9.out]; rfl)
      go_wp2
      go_roundg (6 - (k + 1))
      case measure => omega
      case rel => exact ⟨ps ++ [(((⟨(e : Int) + d0, n, g, u, c⟩ : Fd), lR + q0) : Fd × Int)], e2, us2, by rw [HLP.out]; omega, by rw [HLP.out]; omega, by rw [HLP.out]; omega, by rw [HLP.out]; omega, by rw [HLP.out]; omega, by rw [HLP.out]; go_num, by rw [he2], by rw [hus2], HO, HP, HW, Lib.hid (by rw [HM1.out]; exact O1.out), Lib.hid (by rw [HM2.out]; exact O2.out)⟩
    · go_upto_region 5 with fail
      go_cut [36] from 29 to 36 (fun s36 wc => s36 = .bool false ∧ wc = wr)
      case first =>
        by_cases hz1 : (k : Int) < 6
        · have hz2 : ¬ (k : Int) < nz := by omega
          go_wp2
          go_meet
          exact ⟨by go_num, rfl⟩
        · go_wp2
          go_meet
          exact ⟨by go_num, rfl⟩
      obtain ⟨rfl, hwc⟩ := hcut
      subst wc
      obtain ⟨wa, rfl⟩ : ∃ wa, wa = wr := ⟨_, rfl⟩
      have hrf := own_rdF O1.out (by rw [List.length_map, ← HK.out]; omega)
      have hrv := own_rd O2.out (by rw [List.length_map, ← HK.out]; omega)
      obtain ⟨a5, c5, rfl⟩ := hrf.1.form
      obtain ⟨a7, c7, rfl⟩ := hrv.1.form
      have hRF := hrf.1
      have hRV := hrv.1
      simp only [List.length_map, ← HK.out] at hRF hRV ⊢
      have RF := Lib.hid hRF
      have RV := Lib.hid hRV
      clear hRF hRV hrf hrv O1 O2
      obtain ⟨A, hAl, hpk1, hpk2, hunp, hgets, hunc⟩ := orders_plain e ps HOK.out HDI.out (by rw [← HK.out]; omega) (by omega)
      have HAL := Lib.hid hAl
      have PK1 := Lib.hid (fun W vf vv (h1 : RdF W vf (ps.map (·.1))) (h2 : RdI W vv (ps.map fldV)) => by have h := Pack_any (ps.map (·.1)) (ps.map fldV) vf vv ((e : Int) + 2) W h1 h2; rw [hpk1] at h; unfold PackP at h; exact h)
      have PK2 := Lib.hid (fun W vf vv (h1 : RdF W vf (ps.reverse.map (·.1))) (h2 : RdI W vv (ps.reverse.map fldV)) => by have h := Pack_any (ps.reverse.map (·.1)) (ps.reverse.map fldV) vf vv ((e : Int) + 2) W h1 h2; rw [hpk2] at h; unfold PackP at h; exact h)
      have UNP := Lib.hid (fun W vf vv (h1 : RdF W vf (ps.map (·.1))) (h2 : RdI W vv A) => by have h := Unpack_any (ps.map (·.1)) A vf vv W h1 h2; rw [hunp] at h; unfold PackP at h; exact h)
      have HGET := Lib.hid hgets
      have HUNC := Lib.hid hunc
      clear hAl hpk1 hpk2 hunp hgets hunc NTA NTB HV1 HV2 HDI
      obtain ⟨B2, hB2⟩ : ∃ B2, wa.heap.size = B2 := ⟨_, rfl⟩
      have HB2 := Lib.hid hB2
      clear hB2
      go_wp2
      go_loopg [6, 8, 16] 6 (fun gg s6 s8 s16 wr => ∃ i : Nat, i ≤ k ∧ i ≤ gg ∧ s16 = .int .i64 ((i : Int) - 1) ∧ Hid (Bw wa wr) ∧ Hid (wr.ownsRow B2 24 5 s6 ((ps.drop i).reverse.map (·.1)).length (flatF ((ps.drop i).reverse.map (·.1)))) ∧ Hid (wr.ownsRow B2 3 1 s8 ((ps.drop i).reverse.map fldV).length (((ps.drop i).reverse.map fldV).map (Value.int .i64))))
      case atStart => exact ⟨k, Nat.le_refl _, by omega, by go_num, Lib.hid (Bw.refl _), Lib.hid (by rw [List.drop_eq_nil_of_le (by rw [← HK.out]; exact Nat.le_refl _)]; exact World.ownsRow_nil _ _ _ _), Lib.hid (by rw [List.drop_eq_nil_of_le (by rw [← HK.out]; exact Nat.le_refl _)]; exact World.ownsRow_nil _ _ _ _)⟩
      case round =>
        obtain ⟨i, hi, hgg2, rfl, HX, O1, O2⟩ := hrel
        by_cases hi0 : i = 0
        · skip
          subst hi0
          rw [List.drop_zero] at O1 O2
          have hfr := own_rdF O1.out (by rw [List.length_map, List.length_reverse, ← HK.out]; omega)
          have hfi := own_rd O2.out (by rw [List.length_map, List.length_reverse, ← HK.out]; omega)
          obtain ⟨a6, c6, rfl⟩ := hfr.1.form
          obtain ⟨a8, c8, rfl⟩ := hfi.1.form
          have hR6 := hfr.1
          have hR8 := hfi.1
          simp only [List.length_map, List.length_reverse, ← HK.out] at hR6 hR8 ⊢
          have R6 := Lib.hid hR6
          have R8 := Lib.hid hR8
          clear hR6 hR8 hfr hfi O1 O2
          have hneg : ¬ (0 : Int) ≤ ((0 : Nat) : Int) - 1 := by omega
          have hAl := HAL.out
          go_upto_region 20 with (go_at_call 25; (with_reducible refine Calls.mono (PK1.out _ _ _ (RF.out.mono HX.out) (RV.out.mono HX.out)) ?_); rintro e1 z1 ⟨⟨v9, rfl, hr, _⟩, hb9⟩; obtain ⟨a17, c17, rfl⟩ := hr.form; have A1 := Lib.hid hr; replace R6 := Lib.hid (R6.out.mono hb9); replace R8 := Lib.hid (R8.out.mono hb9); replace HX := Lib.hid (HX.out.trans hb9); clear hr hb9)
          rw [hAl] at A1
          have B18 := Lib.hid (Blk.new z1 43 #[.int .i64 0, .int .i64 0])
          have hba := Bw.alloc (Bw.refl z1) (.cells #[.int .i64 0, .int .i64 0] 43)
          replace R6 := Lib.hid (R6.out.mono hba)
          replace R8 := Lib.hid (R8.out.mono hba)
          replace A1 := Lib.hid (A1.out.mono hba)
          replace HX := Lib.hid (HX.out.trans hba)
          obtain ⟨g18, hg18⟩ : ∃ g18, z1.heap.size = g18 := ⟨_, rfl⟩
          rw [hg18] at B18 ⊢
          clear hg18 hba
          generalize z1.alloc _ = z2 at B18 HX R6 R8 A1 ⊢
          go_upto_region 21 with (go_at_call 25; (with_reducible refine Calls.mono (PK2.out _ _ _ R6.out R8.out) ?_); rintro e1 z3 ⟨⟨v9, rfl, hr, _⟩, hb9⟩; obtain ⟨a19, c19, rfl⟩ := hr.form; have A2 := Lib.hid hr; replace A1 := Lib.hid (A1.out.mono hb9); replace HX := Lib.hid (HX.out.trans hb9); replace B18 := Lib.hid (B18.out.bw hb9); clear hr hb9)
          rw [hAl] at A2
          clear R6 R8
          have B20 := Lib.hid (Blk.new z3 43 #[.int .i64 0, .int .i64 0])
          have hba := Bw.alloc (Bw.refl z3) (.cells #[.int .i64 0, .int .i64 0] 43)
          replace A1 := Lib.hid (A1.out.mono hba)
          replace A2 := Lib.hid (A2.out.mono hba)
          replace B18 := Lib.hid (B18.out.bw hba)
          replace HX := Lib.hid (HX.out.trans hba)
          obtain ⟨g20, hg20⟩ : ∃ g20, z3.heap.size = g20 := ⟨_, rfl⟩
          rw [hg20] at B20 ⊢
          clear hg20 hba
          generalize z3.alloc _ = z4 at B20 HX A1 A2 B18 ⊢
          go_upto_region 22 with (go_at_call 27; (with_reducible refine Calls.mono (UNP.out _ _ _ (RF.out.mono HX.out) A1.out) ?_); rintro e1 z5 ⟨⟨v9, rfl, hr, _⟩, hb9⟩; obtain ⟨a21, c21, rfl⟩ := hr.form; have A3 := Lib.hid hr; replace A1 := Lib.hid (A1.out.mono hb9); replace A2 := Lib.hid (A2.out.mono hb9); replace HX := Lib.hid (HX.out.trans hb9); replace B18 := Lib.hid (B18.out.bw hb9); replace B20 := Lib.hid (B20.out.bw hb9); clear hr hb9)
          simp only [List.length_map, ← HK.out] at A3 ⊢
          have B22 := Lib.hid (Blk.new z5 43 #[.int .i64 0, .int .i64 0])
          have hba := Bw.alloc (Bw.refl z5) (.cells #[.int .i64 0, .int .i64 0] 43)
          replace A1 := Lib.hid (A1.out.mono hba)
          replace A2 := Lib.hid (A2.out.mono hba)
          replace A3 := Lib.hid (A3.out.mono hba)
          replace B18 := Lib.hid (B18.out.bw hba)
          replace B20 := Lib.hid (B20.out.bw hba)
          replace HX := Lib.hid (HX.out.trans hba)
          obtain ⟨g22, hg22⟩ : ∃ g22, z5.heap.size = g22 := ⟨_, rfl⟩
          rw [hg22] at B22 ⊢
          clear hg22 hba
          generalize z5.alloc _ = z6 at B22 HX A1 A2 A3 B18 B20 ⊢
          have f18 : z6.cell? ⟨g18, 0, none⟩ = some (.int .i64 0) := B18.out.cell rfl
          have f20 : z6.cell? ⟨g20, 0, none⟩ = some (.int .i64 0) := B20.out.cell rfl
          have f22 : z6.cell? ⟨g22, 0, none⟩ = some (.int .i64 0) := B22.out.cell rfl
          have hcast : ((e + 2 : Nat) : Int) = (e : Int) + 2 := by omega
          have hmk := fun W => makeBool (e + 2) (by omega) W
          rw [hcast] at hmk
          have AL1 := Lib.hid (fun W h1 h2 => alike_same A (.slice a17 (e + 2) c17) (.slice a19 (e + 2) c19) W h1 h2)
          have AL2 := Lib.hid (fun W h1 h2 => alike_same (ps.map fldV) (.slice a21 k c21) (.slice a7 k c7) W h1 h2)
          go_upto_region 24 with (first | (go_at_call 18; (with_reducible refine Calls.mono (AL1.out _ A1.out A2.out) ?_); rintro e1 z7 ⟨rfl, hb9⟩; replace HX := Lib.hid (HX.out.trans hb9); replace A1 := Lib.hid (A1.out.mono hb9); replace A3 := Lib.hid (A3.out.mono hb9); clear hb9 AL1 A2) | (go_at_call 18; (with_reducible refine Calls.mono (AL2.out _ A3.out (RV.out.mono HX.out)) ?_); rintro e1 z8 ⟨rfl, hb9⟩; replace HX := Lib.hid (HX.out.trans hb9); replace A1 := Lib.hid (A1.out.mono hb9); clear hb9 AL2 A3))
          clear f18 f20 f22 B18 B20 B22
          go_upto_region 26 with fail
          obtain ⟨gs, hgs⟩ : ∃ gs, z8.heap.size = gs := ⟨_, rfl⟩
          have SB := Lib.hid (SetB.made z8 (e + 2) 4)
          have HY := Lib.hid (Bw.alloc (Bw.refl z8) (.cells (madeCells #[.bool false] (e + 2)) 4))
          have HGS := Lib.hid hgs
          rw [hgs] at SB ⊢
          clear hgs hmk
          generalize z8.alloc _ = z9 at SB HY ⊢
          go_loopg [24] 6 (fun gg s24 wr => ∃ i : Nat, i ≤ k ∧ k - i ≤ gg ∧ s24 = .int .i64 i ∧ Hid (Bw z8 wr) ∧ ∃ S : Nat → Bool, Hid (SetB wr gs (e + 2) S) ∧ Hid (∀ q, q < i → ∀ p, ps[q]? = some p → ∀ x, cov p x → S x = true))
          case atStart => exact ⟨0, Nat.zero_le _, by omega, rfl, HY, _, SB, Lib.hid (fun q hq => absurd hq (Nat.not_lt_zero _))⟩
          case round =>
            clear SB HY
            obtain ⟨i, hi, hgg3, rfl, HY, S, SB, HSC⟩ := hrel
            obtain ⟨w3, rfl⟩ : ∃ w3, w3 = wr := ⟨_, rfl⟩
            by_cases hik : i < k
            · have hiz : (i : Int) < k := by omega
              obtain ⟨p, hp⟩ : ∃ p, ps[i]? = some p := ⟨_, List.getElem?_eq_getElem (by have := HK.out; omega)⟩
              obtain ⟨b4, o4, cc4, hv4, hd4⟩ := RF.out.at (by rw [List.length_map, ← HK.out]; omega)
              injection hv4 with i1 i2 i3; subst i1; clear i2 i3
              obtain ⟨q0, q1, q2, q3, q4⟩ := hd4 i p.1 (by rw [List.getElem?_map, hp]; rfl)
              obtain ⟨b5, o5, cc5, hv5, hb5, hd5⟩ := RV.out.at (by rw [List.length_map, ← HK.out]; omega)
              injection hv5 with i1 i2 i3; subst i1; clear i2 i3
              have q5 := hd5 i (by rw [List.length_map, ← HK.out]; omega)
              rw [show (ps.map fldV).getD i 0 = fldV p by rw [List.getD_eq_getElem?_getD, List.getElem?_map, hp]; rfl] at q5
              clear hd4 hd5 hb5
              have hmem : p ∈ ps := List.mem_of_getElem? hp
              have hpk := HOK.out p hmem
              have GET := Lib.hid (fun W hW => Get_any A (.slice a17 (e + 2) c17) p.1.a p.1.n p.1.g p.1.u p.1.c W hW)
              unfold GetP at GET
              rw [(HGET.out p hmem).1, (HGET.out p hmem).2] at GET
              have HPI := Lib.hid hp
              generalize fldV p = fv at *
              obtain ⟨⟨fa, fn, fg, fu, fc⟩, fq⟩ := p
              obtain ⟨⟨f1, f2, f3, f4, f5, f6, f7, f8, f9⟩, f10, _⟩ := hpk
              simp only at q0 q1 q2 q3 q4 f1 f2 f3 f4 f5 f6 f7 f8 f9 f10 GET
              obtain ⟨a, rfl⟩ := Int.eq_ofNat_of_zero_le f1
              obtain ⟨n, rfl⟩ := Int.eq_ofNat_of_zero_le (show 0 ≤ fn by omega)
              have HCV := Lib.hid (show ∀ x, cov (⟨(a : Int), (n : Int), fg, fu, fc⟩, fq) x → a ≤ x ∧ x < a + n from fun x hx => by unfold cov at hx; simpa using hx)
              have hb9 := HX.out.trans HY.out
              have d0 := hb9.cell' q0
              have d1 := hb9.cell' q1
              have d2 := hb9.cell' q2
              have d3 := hb9.cell' q3
              have d4 := hb9.cell' q4
              have d5 := hb9.cell' q5
              clear hp hmem hb9
              have Q0 := Lib.hid q0
              have Q1 := Lib.hid q1
              clear q0 q1 q2 q3 q4 q5
              go_upto_region 32 with (go_at_call 14; (with_reducible refine Calls.mono (GET.out _ (A1.out.mono HY.out)) ?_); rintro e1 y1 ⟨rfl, hb9⟩; replace HY := Lib.hid (HY.out.trans hb9); replace SB := Lib.hid (SB.out.bw hb9); replace d0 := hb9.cell' d0; replace d1 := hb9.cell' d1; replace d2 := hb9.cell' d2; replace d3 := hb9.cell' d3; replace d4 := hb9.cell' d4; replace d5 := hb9.cell' d5; clear hb9 GET)
              clear d0 d1 d2 d3 d4 d5
              go_loopg [27] 40 (fun gg s27 wr => ∃ c : Nat, c ≤ n ∧ n - c ≤ gg ∧ s27 = .int .i64 ((a + c : Nat) : Int) ∧ Hid (Bw z8 wr) ∧ ∃ S' : Nat → Bool, Hid (SetB wr gs (e + 2) S') ∧ Hid (∀ x, S x = true → S' x = true) ∧ Hid (∀ y, y < c → S' (a + y) = true))
              case atStart => exact ⟨0, Nat.zero_le _, by omega, by go_num, HY, S, SB, Lib.hid (fun x h => h), Lib.hid (fun y h => absurd h (Nat.not_lt_zero _))⟩
              case round =>
                clear SB HY
                obtain ⟨c, hc, hgg4, rfl, HY, S', SB, HS1, HS2⟩ := hrel
                have d0 := (HX.out.trans HY.out).cell' Q0.out
                have d1 := (HX.out.trans HY.out).cell' Q1.out
                have e0 := fun p' : Ext wr => Ext.cell' d0 p'
                have e1 := fun p' : Ext wr => Ext.cell' d1 p'
                clear d0 d1
                by_cases hcn : c < n
                · have hcz : (a : Int) + c < a + n := by omega
                  go_upto_region 32 with fail
                  (refine wp_region_quiet_ext (by kernel_rfl) (by kernel_rfl) ?_; (repeat (go_big_quiet_step ((fail)))); refine wpQuiet_nil ?_; rintro wq ⟨⟨_, hbq⟩, rfl⟩; obtain ⟨hccq, hffq⟩ := Bw.cells hbq; have hszq := Bw.size hbq)
                  clear e0 e1
                  have hb := SB.out.bw hbq (a + c) (by omega)
                  have k0 := hb.1
                  have k1 := hb.2
                  have NS := Lib.hid ((SB.out.bw hbq).set (a + c) (by omega))
                  have NY := Lib.hid (Bw.setCell (HY.out.trans hbq) (p := ⟨gs, a + c, none⟩) (Nat.le_of_eq HGS.out) (.bool true))
                  have hce : (a : Int) + c < (e : Int) + 2 := by omega
                  clear hb hbq hccq hffq hszq
                  go_wp2
                  go_roundg (n - (c + 1))
                  case measure => omega
                  case rel => exact ⟨c + 1, by omega, by omega, by go_num, NY, _, NS, Lib.hid (fun x h => by rw [HS1.out x h]; rfl), Lib.hid (fun y hy => by
                    rcases Nat.lt_succ_iff_lt_or_eq.1 hy with h' | rfl
                    · rw [HS2.out y h']; rfl
                    · simp)⟩
                · obtain rfl : n = c := by omega
                  have hcz : ¬ (a : Int) + n < a + n := by omega
                  go_upto_region 32 with fail
                  (refine wp_region_quiet_ext (by kernel_rfl) (by kernel_rfl) ?_; (repeat (go_big_quiet_step ((fail)))); refine wpQuiet_nil ?_; rintro wq ⟨⟨_, hbq⟩, rfl⟩; obtain ⟨hccq, hffq⟩ := Bw.cells hbq; have hszq := Bw.size hbq)
                  clear e0 e1
                  have NS := Lib.hid (SB.out.bw hbq)
                  have NY := Lib.hid (HY.out.trans hbq)
                  clear hbq hccq hffq hszq
                  go_wp2
                  go_roundg (k - (i + 1))
                  case measure => omega
                  case rel => exact ⟨i + 1, by omega, by omega, by go_num, NY, S', NS, Lib.hid (fun q hq p' hp' x hx => by
                    rcases Nat.lt_succ_iff_lt_or_eq.1 hq with h' | rfl
                    · exact HS1.out x (HSC.out q h' p' hp' x hx)
                    · rw [HPI.out] at hp'
                      injection hp' with hp'
                      subst hp'
                      have hx2 := HCV.out x hx
                      have := HS2.out (x - a) (by omega)
                      rwa [show a + (x - a) = x by omega] at this)⟩
            · obtain rfl : k = i := by omega
              have hiz : ¬ (k : Int) < k := by omega
              have HCOV := Lib.hid (show ∀ x, S x = false → A.getD x 0 = 0 from fun x hx => HUNC.out x (fun p hp hc => by
                obtain ⟨q, hq, hq2⟩ := List.mem_iff_getElem.1 hp
                have := HSC.out q (by rw [HK.out]; exact hq) p (by rw [List.getElem?_eq_getElem hq, hq2]) x hc
                rw [hx] at this; cases this))
              go_wp2
              go_loopg [28] 300 (fun gg s28 wr => ∃ x : Nat, x ≤ e + 2 ∧ e + 2 - x ≤ gg ∧ s28 = .int .i64 x ∧ Hid (Bw w3 wr))
              case atStart => exact ⟨0, Nat.zero_le _, by omega, rfl, Lib.hid (Bw.refl _)⟩
              case round =>
                obtain ⟨x, hx, hgg5, rfl, HZ⟩ := hrel
                by_cases hxe : x < e + 2
                · have hxz : (x : Int) < (e : Int) + 2 := by omega
                  have k0 := HZ.out.cell' (SB.out x hxe).1
                  obtain ⟨b6, o6, cc6, hv6, hb6, hd6⟩ := A1.out.at (by have := HAL.out; omega)
                  injection hv6 with i1 i2 i3; subst i1; clear i2 i3 hb6
                  have k1 := (HY.out.trans HZ.out).cell' (hd6 x (by have := HAL.out; omega))
                  clear hd6
                  cases hS : S x with
                  | true =>
                    rw [hS] at k0
                    clear hS k1
                    go_wp2
                    go_roundg (e + 2 - (x + 1))
                    case measure => omega
                    case rel => exact ⟨x + 1, by omega, by omega, by go_num, HZ⟩
                  | false =>
                    rw [HCOV.out x hS] at k1
                    rw [hS] at k0
                    clear hS
                    go_wp2
                    go_roundg (e + 2 - (x + 1))
                    case measure => omega
                    case rel => exact ⟨x + 1, by omega, by omega, by go_num, HZ⟩
                · obtain rfl : e + 2 = x := by omega
                  have hxz : ¬ ((e + 2 : Nat) : Int) < (e : Int) + 2 := by omega
                  go_wp2_with (go_at_call 9; (with_reducible refine Calls.mono (awake_any _) ?_); rintro e1 y9 ⟨rfl, hb9⟩)
                  go_ret
                  exact ⟨rfl, HW.out.trans (HX.out.trans (HY.out.trans (HZ.out.trans hb9)))⟩
        · obtain ⟨j, rfl⟩ : ∃ j, i = j + 1 := ⟨i - 1, by omega⟩
          have hjz : ((j + 1 : Nat) : Int) - 1 = (j : Int) := by omega
          rw [hjz]
          have hj0 : (0 : Int) ≤ j := by omega
          have hjk : (j : Int) < k := by omega
          obtain ⟨p, hp⟩ : ∃ p, ps[j]? = some p := ⟨_, List.getElem?_eq_getElem (by have := HK.out; omega)⟩
          have HRD := Lib.hid (rev_drop ps j p hp)
          obtain ⟨b4, o4, cc4, hv4, hd4⟩ := RF.out.at (by rw [List.length_map, ← HK.out]; omega)
          injection hv4 with i1 i2 i3; subst i1; clear i2 i3
          obtain ⟨q0, q1, q2, q3, q4⟩ := hd4 j p.1 (by rw [List.getElem?_map, hp]; rfl)
          obtain ⟨b5, o5, cc5, hv5, hb5, hd5⟩ := RV.out.at (by rw [List.length_map, ← HK.out]; omega)
          injection hv5 with i1 i2 i3; subst i1; clear i2 i3
          have q5 := hd5 j (by rw [List.length_map, ← HK.out]; omega)
          rw [show (ps.map fldV).getD j 0 = fldV p by rw [List.getD_eq_getElem?_getD, List.getElem?_map, hp]; rfl] at q5
          clear hd4 hd5 hb5
          have HT1 := Lib.hid (show (ps.drop j).reverse.map (·.1) = ((ps.drop (j + 1)).reverse.map (·.1)) ++ [p.1] by rw [HRD.out, List.map_append]; rfl)
          have HT2 := Lib.hid (show (ps.drop j).reverse.map fldV = ((ps.drop (j + 1)).reverse.map fldV) ++ [fldV p] by rw [HRD.out, List.map_append]; rfl)
          have HLF2 := Lib.hid (show ((ps.drop (j + 1)).reverse.map (·.1)).length ≤ 6 by rw [List.length_map, List.length_reverse, List.length_drop]; have := HK.out; omega)
          have HLV2 := Lib.hid (show ((ps.drop (j + 1)).reverse.map fldV).length ≤ 6 by rw [List.length_map, List.length_reverse, List.length_drop]; have := HK.out; omega)
          generalize (ps.drop (j + 1)).reverse.map (·.1) = fsl at O1 HT1 HLF2
          generalize (ps.drop (j + 1)).reverse.map fldV = vsl at O2 HT2 HLV2
          go_upto_region 18 with fail
          have hdr := Bw.drew (Bw.refl wr)
          replace O1 := Lib.hid (own_bw O1.out hdr)
          replace O2 := Lib.hid (own_bw O2.out hdr)
          clear hdr
          refine wp_region_held_drew (S := Bw wa) (by kernel_rfl) (HX.out.trans (Bw.drew (Bw.refl _))) (fun hS => ?_)
          generalize World.drew _ = wd at hS O1 O2 ⊢
          refine take1 (i := 0) (some 101) rfl rfl (by kernel_rfl) (by kernel_rfl) (by kernel_rfl) (fun _ _ _ _ h => h) rfl hS ?_
          apply Exists.intro
          apply And.intro
          · intro W9 hW9; skip; go_simp; try with_reducible rfl
          simp only [Act.put, List.setIfInBounds_toArray, List.set_cons_zero, List.set_cons_succ]
          refine take1 (i := 1) (some 102) rfl rfl (by kernel_rfl) (by kernel_rfl) (by kernel_rfl) (fun _ _ _ _ h => h) rfl hS ?_
          apply Exists.intro
          apply And.intro
          · intro W9 hW9; skip; go_simp; try with_reducible rfl
          simp only [Act.put, List.setIfInBounds_toArray, List.set_cons_zero, List.set_cons_succ]
          refine take1 (i := 2) (some 103) rfl rfl (by kernel_rfl) (by kernel_rfl) (by kernel_rfl) (fun _ _ _ _ h => h) rfl hS ?_
          apply Exists.intro
          apply And.intro
          · intro W9 hW9; skip; go_simp; try with_reducible rfl
          simp only [Act.put, List.setIfInBounds_toArray, List.set_cons_zero, List.set_cons_succ]
          refine take1 (i := 3) (some 104) rfl rfl (by kernel_rfl) (by kernel_rfl) (by kernel_rfl) (fun _ _ _ _ h => h) rfl hS ?_
          apply Exists.intro
          apply And.intro
          · intro W9 hW9; skip; go_simp; try with_reducible rfl
          simp only [Act.put, List.setIfInBounds_toArray, List.set_cons_zero, List.set_cons_succ]
          refine take1 (i := 4) (some 105) rfl rfl (by kernel_rfl) (by kernel_rfl) (by kernel_rfl) (fun _ _ _ _ h => h) rfl hS ?_
          apply Exists.intro
          apply And.intro
          · intro W9 hW9; skip; have y0 := hW9.cell' q0; have y1 := hW9.cell' q1; have y2 := hW9.cell' q2; have y3 := hW9.cell' q3; have y4 := hW9.cell' q4; go_simp; try with_reducible rfl
          simp only [Act.put, List.setIfInBounds_toArray, List.set_cons_zero, List.set_cons_succ]
          refine take1 (i := 7) (some 108) rfl rfl (by kernel_rfl) (by kernel_rfl) (by kernel_rfl) (fun _ _ _ _ h => h) rfl hS ?_
          apply Exists.intro
          apply And.intro
          · intro W9 hW9; skip; go_simp; try with_reducible rfl
          simp only [Act.put, List.setIfInBounds_toArray, List.set_cons_zero, List.set_cons_succ]
          refine take1 (i := 8) (some 109) rfl rfl (by kernel_rfl) (by kernel_rfl) (by kernel_rfl) (fun _ _ _ _ h => h) rfl hS ?_
          apply Exists.intro
          apply And.intro
          · intro W9 hW9; skip; go_simp; try with_reducible rfl
          simp only [Act.put, List.setIfInBounds_toArray, List.set_cons_zero, List.set_cons_succ]
          refine take1 (i := 9) (some 110) rfl rfl (by kernel_rfl) (by kernel_rfl) (by kernel_rfl) (fun _ _ _ _ h => h) rfl hS ?_
          apply Exists.intro
          apply And.intro
          · intro W9 hW9; skip; go_simp; try with_reducible rfl
          simp only [Act.put, List.setIfInBounds_toArray, List.set_cons_zero, List.set_cons_succ]
          refine take1 (i := 10) (some 111) rfl rfl (by kernel_rfl) (by kernel_rfl) (by kernel_rfl) (fun _ _ _ _ h => h) rfl hS ?_
          apply Exists.intro
          apply And.intro
          · intro W9 hW9; skip; go_simp; try with_reducible rfl
          simp only [Act.put, List.setIfInBounds_toArray, List.set_cons_zero, List.set_cons_succ]
          refine take1 (i := 11) (some 112) rfl rfl (by kernel_rfl) (by kernel_rfl) (by kernel_rfl) (fun _ _ _ _ h => h) rfl hS ?_
          apply Exists.intro
          apply And.intro
          · intro W9 hW9; skip; have y5 := hW9.cell' q5; go_simp; try with_reducible rfl
          simp only [Act.put, List.setIfInBounds_toArray, List.set_cons_zero, List.set_cons_succ]
          refine wpAnyH_ready (rs := [5, 12]) (by kernel_rfl) (by simp) ?_
          refine AllReadyH.cons rfl (fun K hK => ?_) ?_
          go_simp
          have hba := Bw.alloc (Bw.refl wd) (.cells #[.int .i64 p.1.a, .int .i64 p.1.n, .bool p.1.g, .int .i64 p.1.u, .int .i64 p.1.c] 24)
          have NA := Lib.hid (Blk.new wd 24 #[.int .i64 p.1.a, .int .i64 p.1.n, .bool p.1.g, .int .i64 p.1.u, .int .i64 p.1.c])
          replace O1 := Lib.hid (own_bw O1.out hba)
          replace O2 := Lib.hid (own_bw O2.out hba)
          refine hK.out _ _ (hS.trans hba) (fun hS => ?_)
          clear hK K
          clear hba
          generalize World.alloc wd _ = wA at hS NA O1 O2 ⊢
          refine wpAnyH_ready (rs := [6, 12]) (by kernel_rfl) (by simp) ?_
          refine AllReadyH.cons rfl (fun K hK => ?_) ?_
          rw [if_pos (by rfl)]
          refine wp_append_fld (.tmp 101) (.tmp 106) _ rfl (some 107) rfl B2 Try.underlying41 _ fsl p.1 rfl O1.out _ 24 rfl NA.out (by have := HLF2.out; omega) (by rw [← HB2.out]; exact hS.size) ?_
          intro v8 wC hown hgr
          simp only [Act.put, List.setIfInBounds_toArray, List.set_cons_zero, List.set_cons_succ]
          have hb9 := Bw.grownN HB2.out hS O1.out hgr
          replace O2 := Lib.hid (own_other O2.out O1.out (by decide) hgr)
          replace O1 := Lib.hid hown
          clear hown hgr NA
          refine hK.out _ _ hb9 (fun hS => ?_)
          clear hK K
          refine wpAnyH_ready (rs := [12]) (by kernel_rfl) (by simp) ?_
          refine AllReadyH.cons rfl (fun K hK => ?_) ?_
          go_simp
          have hba := Bw.alloc (Bw.refl wC) (.cells #[.int .i64 (fldV p)] 3)
          have NI := Lib.hid (Blk.new wC 3 #[.int .i64 (fldV p)])
          replace O1 := Lib.hid (own_bw O1.out hba)
          replace O2 := Lib.hid (own_bw O2.out hba)
          refine hK.out _ _ (hS.trans hba) (fun hS => ?_)
          clear hK K
          clear hba
          generalize World.alloc wC _ = wI at hS NI O1 O2 ⊢
          refine wpAnyH_ready (rs := [13]) (by kernel_rfl) (by simp) ?_
          refine AllReadyH.cons rfl (fun K hK => ?_) ?_
          rw [if_pos (by rfl)]
          refine wp_append_int9 (.tmp 108) (.tmp 113) _ 3 rfl (some 114) rfl B2 Try.underlying22 infoInt _ vsl (fldV p) rfl O2.out _ rfl (NI.out.cell rfl) (by have := HLV2.out; omega) (by rw [← HB2.out]; exact hS.size) ?_
          intro v9 wD hown hgr
          simp only [Act.put, List.setIfInBounds_toArray, List.set_cons_zero, List.set_cons_succ]
          have hb9 := Bw.grownN HB2.out hS O2.out hgr
          replace O1 := Lib.hid (own_other O1.out O2.out (by decide) hgr)
          replace O2 := Lib.hid hown
          clear hown hgr NI
          refine hK.out _ _ hb9 (fun hS => ?_)
          clear hK K
          refine take1 (i := 14) (some 6) rfl rfl (by kernel_rfl) (by kernel_rfl) (by kernel_rfl) (fun _ _ _ _ h => h) rfl hS ?_
          apply Exists.intro
          apply And.intro
          · intro W9 hW9; skip; go_simp; try with_reducible rfl
          simp only [Act.put, List.setIfInBounds_toArray, List.set_cons_zero, List.set_cons_succ]
          refine take1 (i := 15) (some 8) rfl rfl (by kernel_rfl) (by kernel_rfl) (by kernel_rfl) (fun _ _ _ _ h => h) rfl hS ?_
          apply Exists.intro
          apply And.intro
          · intro W9 hW9; skip; go_simp; try with_reducible rfl
          simp only [Act.put, List.setIfInBounds_toArray, List.set_cons_zero, List.set_cons_succ]
          refine wpAnyH_done (by kernel_rfl) ?_ _
          rotate_left
          exact AllReadyH.nil
          exact AllReadyH.nil
          refine AllReadyH.cons rfl (fun K hK => ?_) ?_
          go_simp
          have hba := Bw.alloc (Bw.refl wA) (.cells #[.int .i64 (fldV p)] 3)
          have NI := Lib.hid (Blk.new wA 3 #[.int .i64 (fldV p)])
          replace O1 := Lib.hid (own_bw O1.out hba)
          replace O2 := Lib.hid (own_bw O2.out hba)
          replace NA := Lib.hid (NA.out.bw hba)
          refine hK.out _ _ (hS.trans hba) (fun hS => ?_)
          clear hK K
          clear hba
          generalize World.alloc wA _ = wI at hS NI O1 O2 NA ⊢
          refine wpAnyH_ready (rs := [6]) (by kernel_rfl) (by simp) ?_
          refine AllReadyH.cons rfl (fun K hK => ?_) ?_
          rw [if_pos (by rfl)]
          refine wp_append_fld (.tmp 101) (.tmp 106) _ rfl (some 107) rfl B2 Try.underlying41 _ fsl p.1 rfl O1.out _ 24 rfl NA.out (by have := HLF2.out; omega) (by rw [← HB2.out]; exact hS.size) ?_
          intro v8 wC hown hgr
          simp only [Act.put, List.setIfInBounds_toArray, List.set_cons_zero, List.set_cons_succ]
          have hb9 := Bw.grownN HB2.out hS O1.out hgr
          replace O2 := Lib.hid (own_other O2.out O1.out (by decide) hgr)
          replace NI := Lib.hid (blk_grownT NI.out O1.out hgr (by decide))
          replace O1 := Lib.hid hown
          clear hown hgr NA
          refine hK.out _ _ hb9 (fun hS => ?_)
          clear hK K
          refine wpAnyH_ready (rs := [13]) (by kernel_rfl) (by simp) ?_
          refine AllReadyH.cons rfl (fun K hK => ?_) ?_
          rw [if_pos (by rfl)]
          refine wp_append_int9 (.tmp 108) (.tmp 113) _ 3 rfl (some 114) rfl B2 Try.underlying22 infoInt _ vsl (fldV p) rfl O2.out _ rfl (NI.out.cell rfl) (by have := HLV2.out; omega) (by rw [← HB2.out]; exact hS.size) ?_
          intro v9 wD hown hgr
          simp only [Act.put, List.setIfInBounds_toArray, List.set_cons_zero, List.set_cons_succ]
          have hb9 := Bw.grownN HB2.out hS O2.out hgr
          replace O1 := Lib.hid (own_other O1.out O2.out (by decide) hgr)
          replace O2 := Lib.hid hown
          clear hown hgr NI
          refine hK.out _ _ hb9 (fun hS => ?_)
          clear hK K
          refine take1 (i := 14) (some 6) rfl rfl (by kernel_rfl) (by kernel_rfl) (by kernel_rfl) (fun _ _ _ _ h => h) rfl hS ?_
          apply Exists.intro
          apply And.intro
          · intro W9 hW9; skip; go_simp; try with_reducible rfl
          simp only [Act.put, List.setIfInBounds_toArray, List.set_cons_zero, List.set_cons_succ]
          refine take1 (i := 15) (some 8) rfl rfl (by kernel_rfl) (by kernel_rfl) (by kernel_rfl) (fun _ _ _ _ h => h) rfl hS ?_
          apply Exists.intro
          apply And.intro
          · intro W9 hW9; skip; go_simp; try with_reducible rfl
          simp only [Act.put, List.setIfInBounds_toArray, List.set_cons_zero, List.set_cons_succ]
          refine wpAnyH_done (by kernel_rfl) ?_ _
          rotate_left
          exact AllReadyH.nil
          exact AllReadyH.nil
          exact AllReadyH.nil
          refine AllReadyH.cons rfl (fun K hK => ?_) ?_
          go_simp
          have hba := Bw.alloc (Bw.refl wd) (.cells #[.int .i64 (fldV p)] 3)
          have NI := Lib.hid (Blk.new wd 3 #[.int .i64 (fldV p)])
          replace O1 := Lib.hid (own_bw O1.out hba)
          replace O2 := Lib.hid (own_bw O2.out hba)
          refine hK.out _ _ (hS.trans hba) (fun hS => ?_)
          clear hK K
          clear hba
          generalize World.alloc wd _ = wI at hS NI O1 O2 ⊢
          refine wpAnyH_ready (rs := [5]) (by kernel_rfl) (by simp) ?_
          refine AllReadyH.cons rfl (fun K hK => ?_) ?_
          go_simp
          have hba := Bw.alloc (Bw.refl wI) (.cells #[.int .i64 p.1.a, .int .i64 p.1.n, .bool p.1.g, .int .i64 p.1.u, .int .i64 p.1.c] 24)
          have NA := Lib.hid (Blk.new wI 24 #[.int .i64 p.1.a, .int .i64 p.1.n, .bool p.1.g, .int .i64 p.1.u, .int .i64 p.1.c])
          replace O1 := Lib.hid (own_bw O1.out hba)
          replace O2 := Lib.hid (own_bw O2.out hba)
          replace NI := Lib.hid (NI.out.bw hba)
          refine hK.out _ _ (hS.trans hba) (fun hS => ?_)
          clear hK K
          clear hba
          generalize World.alloc wI _ = wA at hS NA O1 O2 NI ⊢
          refine wpAnyH_ready (rs := [6]) (by kernel_rfl) (by simp) ?_
          refine AllReadyH.cons rfl (fun K hK => ?_) ?_
          rw [if_pos (by rfl)]
          refine wp_append_fld (.tmp 101) (.tmp 106) _ rfl (some 107) rfl B2 Try.underlying41 _ fsl p.1 rfl O1.out _ 24 rfl NA.out (by have := HLF2.out; omega) (by rw [← HB2.out]; exact hS.size) ?_
          intro v8 wC hown hgr
          simp only [Act.put, List.setIfInBounds_toArray, List.set_cons_zero, List.set_cons_succ]
          have hb9 := Bw.grownN HB2.out hS O1.out hgr
          replace O2 := Lib.hid (own_other O2.out O1.out (by decide) hgr)
          replace NI := Lib.hid (blk_grownT NI.out O1.out hgr (by decide))
          replace O1 := Lib.hid hown
          clear hown hgr NA
          refine hK.out _ _ hb9 (fun hS => ?_)
          clear hK K
          refine wpAnyH_ready (rs := [13]) (by kernel_rfl) (by simp) ?_
          refine AllReadyH.cons rfl (fun K hK => ?_) ?_
          rw [if_pos (by rfl)]
          refine wp_append_int9 (.tmp 108) (.tmp 113) _ 3 rfl (some 114) rfl B2 Try.underlying22 infoInt _ vsl (fldV p) rfl O2.out _ rfl (NI.out.cell rfl) (by have := HLV2.out; omega) (by rw [← HB2.out]; exact hS.size) ?_
          intro v9 wD hown hgr
          simp only [Act.put, List.setIfInBounds_toArray, List.set_cons_zero, List.set_cons_succ]
          have hb9 := Bw.grownN HB2.out hS O2.out hgr
          replace O1 := Lib.hid (own_other O1.out O2.out (by decide) hgr)
          replace O2 := Lib.hid hown
          clear hown hgr NI
          refine hK.out _ _ hb9 (fun hS => ?_)
          clear hK K
          refine take1 (i := 14) (some 6) rfl rfl (by kernel_rfl) (by kernel_rfl) (by kernel_rfl) (fun _ _ _ _ h => h) rfl hS ?_
          apply Exists.intro
          apply And.intro
          · intro W9 hW9; skip; go_simp; try with_reducible rfl
          simp only [Act.put, List.setIfInBounds_toArray, List.set_cons_zero, List.set_cons_succ]
          refine take1 (i := 15) (some 8) rfl rfl (by kernel_rfl) (by kernel_rfl) (by kernel_rfl) (fun _ _ _ _ h => h) rfl hS ?_
          apply Exists.intro
          apply And.intro
          · intro W9 hW9; skip; go_simp; try with_reducible rfl
          simp only [Act.put, List.setIfInBounds_toArray, List.set_cons_zero, List.set_cons_succ]
          refine wpAnyH_done (by kernel_rfl) ?_ _
          rotate_left
          exact AllReadyH.nil
          exact AllReadyH.nil
          exact AllReadyH.nil
          exact AllReadyH.nil
          all_goals
            go_wp2
            go_roundg j
            case measure => omega
            case rel => exact ⟨j, by omega, by omega, by go_num, Lib.hid hS, Lib.hid (by rw [HT1.out]; exact O1.out), Lib.hid (by rw [HT2.out]; exact O2.out)⟩
end Go.Proofs.Sky
