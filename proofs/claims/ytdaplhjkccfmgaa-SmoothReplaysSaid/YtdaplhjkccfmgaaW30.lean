/-
  lemmas for the theorems of this claim. No conditions beyond those written in the statements.
-/
import Derived.Test.YtdaplhjkccfmgaaV30c
import Derived.Test.YtdaplhjkccfmgaaO30
set_option linter.unusedVariables false
set_option linter.unusedSimpArgs false
set_option linter.unnecessarySimpa false
namespace Go.Proofs.Sky
open Go Go.RowKit Go.Shelf
set_option maxHeartbeats 4000000
theorem own0 {e : TypeId} (W : World) (n : Nat) (h : W.heap.size = n) : (W.alloc (.cells #[] e)).ownsRow n e 1 (.slice (some ⟨n, 0, none⟩) 0 0) ([] : List Int).length (([] : List Int).map (Value.int .i64)) := by
  subst h
  exact World.ownsRow_lit W #[] 0 (Nat.le_refl _) (by unfold maxLen; omega) (by simp)
theorem Bw.grownN {a b c : World} {e : TypeId} {k : Nat} {v : Value} {m n : Nat} {xs : List Value} (hn : a.heap.size = n) (h : Bw a b) (ho : b.ownsRow n e k v m xs) (hg : b.grownBy c v.ownBlock) : Bw a c := by
  subst hn; exact Bw.grown h ho hg
theorem newP_any (W L : Int) : ∃ x3 y3 e3, NewP W L = fun e => e = .returned (.tuple #[.agg #[.int .i64 x3, .int .i64 y3, .slice none 0 0], .int .i64 e3]) := ⟨_, _, _, rfl⟩
theorem law_steps (W L : Int) (ds : List Int) (v : Value) (p f : Int) (w : World) (hv : RdI w v ds) : Calls Try.prog 4 #[.agg #[.int .i64 W, .int .i64 L, v], .int .i64 p, .int .i64 f] w fun e w' => e = .returned (.bool true) ∧ Bw w w' := by
  have HV := Lib.hid hv
  obtain ⟨ad, cap, rfl⟩ := hv.form
  clear hv
  by_cases hl : 120 < ds.length
  · have hli : (120 : Int) < ds.length := by omega
    go_enter Try.func4, Try.ntmps4
    go_wp2_with (go_at_call 9; refine (awake_any _).mono ?_; rintro e w' ⟨rfl, hb⟩; obtain ⟨hcc, hff⟩ := Bw.cells hb; have hsz := Bw.size hb; try (have hz0 : w.heap.size < w'.heap.size := by (try simp at hsz); omega); try (have hz1 : w.heap.size + 1 < w'.heap.size := by (try simp at hsz); omega); try (have hz2 : w.heap.size + 1 + 1 < w'.heap.size := by (try simp at hsz); omega); try (have hz3 : w.heap.size + 1 + 1 + 1 < w'.heap.size := by (try simp at hsz); omega); try (have hz4 : w.heap.size + 1 + 1 + 1 + 1 < w'.heap.size := by (try simp at hsz); omega); try (have hzr : wr.heap.size < w'.heap.size := by (try simp at hsz); omega); try (have hzr1 : wr.heap.size + 1 < w'.heap.size := by (try simp at hsz); omega))
    go_ret
    exact ⟨rfl, (by repeat (first | exact Bw.refl _ | assumption | refine Bw.alloc ?_ _ | refine Bw.drew ?_ | refine Bw.trans ?_ (by assumption) | refine Bw.setCell ?_ (by simp; try omega) _))⟩
  · have hli : ¬ (120 : Int) < ds.length := by omega
    have hS1 := fun a c X (h : RdI X (.slice a ds.length c) ds) => Step_any W L ds (.slice a ds.length c) p f X h
    have hS2 := fun X (h : RdI X (.slice ad ds.length cap) ds) => RStep_any W L ds (.slice ad ds.length cap) p f X h
    unfold StepR StepP at hS1 hS2
    generalize stepR W L ds p f = R at hS1 hS2
    obtain ⟨x1, y1, l1, n1, d1, s1, e1⟩ := R
    dsimp only at hS1 hS2
    have hN1 := fun X => New_any W L X
    have hN2 := fun X => RNew_any W L X
    obtain ⟨x3, y3, e3, hNP⟩ := newP_any W L
    rw [hNP] at hN1 hN2
    have HC1 := Lib.hid (fun X h => Check_any W L ds (.slice ad ds.length cap) X h)
    have HC2 := Lib.hid (fun X h => RCheck_any W L ds (.slice ad ds.length cap) X h)
    generalize errC W L ds = ec at HC1 HC2
    have hS1x := fun a c => Lib.hid (fun X h => hS1 a c X h); clear hS1
    have HS2 := Lib.hid hS2; clear hS2
    have HN1 := Lib.hid hN1; clear hN1
    have HN2 := Lib.hid hN2; clear hN2 hNP
    go_enter Try.func4, Try.ntmps4
    go_wp2_with (first | (at_builtin; refine wpList_append_int rfl _ _ _ rfl (w.heap.size + 1) 3 Try.underlying26 infoInt _ [] ds rfl (own0 (e := 3) (w.alloc (.cells #[.int .i64 W, .int .i64 L, .slice ad ds.length cap] 34)) (w.heap.size + 1) (by simp)) ad ds.length cap rfl (HV.out.mono (Bw.alloc (Bw.alloc (Bw.refl w) _) _)) (by simp; omega) (by simp) ?_; intro v0 w0 hown hgrow; have hb0 : Bw (w.alloc (.cells #[.int .i64 W, .int .i64 L, .slice ad ds.length cap] 34)) w0 := Bw.grownN (n := w.heap.size + 1) (by simp) (Bw.alloc (Bw.refl _) _) (own0 (e := 3) (w.alloc (.cells #[.int .i64 W, .int .i64 L, .slice ad ds.length cap] 34)) (w.heap.size + 1) (by simp)) hgrow; obtain ⟨hrd, _⟩ := own_rd hown (by simp; omega); simp only [List.nil_append] at hrd; obtain ⟨a0, c0, rfl⟩ := hrd.form; have HO := Lib.hid hrd; clear hrd hown hgrow; have P3 := Lib.hid ((Blk.new w _ _).bw hb0); have HBW := Lib.hid ((Bw.alloc (Bw.refl w) (.cells #[.int .i64 W, .int .i64 L, .slice ad ds.length cap] 34)).trans hb0); clear hb0; have k0 : w0.cell? ⟨w.heap.size, 0, none⟩ = some (.int .i64 W) := P3.out.cell rfl; have k1 : w0.cell? ⟨w.heap.size, 1, none⟩ = some (.int .i64 L) := P3.out.cell rfl; have k2 : w0.cell? ⟨w.heap.size, 2, none⟩ = some (.slice ad ds.length cap) := P3.out.cell rfl) | (go_at_call 14; refine ((hS1x a0 c0).out _ HO.out).mono ?_; rintro e w1 ⟨⟨v1, rfl, hr1, _⟩, hb1⟩; obtain ⟨a1, c1, rfl⟩ := hr1.form; have HR1 := Lib.hid hr1; clear hr1; replace k0 := hb1.cell' k0; replace k1 := hb1.cell' k1; replace k2 := hb1.cell' k2; replace P3 := Lib.hid (P3.out.bw hb1); replace HBW := Lib.hid (HBW.out.trans hb1); replace HO := Lib.hid (HO.out.mono hb1); have hz1 : w.heap.size < w1.heap.size := lt_of_cell k0; clear hb1) | (go_at_call 15; refine (HS2.out _ (HV.out.mono (HBW.out.trans (Bw.alloc (Bw.alloc (Bw.refl w1) _) _)))).mono ?_; rintro e w2 ⟨⟨v2, rfl, hr2, _⟩, hb2⟩; obtain ⟨a2, c2, rfl⟩ := hr2.form; have HR2 := Lib.hid hr2; clear hr2; have hbx : Bw w1 ((w1.alloc (.cells #[.int .i64 x1, .int .i64 y1, .slice a1 l1.length c1] 34)).alloc (.cells #[.int .i64 n1, .int .i64 d1] 36)) := Bw.alloc (Bw.alloc (Bw.refl w1) _) _; have P4 := Lib.hid (((Blk.new w1 34 #[.int .i64 x1, .int .i64 y1, .slice a1 l1.length c1]).alloc (.cells #[.int .i64 n1, .int .i64 d1] 36)).bw hb2); have P5 : Hid (Blk w2 (w1.heap.size + 1) 36 #[.int .i64 n1, .int .i64 d1]) := Lib.hid (by have := (Blk.new (w1.alloc (.cells #[.int .i64 x1, .int .i64 y1, .slice a1 l1.length c1] 34)) 36 #[.int .i64 n1, .int .i64 d1]).bw hb2; simpa using this); have hbt := hbx.trans hb2; replace k0 := hbt.cell' k0; replace k1 := hbt.cell' k1; replace k2 := hbt.cell' k2; replace P3 := Lib.hid (P3.out.bw hbt); replace HBW := Lib.hid (HBW.out.trans hbt); replace HO := Lib.hid (HO.out.mono hbt); replace HR1 := Lib.hid (HR1.out.mono hbt); have hz2 : w.heap.size < w2.heap.size := lt_of_cell k0; clear hbx hb2 hbt) | (go_at_call 16; refine (HN1.out _).mono ?_; rintro e w3 ⟨rfl, hb3⟩; have hbx : Bw w2 ((w2.alloc (.cells #[.int .i64 x1, .int .i64 y1, .slice a2 l1.length c2] 34)).alloc (.cells #[.int .i64 n1, .int .i64 d1] 36)) := Bw.alloc (Bw.alloc (Bw.refl w2) _) _; have P6 := Lib.hid (((Blk.new w2 34 #[.int .i64 x1, .int .i64 y1, .slice a2 l1.length c2]).alloc (.cells #[.int .i64 n1, .int .i64 d1] 36)).bw hb3); have P7 : Hid (Blk w3 (w2.heap.size + 1) 36 #[.int .i64 n1, .int .i64 d1]) := Lib.hid (by have := (Blk.new (w2.alloc (.cells #[.int .i64 x1, .int .i64 y1, .slice a2 l1.length c2] 34)) 36 #[.int .i64 n1, .int .i64 d1]).bw hb3; simpa using this); have hbt := hbx.trans hb3; replace k0 := hbt.cell' k0; replace k1 := hbt.cell' k1; replace k2 := hbt.cell' k2; replace P3 := Lib.hid (P3.out.bw hbt); replace P4 := Lib.hid (P4.out.bw hbt); replace P5 := Lib.hid (P5.out.bw hbt); replace HBW := Lib.hid (HBW.out.trans hbt); replace HO := Lib.hid (HO.out.mono hbt); replace HR1 := Lib.hid (HR1.out.mono hbt); replace HR2 := Lib.hid (HR2.out.mono hbt); have hz3 : w.heap.size < w3.heap.size := lt_of_cell k0; clear hbx hb3 hbt) | (go_at_call 17; refine (HN2.out _).mono ?_; rintro e w4 ⟨rfl, hb4⟩; have hbx : Bw w3 (w3.alloc (.cells #[.int .i64 x3, .int .i64 y3, .slice none 0 0] 34)) := Bw.alloc (Bw.refl w3) _; have P8 := Lib.hid ((Blk.new w3 34 #[.int .i64 x3, .int .i64 y3, .slice none 0 0]).bw hb4); have hbt := hbx.trans hb4; replace k0 := hbt.cell' k0; replace k1 := hbt.cell' k1; replace k2 := hbt.cell' k2; replace P3 := Lib.hid (P3.out.bw hbt); replace P4 := Lib.hid (P4.out.bw hbt); replace P5 := Lib.hid (P5.out.bw hbt); replace P6 := Lib.hid (P6.out.bw hbt); replace P7 := Lib.hid (P7.out.bw hbt); replace HBW := Lib.hid (HBW.out.trans hbt); replace HO := Lib.hid (HO.out.mono hbt); replace HR1 := Lib.hid (HR1.out.mono hbt); replace HR2 := Lib.hid (HR2.out.mono hbt); have hz4 : w.heap.size < w4.heap.size := lt_of_cell k0; clear hbx hb4 hbt))
    have hbx : Bw w4 (w4.alloc (.cells #[.int .i64 x3, .int .i64 y3, .slice none 0 0] 34)) := Bw.alloc (Bw.refl w4) _
    have P9 := Lib.hid (Blk.new w4 34 #[.int .i64 x3, .int .i64 y3, .slice none 0 0])
    replace k0 := hbx.cell' k0; replace k1 := hbx.cell' k1; replace k2 := hbx.cell' k2
    replace P4 := Lib.hid (P4.out.bw hbx)
    replace P5 := Lib.hid (P5.out.bw hbx)
    replace P6 := Lib.hid (P6.out.bw hbx)
    replace P7 := Lib.hid (P7.out.bw hbx)
    replace P8 := Lib.hid (P8.out.bw hbx)
    replace HBW := Lib.hid (HBW.out.trans hbx)
    replace HO := Lib.hid (HO.out.mono hbx)
    replace HR1 := Lib.hid (HR1.out.mono hbx)
    replace HR2 := Lib.hid (HR2.out.mono hbx)
    clear hbx P3
    generalize w4.alloc (.cells #[.int .i64 x3, .int .i64 y3, .slice none 0 0] 34) = W9 at P4 P5 P6 P7 P8 P9 k0 k1 k2 HBW HO HR1 HR2 ⊢
    have ek0 := fun p : Ext W9 => Ext.cell' k0 p
    have ek1 := fun p : Ext W9 => Ext.cell' k1 p
    have ek2 := fun p : Ext W9 => Ext.cell' k2 p
    have P40 : W9.cell? ⟨w1.heap.size, 0, none⟩ = some (.int .i64 x1) := P4.out.cell rfl
    have eP40 := fun p : Ext W9 => Ext.cell' P40 p
    have P41 : W9.cell? ⟨w1.heap.size, 1, none⟩ = some (.int .i64 y1) := P4.out.cell rfl
    have eP41 := fun p : Ext W9 => Ext.cell' P41 p
    have P42 : W9.cell? ⟨w1.heap.size, 2, none⟩ = some (.slice a1 l1.length c1) := P4.out.cell rfl
    have eP42 := fun p : Ext W9 => Ext.cell' P42 p
    have P50 : W9.cell? ⟨w1.heap.size + 1, 0, none⟩ = some (.int .i64 n1) := P5.out.cell rfl
    have eP50 := fun p : Ext W9 => Ext.cell' P50 p
    have P51 : W9.cell? ⟨w1.heap.size + 1, 1, none⟩ = some (.int .i64 d1) := P5.out.cell rfl
    have eP51 := fun p : Ext W9 => Ext.cell' P51 p
    have P60 : W9.cell? ⟨w2.heap.size, 0, none⟩ = some (.int .i64 x1) := P6.out.cell rfl
    have eP60 := fun p : Ext W9 => Ext.cell' P60 p
    have P61 : W9.cell? ⟨w2.heap.size, 1, none⟩ = some (.int .i64 y1) := P6.out.cell rfl
    have eP61 := fun p : Ext W9 => Ext.cell' P61 p
    have P62 : W9.cell? ⟨w2.heap.size, 2, none⟩ = some (.slice a2 l1.length c2) := P6.out.cell rfl
    have eP62 := fun p : Ext W9 => Ext.cell' P62 p
    have P70 : W9.cell? ⟨w2.heap.size + 1, 0, none⟩ = some (.int .i64 n1) := P7.out.cell rfl
    have eP70 := fun p : Ext W9 => Ext.cell' P70 p
    have P71 : W9.cell? ⟨w2.heap.size + 1, 1, none⟩ = some (.int .i64 d1) := P7.out.cell rfl
    have eP71 := fun p : Ext W9 => Ext.cell' P71 p
    have P80 : W9.cell? ⟨w3.heap.size, 0, none⟩ = some (.int .i64 x3) := P8.out.cell rfl
    have eP80 := fun p : Ext W9 => Ext.cell' P80 p
    have P81 : W9.cell? ⟨w3.heap.size, 1, none⟩ = some (.int .i64 y3) := P8.out.cell rfl
    have eP81 := fun p : Ext W9 => Ext.cell' P81 p
    have P82 : W9.cell? ⟨w3.heap.size, 2, none⟩ = some (.slice none 0 0) := P8.out.cell rfl
    have eP82 := fun p : Ext W9 => Ext.cell' P82 p
    have P90 : W9.cell? ⟨w4.heap.size, 0, none⟩ = some (.int .i64 x3) := P9.out.cell rfl
    have eP90 := fun p : Ext W9 => Ext.cell' P90 p
    have P91 : W9.cell? ⟨w4.heap.size, 1, none⟩ = some (.int .i64 y3) := P9.out.cell rfl
    have eP91 := fun p : Ext W9 => Ext.cell' P91 p
    have P92 : W9.cell? ⟨w4.heap.size, 2, none⟩ = some (.slice none 0 0) := P9.out.cell rfl
    have eP92 := fun p : Ext W9 => Ext.cell' P92 p
    have Q1 := Lib.hid (fun p : Ext W9 => Calls.ext_of (state_same x1 y1 l1 _ _ _ (HR1.out.mono p.b) (HR2.out.mono p.b)))
    have Q2 := Lib.hid (fun p : Ext W9 => Calls.ext_of (state_same x3 y3 [] _ _ _ (RdI.nil p.W) (RdI.nil p.W)))
    (refine wp_region_quiet_ext (by kernel_rfl) (by kernel_rfl) ?_; (repeat (go_big_quiet_step ((first | (go_at_call 18; first | (with_reducible exact Q1.out _) | (with_reducible exact Q2.out _)) | (go_at_call 19; exact Calls.ext_of (HC1.out _ (HV.out.mono (HBW.out.trans (Ext.b _))))) | (go_at_call 20; exact Calls.ext_of (HC2.out _ (HV.out.mono (HBW.out.trans (Ext.b _))))) | (go_at_call 13; exact Calls.ext_of (same_same ds _ _ _ (HO.out.mono (Ext.b _)) (HV.out.mono (HBW.out.trans (Ext.b _))))) | (go_at_call 9; exact Calls.ext_of (awake_any _)))))); refine wpQuiet_nil ?_; rintro wq ⟨⟨_, hbq⟩, rfl⟩; obtain ⟨hccq, hffq⟩ := Bw.cells hbq; have hszq := Bw.size hbq)
    go_wp2
    go_ret
    exact ⟨rfl, HBW.out.trans hbq⟩
end Go.Proofs.Sky
