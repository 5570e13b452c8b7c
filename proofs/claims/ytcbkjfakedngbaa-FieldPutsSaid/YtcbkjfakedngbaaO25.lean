/-
  lemmas for the theorems of this claim. No conditions beyond those written in the statements.
-/
import Derived.Test.YtcbkjfakedngbaaN25
set_option linter.unusedVariables false
set_option linter.unusedSimpArgs false
set_option linter.unnecessarySimpa false
namespace Go.Proofs.Sky
open Go Go.RowKit Go.Shelf
set_option maxHeartbeats 2000000
theorem law_puts (zs : List Int) (v : Value) (a n : Int) (g : Bool) (u c x : Int) (w : World) (hv : RdI w v zs) : Calls Try.prog 3 #[v, .agg #[.int .i64 a, .int .i64 n, .bool g, .int .i64 u, .int .i64 c], .int .i64 x] w fun e w' => e = .returned (.bool true) ∧ Bw w w' := by
  obtain ⟨ad, cap, rfl⟩ := hv.form
  have HV := Lib.hid hv
  clear hv
  by_cases hl : 200 < zs.length
  · have hli : (200 : Int) < zs.length := by omega
    go_enter Try.func3, Try.ntmps3
    go_wp2_with (go_at_call 9; refine (awake_any _).mono ?_; rintro e w' ⟨rfl, hb⟩; obtain ⟨hcc, hff⟩ := Bw.cells hb; have hsz := Bw.size hb; try (have hz0 : w.heap.size < w'.heap.size := by (try simp at hsz); omega); try (have hz1 : w.heap.size + 1 < w'.heap.size := by (try simp at hsz); omega); try (have hz2 : w.heap.size + 1 + 1 < w'.heap.size := by (try simp at hsz); omega); try (have hz3 : w.heap.size + 1 + 1 + 1 < w'.heap.size := by (try simp at hsz); omega); try (have hz4 : w.heap.size + 1 + 1 + 1 + 1 < w'.heap.size := by (try simp at hsz); omega); try (have hzr : wr.heap.size < w'.heap.size := by (try simp at hsz); omega); try (have hzr1 : wr.heap.size + 1 < w'.heap.size := by (try simp at hsz); omega))
    go_ret
    exact ⟨rfl, (by repeat (first | exact Bw.refl _ | assumption | refine Bw.alloc ?_ _ | refine Bw.drew ?_ | refine Bw.trans ?_ (by assumption) | refine Bw.setCell ?_ (by simp; try omega) _))⟩
  · have hli : ¬ (200 : Int) < zs.length := by omega
    have k0 : (w.alloc (Obj.cells #[.int .i64 a, .int .i64 n, .bool g, .int .i64 u, .int .i64 c] 24)).cell? ⟨w.heap.size, 0, none⟩ = some (.int .i64 a) := by simp [go_sem]
    have k1 : (w.alloc (Obj.cells #[.int .i64 a, .int .i64 n, .bool g, .int .i64 u, .int .i64 c] 24)).cell? ⟨w.heap.size, 1, none⟩ = some (.int .i64 n) := by simp [go_sem]
    have k2 : (w.alloc (Obj.cells #[.int .i64 a, .int .i64 n, .bool g, .int .i64 u, .int .i64 c] 24)).cell? ⟨w.heap.size, 2, none⟩ = some (.bool g) := by simp [go_sem]
    have k3 : (w.alloc (Obj.cells #[.int .i64 a, .int .i64 n, .bool g, .int .i64 u, .int .i64 c] 24)).cell? ⟨w.heap.size, 3, none⟩ = some (.int .i64 u) := by simp [go_sem]
    have k4 : (w.alloc (Obj.cells #[.int .i64 a, .int .i64 n, .bool g, .int .i64 u, .int .i64 c] 24)).cell? ⟨w.heap.size, 4, none⟩ = some (.int .i64 c) := by simp [go_sem]
    have HBW : Hid (Bw w (w.alloc (Obj.cells #[.int .i64 a, .int .i64 n, .bool g, .int .i64 u, .int .i64 c] 24))) := Lib.hid (by repeat (first | exact Bw.refl _ | assumption | refine Bw.alloc ?_ _ | refine Bw.drew ?_ | refine Bw.trans ?_ (by assumption) | refine Bw.setCell ?_ (by simp; try omega) _))
    go_enter Try.func3, Try.ntmps3
    go_wp2_with (first | (go_at_call 10; refine (Limits_any _ _ _ _ _ _).mono ?_; rintro e w1 ⟨hP, hb⟩; unfold LimP at hP; subst hP; replace k0 := hb.cell' k0; replace k1 := hb.cell' k1; replace k2 := hb.cell' k2; replace k3 := hb.cell' k3; replace k4 := hb.cell' k4; replace HBW := Lib.hid (Bw.trans HBW.out hb); have hbs := HBW.out.size) | (go_at_call 11; refine (RLimits_any _ _ _ _ _ _).mono ?_; rintro e w2 ⟨hP, hb⟩; unfold LimP at hP; subst hP; replace k0 := hb.cell' k0; replace k1 := hb.cell' k1; replace k2 := hb.cell' k2; replace k3 := hb.cell' k3; replace k4 := hb.cell' k4; replace HBW := Lib.hid (Bw.trans HBW.out hb); have hbs := HBW.out.size) | (at_builtin; refine wpList_append_int rfl _ _ _ rfl w2.heap.size 3 Try.underlying22 infoInt _ [] zs rfl (World.ownsRow_lit _ #[] 0 (Nat.le_refl _) (by unfold maxLen; omega) (by simp)) ad zs.length cap rfl (HV.out.mono (Bw.alloc HBW.out _)) (by simp; omega) (by simp) ?_))
    intro v3 w3 hown hgrow
    have hb : Bw w2 w3 := Bw.grown (Bw.alloc (Bw.refl w2) _) (World.ownsRow_lit (e := 3) (size := 1) w2 #[] 0 (Nat.le_refl _) (by unfold maxLen; omega) (by simp)) hgrow
    replace k0 := hb.cell' k0
    replace k1 := hb.cell' k1
    replace k2 := hb.cell' k2
    replace k3 := hb.cell' k3
    replace k4 := hb.cell' k4
    replace HBW := Lib.hid (Bw.trans HBW.out hb)
    have hbs := HBW.out.size
    obtain ⟨hrd, _⟩ := own_rd hown (by omega)
    obtain ⟨ad3, cap3, rfl⟩ := hrd.form
    have HO := Lib.hid hrd
    clear hrd hown hgrow
    go_wp2_with (first | (go_at_call 12; refine (Put_any zs _ a n g u c x _ HO.out (by omega)).mono ?_; rintro e w4 ⟨⟨v4, rfl, hr4, _⟩, hb⟩; obtain ⟨a4, c4, rfl⟩ := hr4.form; replace k0 := hb.cell' k0; replace k1 := hb.cell' k1; replace k2 := hb.cell' k2; replace k3 := hb.cell' k3; replace k4 := hb.cell' k4; replace HBW := Lib.hid (Bw.trans HBW.out hb); have hbs := HBW.out.size; have H4 := Lib.hid hr4; clear hr4; replace HO := Lib.hid (HO.out.mono hb)) | (go_at_call 13; refine (RPut_any zs _ a n g u c x _ (HV.out.mono HBW.out) (by omega)).mono ?_; rintro e w5 ⟨⟨v5, rfl, hr5, _⟩, hb⟩; obtain ⟨a5, c5, rfl⟩ := hr5.form; replace k0 := hb.cell' k0; replace k1 := hb.cell' k1; replace k2 := hb.cell' k2; replace k3 := hb.cell' k3; replace k4 := hb.cell' k4; replace HBW := Lib.hid (Bw.trans HBW.out hb); have hbs := HBW.out.size; have H5 := Lib.hid hr5; clear hr5; replace HO := Lib.hid (HO.out.mono hb); replace H4 := Lib.hid (H4.out.mono hb)) | (go_at_call 14; refine (Get_any zs _ a n g u c _ HO.out).mono ?_; rintro e w6 ⟨hP, hb⟩; unfold GetP at hP; subst hP; replace k0 := hb.cell' k0; replace k1 := hb.cell' k1; replace k2 := hb.cell' k2; replace k3 := hb.cell' k3; replace k4 := hb.cell' k4; replace HBW := Lib.hid (Bw.trans HBW.out hb); have hbs := HBW.out.size; replace HO := Lib.hid (HO.out.mono hb); replace H4 := Lib.hid (H4.out.mono hb); replace H5 := Lib.hid (H5.out.mono hb)) | (go_at_call 15; refine (RGet_any zs _ a n g u c _ (HV.out.mono HBW.out)).mono ?_; rintro e w7 ⟨hP, hb⟩; unfold GetP at hP; subst hP; replace k0 := hb.cell' k0; replace k1 := hb.cell' k1; replace k2 := hb.cell' k2; replace k3 := hb.cell' k3; replace k4 := hb.cell' k4; replace HBW := Lib.hid (Bw.trans HBW.out hb); have hbs := HBW.out.size; replace HO := Lib.hid (HO.out.mono hb); replace H4 := Lib.hid (H4.out.mono hb); replace H5 := Lib.hid (H5.out.mono hb)))
    have e0 := fun p : Ext w7 => Ext.cell' k0 p
    have e1 := fun p : Ext w7 => Ext.cell' k1 p
    have e2 := fun p : Ext w7 => Ext.cell' k2 p
    have e3 := fun p : Ext w7 => Ext.cell' k3 p
    have e4 := fun p : Ext w7 => Ext.cell' k4 p
    (refine wp_region_quiet_ext (by kernel_rfl) (by kernel_rfl) ?_; (repeat (go_big_quiet_step ((first | (go_at_call 16; exact Calls.ext_of (Check_any _ _ _ _ _ _)) | (go_at_call 17; exact Calls.ext_of (RCheck_any _ _ _ _ _ _)) | (go_at_call 18; first | exact Calls.ext_of (alike_same _ _ _ _ (H4.out.mono (Ext.b _)) (H5.out.mono (Ext.b _))) | exact Calls.ext_of (alike_same _ _ _ _ (HO.out.mono (Ext.b _)) (HV.out.mono (Bw.trans HBW.out (Ext.b _))))) | (go_at_call 9; exact Calls.ext_of (awake_any _)))))); refine wpQuiet_nil ?_; rintro wq ⟨⟨_, hbq⟩, rfl⟩; obtain ⟨hccq, hffq⟩ := Bw.cells hbq; have hszq := Bw.size hbq)
    go_wp2
    go_ret
    exact ⟨rfl, Bw.trans HBW.out hbq⟩
end Go.Proofs.Sky
