/-
  lemmas for the theorems of this claim. No conditions beyond those written in the statements.
-/
import Derived.Test.YtcbkjfakedngbaaU25
set_option linter.unusedVariables false
set_option linter.unusedSimpArgs false
set_option linter.unnecessarySimpa false
namespace Go.Proofs.Sky
open Go Go.RowKit Go.Shelf
set_option maxHeartbeats 2000000
def unR (i : Nat) (zs out : List Int) : List Fd → List Int × (Int × Int)
  | [] => (out, (0, 0))
  | f :: r => if errT zs f.a f.n f.u f.c = 0 then unR (i + 1) zs (out ++ [getR zs f.a f.n f.g f.u f.c]) r else ([], (errT zs f.a f.n f.u f.c, (i : Int)))
def unpackR (fs : List Fd) (zs : List Int) : List Int × (Int × Int) := if (layout fs zs.length).1 = 0 then unR 0 zs [] fs else ([], layout fs zs.length)
theorem un_step (k : Nat) (zs out : List Int) (fs : List Fd) (f : Fd) (h : fs[k]? = some f) : unR k zs out (fs.drop k) = if errT zs f.a f.n f.u f.c = 0 then unR (k + 1) zs (out ++ [getR zs f.a f.n f.g f.u f.c]) (fs.drop (k + 1)) else ([], (errT zs f.a f.n f.u f.c, (k : Int))) := by
  obtain ⟨hk, e⟩ := List.getElem?_eq_some_iff.1 h
  rw [List.drop_eq_getElem_cons hk, e, unR]
theorem PkC.grow {w a b : World} {row : Option Nat} (h : PkC w a) (hg : a.grownBy b row) (hr : ∀ j, row = some j → w.heap.size + 1 ≤ j) : PkC w b := by
  have ne : some w.heap.size ≠ row := fun e => by have := hr _ e.symm; omega
  exact ⟨Below.grown h.bw.out hg h.bw.size (fun k e => by have := hr k e; omega), Nat.le_trans h.sz hg.size, hg.cell h.r0 ne, hg.cell h.r1 ne, (World.frozen?_of_block (hg.block _ (lt_of_cell h.r0) ne)).trans h.f0, (World.frozen?_of_block (hg.block _ (lt_of_cell h.r0) ne)).trans h.f1⟩
theorem unpack_lay (fs : List Fd) (zs : List Int) (vf vv : Value) (w : World) (hf : RdF w vf fs) (hv : RdI w vv zs) (hl : (layout fs zs.length).1 ≠ 0) :
    Calls Try.prog 27 #[vf, vv] w fun e w' => PackP w.heap.size [] (layout fs zs.length).1 (layout fs zs.length).2 e w' ∧ Bw w w' := by
  have HL := Lib.hid (fun W hW => Layout_any fs vf zs.length W hW)
  have HF := Lib.hid hf
  obtain ⟨a1, c1, rfl⟩ := hf.form
  obtain ⟨a2, c2, rfl⟩ := hv.form
  clear hf hv
  unfold LayP at HL
  have hne : ((layout fs zs.length).1 != 0) = true := by simpa using hl
  clear hl
  generalize layout fs zs.length = lay at *
  obtain ⟨l1, l2⟩ := lay
  go_enter Try.func27, Try.ntmps27
  go_wp2_with (go_at_call 23; refine (HL.out _ (HF.out.mono (by repeat (first | exact Bw.refl _ | assumption | refine Bw.alloc ?_ _ | refine Bw.drew ?_ | refine Bw.trans ?_ (by assumption) | refine Bw.setCell ?_ (by simp; try omega) _)))).mono ?_; rintro e w' ⟨rfl, hb⟩; obtain ⟨hcc, hff⟩ := Bw.cells hb; have hsz := Bw.size hb; try (have hz0 : w.heap.size < w'.heap.size := by (try simp at hsz); omega); try (have hz1 : w.heap.size + 1 < w'.heap.size := by (try simp at hsz); omega); try (have hz2 : w.heap.size + 1 + 1 < w'.heap.size := by (try simp at hsz); omega); try (have hz3 : w.heap.size + 1 + 1 + 1 < w'.heap.size := by (try simp at hsz); omega); try (have hz4 : w.heap.size + 1 + 1 + 1 + 1 < w'.heap.size := by (try simp at hsz); omega); try (have hzr : wr.heap.size < w'.heap.size := by (try simp at hsz); omega); try (have hzr1 : wr.heap.size + 1 < w'.heap.size := by (try simp at hsz); omega))
  have hC : PkC w (w'.alloc (Obj.cells #[.int .i64 l1, .int .i64 l2] 43)) := ⟨(by repeat (first | exact Bw.refl _ | assumption | refine Bw.alloc ?_ _ | refine Bw.drew ?_ | refine Bw.trans ?_ (by assumption) | refine Bw.setCell ?_ (by simp; try omega) _)), by simp; omega, by simp [*, go_sem], by simp [*, go_sem], by simp [*, go_sem], by simp [*, go_sem]⟩
  have q0 : (w'.alloc (Obj.cells #[.int .i64 l1, .int .i64 l2] 43)).cell? ⟨w'.heap.size, 0, none⟩ = some (.int .i64 l1) := by simp [go_sem]
  have q1 : (w'.alloc (Obj.cells #[.int .i64 l1, .int .i64 l2] 43)).cell? ⟨w'.heap.size, 1, none⟩ = some (.int .i64 l2) := by simp [go_sem]
  generalize (w'.alloc (Obj.cells #[.int .i64 l1, .int .i64 l2] 43)) = W0 at hC q0 q1 ⊢
  clear hcc hff
  have e0 := fun p : Ext W0 => Ext.cell' q0 p
  have e1 := fun p : Ext W0 => Ext.cell' q1 p
  (refine wp_region_ext_tail 2 (by kernel_rfl) (by kernel_rfl) ?_; simp only [List.take_succ_cons, List.take_zero, List.drop_succ_cons, List.drop_zero]; (repeat (go_big_quiet_step ((fail)))); refine wpQuiet_nil ?_; rintro wq ⟨⟨_, hbq⟩, rfl⟩; obtain ⟨hccq, hffq⟩ := Bw.cells hbq; have hszq := Bw.size hbq)
  have hC2 := hC.mono hbq
  have r0 := hC2.r0
  have r1 := hC2.r1
  have f0 := hC2.f0
  have f1 := hC2.f1
  clear hccq hffq e0 e1
  go_wp2
  have hF := hC2.fault (.int .i64 l1) (.int .i64 l2)
  refine bodyPost_ret (v := .tuple #[.slice none 0 0, .agg #[.int .i64 l1, .int .i64 l2]]) ?_ rfl ⟨?_, ?_⟩
  · simp [results, Try.results27, go_sem, hF.2.1, hF.2.2]
  · exact packP_nil _ _ _ _
  · exact hF.1
theorem unpack_ok (fs : List Fd) (zs : List Int) (vf vv : Value) (w : World) (hf : RdF w vf fs) (hv : RdI w vv zs) (hl : (layout fs zs.length).1 = 0) :
    Calls Try.prog 27 #[vf, vv] w fun e w' => PackP w.heap.size (unR 0 zs [] fs).1 (unR 0 zs [] fs).2.1 (unR 0 zs [] fs).2.2 e w' ∧ Bw w w' := by
  have HL := Lib.hid (fun W hW => Layout_any fs vf zs.length W hW)
  have HGT := Lib.hid (fun a n g u c W hW => Get_any zs vv a n g u c W hW)
  have HF := Lib.hid hf
  have HV := Lib.hid hv
  obtain ⟨hlen, a1, c1, rfl, hz⟩ := hf
  obtain ⟨hl100, hgood⟩ := layout_zero hl
  have HG := Lib.hid hgood; clear hgood
  have HZ := Lib.hid hz; clear hz
  obtain ⟨a2, c2, rfl⟩ := hv.form
  clear hv
  unfold LayP at HL
  unfold GetP at HGT
  rw [hl] at HL
  obtain ⟨m, hm⟩ : ∃ m, fs.length = m := ⟨_, rfl⟩
  have HN := Lib.hid hm
  rw [hm] at hl100 HF HL ⊢
  obtain ⟨R, hR⟩ : ∃ R, unR 0 zs [] fs = R := ⟨_, rfl⟩
  rw [hR]
  have HR := Lib.hid hR
  clear hl hm hR
  go_enter Try.func27, Try.ntmps27
  go_wp2_with (go_at_call 23; refine (HL.out _ (HF.out.mono (by repeat (first | exact Bw.refl _ | assumption | refine Bw.alloc ?_ _ | refine Bw.drew ?_ | refine Bw.trans ?_ (by assumption) | refine Bw.setCell ?_ (by simp; try omega) _)))).mono ?_; rintro e w' ⟨rfl, hb⟩; obtain ⟨hcc, hff⟩ := Bw.cells hb; have hsz := Bw.size hb; try (have hz0 : w.heap.size < w'.heap.size := by (try simp at hsz); omega); try (have hz1 : w.heap.size + 1 < w'.heap.size := by (try simp at hsz); omega); try (have hz2 : w.heap.size + 1 + 1 < w'.heap.size := by (try simp at hsz); omega); try (have hz3 : w.heap.size + 1 + 1 + 1 < w'.heap.size := by (try simp at hsz); omega); try (have hz4 : w.heap.size + 1 + 1 + 1 + 1 < w'.heap.size := by (try simp at hsz); omega); try (have hzr : wr.heap.size < w'.heap.size := by (try simp at hsz); omega); try (have hzr1 : wr.heap.size + 1 < w'.heap.size := by (try simp at hsz); omega))
  have hC : PkC w (w'.alloc (Obj.cells #[.int .i64 0, .int .i64 (layout fs zs.length).2] 43)) := ⟨(by repeat (first | exact Bw.refl _ | assumption | refine Bw.alloc ?_ _ | refine Bw.drew ?_ | refine Bw.trans ?_ (by assumption) | refine Bw.setCell ?_ (by simp; try omega) _)), by simp; omega, by simp [*, go_sem], by simp [*, go_sem], by simp [*, go_sem], by simp [*, go_sem]⟩
  generalize (w'.alloc (Obj.cells #[.int .i64 0, .int .i64 (layout fs zs.length).2] 43)) = W0 at hC ⊢
  clear hcc hff hb hsz
  go_loopw [7, 22] (fun v i wr => ∃ k : Nat, k ≤ m ∧ i = .int .i64 k ∧ PkC w wr ∧ Hid (∃ out : List Int, out.length = k ∧ wr.ownsRow (w.heap.size + 1) 3 1 v out.length (out.map (Value.int .i64)) ∧ unR k zs out (fs.drop k) = R)) (fun _ i _ => m - (intOf i).toNat)
  case atStart => exact ⟨0, Nat.zero_le _, rfl, hC, [], rfl, World.ownsRow_nil _ _ _ _, by simpa using HR.out⟩
  case round =>
    obtain ⟨k, hk, rfl, hCr, HW⟩ := hrel
    obtain ⟨out, hol, hown, hun⟩ := HW.out
    clear HW
    by_cases hlt : k < m
    · have hn2 := HN.out
      obtain ⟨b1, o1, rfl, hb1, hz1⟩ := HZ.out.resolve_left (by intro e; subst e; simp at hn2; omega)
      have hfe : fs[k]? = some fs[k] := List.getElem?_eq_getElem (by omega)
      have hgd := HG.out fs[k] (List.getElem_mem (by omega))
      have hst := un_step k zs out fs _ hfe
      generalize fs[k] = f at hfe hgd hst
      obtain ⟨fa, fn, fg, fu, fc⟩ := f
      obtain ⟨d0, d1, d2, d3, d4⟩ := hz1 k _ hfe
      replace d0 := hCr.bw.cell' d0
      replace d1 := hCr.bw.cell' d1
      replace d2 := hCr.bw.cell' d2
      replace d3 := hCr.bw.cell' d3
      replace d4 := hCr.bw.cell' d4
      dsimp only at d0 d1 d2 d3 d4 hst
      have HST := Lib.hid (hun.symm.trans hst)
      have HGX := Lib.hid (fun W hW => HGT.out fa fn fg fu fc W hW)
      have hki : (k : Int) < m := by omega
      have HO := Lib.hid hown
      have HOL := Lib.hid hol
      clear hz1 hfe hgd hst hn2 hun hown hol
      by_cases he : errT zs fa fn fu fc = 0
      · rw [he] at HGX
        have HSS := Lib.hid (show R = unR (k + 1) zs (out ++ [getR zs fa fn fg fu fc]) (fs.drop (k + 1)) by rw [HST.out, if_pos he])
        clear he HST HGT
        go_wp2_with (first | (go_at_call 14; refine (HGX.out _ (HV.out.mono (by first | exact hCr.bw | exact Bw.alloc hCr.bw _))).mono ?_; rintro e w3 ⟨rfl, hb3⟩; have hb3' : Bw wr w3 := (by first | exact hb3 | exact Bw.trans (Bw.alloc (Bw.refl _) _) hb3); have hC3 := hCr.mono hb3'; have HO3 := Lib.hid (own_bw HO.out hb3')) | (at_builtin; refine wpList_append_int1 rfl _ _ _ rfl (w.heap.size + 1) 3 Try.underlying22 infoInt _ out (getR zs fa fn fg fu fc) rfl (HO3.out.alloc _) w3.heap.size rfl (by simp [go_sem]) (by have := HOL.out; omega) (by have := hC3.sz; simp; omega) ?_))
        intro v' w4 hown4 hgrow4
        have hC4 : PkC w w4 := (hC3.mono (Bw.alloc (Bw.refl _) _)).grow hgrow4 (fun j hj => (HO3.out.lt j hj).1)
        have HO4 := Lib.hid hown4
        clear hown4 hgrow4
        go_wp2
        go_roundw
        case rel => exact ⟨k + 1, by omega, by go_num, hC4, out ++ [getR zs fa fn fg fu fc], by simp [HOL.out], by simpa using HO4.out, HSS.out.symm⟩
        case measure => simp [intOf]; omega
      · have HSS := Lib.hid (show R = ([], (errT zs fa fn fu fc, (k : Int))) by rw [HST.out, if_neg he])
        have hne : (errT zs fa fn fu fc != 0) = true := by simpa using he
        clear he HST HGT
        generalize errT zs fa fn fu fc = er at *
        go_wp2_with ((go_at_call 14; refine (HGX.out _ (HV.out.mono (by first | exact hCr.bw | exact Bw.alloc hCr.bw _))).mono ?_; rintro e w3 ⟨rfl, hb3⟩; have hb3' : Bw wr w3 := (by first | exact hb3 | exact Bw.trans (Bw.alloc (Bw.refl _) _) hb3); have hC3 := hCr.mono hb3'; have r0 := hC3.r0; have r1 := hC3.r1; have f0 := hC3.f0; have f1 := hC3.f1))
        have hF := hC3.fault (.int .i64 er) (.int .i64 k)
        refine bodyPost_ret (v := .tuple #[.slice none 0 0, .agg #[.int .i64 er, .int .i64 k]]) ?_ rfl ⟨?_, ?_⟩
        · simp [results, Try.results27, go_sem, hF.2.1, hF.2.2]
        · rw [HSS.out]; exact packP_nil _ _ _ _
        · exact hF.1
    · obtain rfl : k = m := by omega
      have hd : fs.drop k = [] := by rw [List.drop_eq_nil_iff]; have := HN.out; omega
      rw [hd] at hun
      have HSS := Lib.hid (show R = (out, ((0 : Int), (0 : Int))) from hun.symm)
      have hrd := own_rd hown (by omega)
      have HRD := Lib.hid hrd
      obtain ⟨ao, co, rfl⟩ := hrd.1.form
      have r0 := hCr.r0
      have r1 := hCr.r1
      have f0 := hCr.f0
      have f1 := hCr.f1
      clear hd hun hown hrd
      go_wp2
      have hF := hCr.fault (.int .i64 0) (.int .i64 0)
      refine bodyPost_ret (v := .tuple #[.slice ao out.length co, .agg #[.int .i64 0, .int .i64 0]]) ?_ rfl ⟨?_, ?_⟩
      · simp [results, Try.results27, go_sem, hF.2.1, hF.2.2]
      · rw [HSS.out]
        exact ⟨_, rfl, ((HRD.out.1.set HRD.out.2 (by omega) _ _).set HRD.out.2 (by omega) _ _), HRD.out.2.mono (by omega)⟩
      · exact hF.1
theorem Unpack_any (fs : List Fd) (zs : List Int) (vf vv : Value) (w : World) (hf : RdF w vf fs) (hv : RdI w vv zs) :
    Calls Try.prog 27 #[vf, vv] w fun e w' => PackP w.heap.size (unpackR fs zs).1 (unpackR fs zs).2.1 (unpackR fs zs).2.2 e w' ∧ Bw w w' := by
  by_cases hl : (layout fs zs.length).1 = 0
  · have e : unpackR fs zs = unR 0 zs [] fs := by unfold unpackR; rw [if_pos hl]
    rw [e]; exact unpack_ok fs zs vf vv w hf hv hl
  · have e : unpackR fs zs = ([], layout fs zs.length) := by unfold unpackR; rw [if_neg hl]
    rw [e]; exact unpack_lay fs zs vf vv w hf hv hl
end Go.Proofs.Sky
