/-
  lemmas for the theorems of this claim. No conditions beyond those written in the statements.
-/
import Derived.Test.YtcbkjfakedngbaaU25
import Derived.Test.YtcbkjfakedngbaaT25
set_option linter.unusedVariables false
set_option linter.unusedSimpArgs false
set_option linter.unnecessarySimpa false
namespace Go.Proofs.Sky
open Go Go.RowKit Go.Shelf
set_option maxHeartbeats 2000000
theorem rpack_range (fs : List Fd) (vs : List Int) (vf vv : Value) (bt : Int) (w : World) (hf : RdF w vf fs) (hv : RdI w vv vs) (hb : bt < 0 ∨ 4000 < bt) :
    Calls Try.prog 26 #[vf, vv, .int .i64 bt] w fun e w' => PackP w.heap.size [] 2 0 e w' ∧ Bw w w' := by
  obtain ⟨a1, c1, rfl⟩ := hf.form
  obtain ⟨a2, c2, rfl⟩ := hv.form
  clear hf hv
  rcases hb with hb | hb
  all_goals
    go_enter Try.func26, Try.ntmps26
    go_wp2
    refine bodyPost_ret (v := .tuple #[.slice none 0 0, .agg #[.int .i64 2, .int .i64 0]]) (by simp [results, Try.results26, go_sem]) rfl ⟨⟨_, rfl, RdI.nil _, Fresh.nil _ _ _⟩, (by repeat (first | exact Bw.refl _ | assumption | refine Bw.alloc ?_ _ | refine Bw.drew ?_ | refine Bw.trans ?_ (by assumption) | refine Bw.setCell ?_ (by simp; try omega) _))⟩
theorem rpack_lay (fs : List Fd) (vs : List Int) (vf vv : Value) (bt : Int) (w : World) (hf : RdF w vf fs) (hv : RdI w vv vs) (hb : 0 ≤ bt) (hb2 : bt ≤ 4000) (hl : (layout fs bt).1 ≠ 0) :
    Calls Try.prog 26 #[vf, vv, .int .i64 bt] w fun e w' => PackP w.heap.size [] (layout fs bt).1 (layout fs bt).2 e w' ∧ Bw w w' := by
  have HL := Lib.hid (fun W hW => RLayout_any fs vf bt W hW)
  have HF := Lib.hid hf
  obtain ⟨a1, c1, rfl⟩ := hf.form
  obtain ⟨a2, c2, rfl⟩ := hv.form
  clear hf hv
  unfold LayP at HL
  have hne : ((layout fs bt).1 != 0) = true := by simpa using hl
  clear hl
  generalize layout fs bt = lay at *
  obtain ⟨l1, l2⟩ := lay
  go_enter Try.func26, Try.ntmps26
  go_wp2_with (go_at_call 24; refine (HL.out _ (HF.out.mono (by repeat (first | exact Bw.refl _ | assumption | refine Bw.alloc ?_ _ | refine Bw.drew ?_ | refine Bw.trans ?_ (by assumption) | refine Bw.setCell ?_ (by simp; try omega) _)))).mono ?_; rintro e w' ⟨rfl, hb⟩; obtain ⟨hcc, hff⟩ := Bw.cells hb; have hsz := Bw.size hb; try (have hz0 : w.heap.size < w'.heap.size := by (try simp at hsz); omega); try (have hz1 : w.heap.size + 1 < w'.heap.size := by (try simp at hsz); omega); try (have hz2 : w.heap.size + 1 + 1 < w'.heap.size := by (try simp at hsz); omega); try (have hz3 : w.heap.size + 1 + 1 + 1 < w'.heap.size := by (try simp at hsz); omega); try (have hz4 : w.heap.size + 1 + 1 + 1 + 1 < w'.heap.size := by (try simp at hsz); omega); try (have hzr : wr.heap.size < w'.heap.size := by (try simp at hsz); omega); try (have hzr1 : wr.heap.size + 1 < w'.heap.size := by (try simp at hsz); omega))
  have hC : PkC w (w'.alloc (Obj.cells #[.int .i64 l1, .int .i64 l2] 43)) := ⟨(by repeat (first | exact Bw.refl _ | assumption | refine Bw.alloc ?_ _ | refine Bw.drew ?_ | refine Bw.trans ?_ (by assumption) | refine Bw.setCell ?_ (by simp; try omega) _)), by simp; omega, by simp [*, go_sem], by simp [*, go_sem], by simp [*, go_sem], by simp [*, go_sem]⟩
  have q0 : (w'.alloc (Obj.cells #[.int .i64 l1, .int .i64 l2] 43)).cell? ⟨w'.heap.size, 0, none⟩ = some (.int .i64 l1) := by simp [go_sem]
  have q1 : (w'.alloc (Obj.cells #[.int .i64 l1, .int .i64 l2] 43)).cell? ⟨w'.heap.size, 1, none⟩ = some (.int .i64 l2) := by simp [go_sem]
  generalize (w'.alloc (Obj.cells #[.int .i64 l1, .int .i64 l2] 43)) = W0 at hC q0 q1 ⊢
  clear hcc hff
  have e0 := fun p : Ext W0 => Ext.cell' q0 p
  have e1 := fun p : Ext W0 => Ext.cell' q1 p
  (refine wp_region_ext_tail 2 (by kernel_rfl) (by kernel_rfl) ?_; simp only [List.take_succ_cons, List.take_zero, List.drop_succ_cons, List.drop_zero]; (repeat (go_big_quiet_step ((fail)))); refine wpQuiet_nil ?_; rintro wq ⟨⟨_, hbq⟩, rfl⟩; obtain ⟨hccq, hffq⟩ := Bw.cells hbq; have hszq := Bw.size hbq)
  have hC2 := hC.mono hbq
  have r0 := hC2.r0
  have r1 := hC2.r1
  have f0 := hC2.f0
  have f1 := hC2.f1
  clear hccq hffq e0 e1
  go_wp2
  have hF := hC2.fault (.int .i64 l1) (.int .i64 l2)
  exact bodyPost_ret (v := .tuple #[.slice none 0 0, .agg #[.int .i64 l1, .int .i64 l2]]) (by simp [results, Try.results26, go_sem, hF.2.1, hF.2.2]) rfl ⟨packP_nil _ _ _ _, hF.1⟩
theorem rpack_len (fs : List Fd) (vs : List Int) (vf vv : Value) (bt : Int) (w : World) (hf : RdF w vf fs) (hv : RdI w vv vs) (hb : 0 ≤ bt) (hb2 : bt ≤ 4000) (hl : (layout fs bt).1 = 0) (hn : vs.length ≠ fs.length) :
    Calls Try.prog 26 #[vf, vv, .int .i64 bt] w fun e w' => PackP w.heap.size [] 3 fs.length e w' ∧ Bw w w' := by
  have HL := Lib.hid (fun W hW => RLayout_any fs vf bt W hW)
  have HF := Lib.hid hf
  obtain ⟨a1, c1, rfl⟩ := hf.form
  obtain ⟨a2, c2, rfl⟩ := hv.form
  clear hf hv
  unfold LayP at HL
  rw [hl] at HL
  have hne : ((vs.length : Int) != (fs.length : Int)) = true := by simp; omega
  clear hl hn
  go_enter Try.func26, Try.ntmps26
  go_upto_region 4 with (first | (go_at_call 24; refine (HL.out _ (HF.out.mono (by repeat (first | exact Bw.refl _ | assumption | refine Bw.alloc ?_ _ | refine Bw.drew ?_ | refine Bw.trans ?_ (by assumption) | refine Bw.setCell ?_ (by simp; try omega) _)))).mono ?_; rintro e w' ⟨rfl, hb⟩; obtain ⟨hcc, hff⟩ := Bw.cells hb; have hsz := Bw.size hb; try (have hz0 : w.heap.size < w'.heap.size := by (try simp at hsz); omega); try (have hz1 : w.heap.size + 1 < w'.heap.size := by (try simp at hsz); omega); try (have hz2 : w.heap.size + 1 + 1 < w'.heap.size := by (try simp at hsz); omega); try (have hz3 : w.heap.size + 1 + 1 + 1 < w'.heap.size := by (try simp at hsz); omega); try (have hz4 : w.heap.size + 1 + 1 + 1 + 1 < w'.heap.size := by (try simp at hsz); omega); try (have hzr : wr.heap.size < w'.heap.size := by (try simp at hsz); omega); try (have hzr1 : wr.heap.size + 1 < w'.heap.size := by (try simp at hsz); omega)))
  have hC : PkC w (w'.alloc (Obj.cells #[.int .i64 0, .int .i64 (layout fs bt).2] 43)) := ⟨(by repeat (first | exact Bw.refl _ | assumption | refine Bw.alloc ?_ _ | refine Bw.drew ?_ | refine Bw.trans ?_ (by assumption) | refine Bw.setCell ?_ (by simp; try omega) _)), by simp; omega, by simp [*, go_sem], by simp [*, go_sem], by simp [*, go_sem], by simp [*, go_sem]⟩
  have q0 : (w'.alloc (Obj.cells #[.int .i64 0, .int .i64 (layout fs bt).2] 43)).cell? ⟨w'.heap.size, 0, none⟩ = some (.int .i64 0) := by simp [go_sem]
  generalize (w'.alloc (Obj.cells #[.int .i64 0, .int .i64 (layout fs bt).2] 43)) = W0 at hC q0 ⊢
  clear hcc hff
  have r0 := hC.r0
  have r1 := hC.r1
  have f0 := hC.f0
  have f1 := hC.f1
  go_wp2
  have hF := hC.fault (.int .i64 3) (.int .i64 fs.length)
  refine bodyPost_ret (v := .tuple #[.slice none 0 0, .agg #[.int .i64 3, .int .i64 fs.length]]) ?_ rfl ⟨?_, ?_⟩
  · simp [results, Try.results26, go_sem, hF.2.1, hF.2.2]
  · exact packP_nil _ _ _ _
  · exact hF.1
theorem rpack_ok (fs : List Fd) (vs : List Int) (vf vv : Value) (n : Nat) (w : World) (hf : RdF w vf fs) (hv : RdI w vv vs) (hb2 : n ≤ 4000) (hl : (layout fs n).1 = 0) (hn : vs.length = fs.length) :
    Calls Try.prog 26 #[vf, vv, .int .i64 n] w fun e w' => PackP w.heap.size (pk 0 (List.replicate n 0) (fs.zip vs)).1 (pk 0 (List.replicate n 0) (fs.zip vs)).2.1 (pk 0 (List.replicate n 0) (fs.zip vs)).2.2 e w' ∧ Bw w w' := by
  have HL := Lib.hid (fun W hW => RLayout_any fs vf n W hW)
  have HF := Lib.hid hf
  obtain ⟨hlen, a1, c1, rfl, hz⟩ := hf
  obtain ⟨_, a2, c2, rfl, hzv⟩ := hv
  obtain ⟨hl100, hgood⟩ := layout_zero hl
  have HG := Lib.hid hgood; clear hgood
  have HZ := Lib.hid hz; clear hz
  have HZV := Lib.hid hzv; clear hzv
  unfold LayP at HL
  rw [hl] at HL
  have hmk := makeInt n (by omega)
  rw [hn]
  obtain ⟨m, hm⟩ : ∃ m, fs.length = m := ⟨_, rfl⟩
  have HN := Lib.hid (And.intro hn hm)
  rw [hm] at hl100 HF HL ⊢
  obtain ⟨R, hR⟩ : ∃ R, pk 0 (List.replicate n 0) (fs.zip vs) = R := ⟨_, rfl⟩
  rw [hR]
  have HR := Lib.hid hR
  clear hl hn hm hR
  go_enter Try.func26, Try.ntmps26
  go_wp2_with (go_at_call 24; refine (HL.out _ (HF.out.mono (by repeat (first | exact Bw.refl _ | assumption | refine Bw.alloc ?_ _ | refine Bw.drew ?_ | refine Bw.trans ?_ (by assumption) | refine Bw.setCell ?_ (by simp; try omega) _)))).mono ?_; rintro e w' ⟨rfl, hb⟩; obtain ⟨hcc, hff⟩ := Bw.cells hb; have hsz := Bw.size hb; try (have hz0 : w.heap.size < w'.heap.size := by (try simp at hsz); omega); try (have hz1 : w.heap.size + 1 < w'.heap.size := by (try simp at hsz); omega); try (have hz2 : w.heap.size + 1 + 1 < w'.heap.size := by (try simp at hsz); omega); try (have hz3 : w.heap.size + 1 + 1 + 1 < w'.heap.size := by (try simp at hsz); omega); try (have hz4 : w.heap.size + 1 + 1 + 1 + 1 < w'.heap.size := by (try simp at hsz); omega); try (have hzr : wr.heap.size < w'.heap.size := by (try simp at hsz); omega); try (have hzr1 : wr.heap.size + 1 < w'.heap.size := by (try simp at hsz); omega))
  have hC : PkC w ((w'.alloc (Obj.cells #[.int .i64 0, .int .i64 (layout fs n).2] 43)).alloc (Obj.cells (madeCells #[.int .i64 0] n) 3)) := ⟨(by repeat (first | exact Bw.refl _ | assumption | refine Bw.alloc ?_ _ | refine Bw.drew ?_ | refine Bw.trans ?_ (by assumption) | refine Bw.setCell ?_ (by simp; try omega) _)), by simp; omega, by simp [*, go_sem], by simp [*, go_sem], by simp [*, go_sem], by simp [*, go_sem]⟩
  have hO : OwI ((w'.alloc (Obj.cells #[.int .i64 0, .int .i64 (layout fs n).2] 43)).alloc (Obj.cells (madeCells #[.int .i64 0] n) 3)) (w'.heap.size + 1) (List.replicate n 0) := by
    have := owI_made n (by omega) (w'.alloc (Obj.cells #[.int .i64 0, .int .i64 (layout fs n).2] 43))
    rwa [World.size_alloc] at this
  have hGs : w'.heap.size + 1 < ((w'.alloc (Obj.cells #[.int .i64 0, .int .i64 (layout fs n).2] 43)).alloc (Obj.cells (madeCells #[.int .i64 0] n) 3)).heap.size := by simp
  generalize ((w'.alloc (Obj.cells #[.int .i64 0, .int .i64 (layout fs n).2] 43)).alloc (Obj.cells (madeCells #[.int .i64 0] n) 3)) = W0 at hC hO hGs ⊢
  clear hcc hff hmk hb hsz
  obtain ⟨G, hG⟩ : ∃ G, w'.heap.size + 1 = G := ⟨_, rfl⟩
  rw [hG] at hO hGs ⊢
  have hG1 : w.heap.size < G := by omega
  clear hG
  have HO := Lib.hid hO; clear hO
  go_loopw [10] (fun i wr => ∃ k : Nat, k ≤ m ∧ i = .int .i64 k ∧ PkC w wr ∧ G < wr.heap.size ∧ Hid (∃ zs : List Int, zs.length = n ∧ OwI wr G zs ∧ pk k zs ((fs.zip vs).drop k) = R)) (fun i _ => m - (intOf i).toNat)
  case atStart => exact ⟨0, Nat.zero_le _, rfl, hC, hGs, List.replicate n 0, by simp, HO.out, by simpa using HR.out⟩
  case round =>
    obtain ⟨k, hk, rfl, hCr, hGr, HW⟩ := hrel
    by_cases hlt : k < m
    · obtain ⟨zs, hzl, hO, hpk⟩ := HW.out
      have hn1 := HN.out.1
      have hn2 := HN.out.2
      obtain ⟨b1, o1, rfl, hb1, hz1⟩ := HZ.out.resolve_left (by intro e; subst e; simp at hn2; omega)
      obtain ⟨b2, o2, rfl, hb2', hz2⟩ := HZV.out.resolve_left (by intro e; subst e; simp at hn1; omega)
      have hfe : fs[k]? = some fs[k] := List.getElem?_eq_getElem (by omega)
      have hve : vs[k]? = some vs[k] := List.getElem?_eq_getElem (by omega)
      have hgd := HG.out fs[k] (List.getElem_mem (by omega))
      have hpe : (fs.zip vs)[k]? = some (fs[k], vs[k]) := by rw [List.getElem?_zip_eq_some]; exact ⟨hfe, hve⟩
      generalize fs[k] = f at hfe hgd hpe
      have hcv := hz2 k (by omega)
      rw [List.getD_eq_getElem?_getD, hve, Option.getD_some] at hcv
      generalize vs[k] = x at hcv hpe
      obtain ⟨fa, fn, fg, fu, fc⟩ := f
      obtain ⟨d0, d1, d2, d3, d4⟩ := hz1 k _ hfe
      replace d0 := hCr.bw.cell' d0
      replace d1 := hCr.bw.cell' d1
      replace d2 := hCr.bw.cell' d2
      replace d3 := hCr.bw.cell' d3
      replace d4 := hCr.bw.cell' d4
      replace hcv := hCr.bw.cell' hcv
      obtain ⟨hfk, hfit⟩ := hgd
      obtain ⟨A, rfl⟩ := Int.eq_ofNat_of_zero_le hfk.1
      obtain ⟨N, rfl⟩ := Int.eq_ofNat_of_zero_le (show 0 ≤ fn from by have h : (1 : Int) ≤ fn := hfk.2.2.1; omega)
      dsimp only at d0 d1 d2 d3 d4
      have HST := Lib.hid (hpk.symm.trans (pk_step k zs _ _ _ hpe))
      have HRW := Lib.hid (fun w => rraw_any A N fg fu fc x w hfk)
      unfold RawP at HRW
      have HZS := Lib.hid (And.intro hzl hO)
      have hki : (k : Int) < m := by omega
      obtain ⟨h1, h2, h3, h4, h5, h6, h7, h8, h9⟩ := hfk
      have hfk : fk A N fu fc := ⟨h1, h2, h3, h4, h5, h6, h7, h8, h9⟩
      have hlA : A + N ≤ n := by have : (A : Int) + N ≤ n := hfit; omega
      clear hz1 hz2 hfe hve hpe hpk hO hn1 hn2 HW hfit
      cases hb : rawB N fg fu fc x with
      | true =>
        obtain ⟨hx1, hx2⟩ := rawB_bd hb (by omega) (by omega)
        have HPU := Lib.hid (fun W hb ho => write_ok zs G n n A N fg fu fc (rawV fu fc x) W hfk (by omega) hzl (by omega) hb ho hx1 hx2)
        have HSS := Lib.hid (show R = pk (k + 1) (putL zs A N (rawV fu fc x) N) ((fs.zip vs).drop (k + 1)) by rw [HST.out, if_pos hb]; simp)
        rw [hb] at HRW
        clear hb HST hzl
        have HFK := Lib.hid hfk; clear hfk
        have e0 := fun p : Ext wr => Ext.cell' d0 p
        have e1 := fun p : Ext wr => Ext.cell' d1 p
        have e2 := fun p : Ext wr => Ext.cell' d2 p
        have e3 := fun p : Ext wr => Ext.cell' d3 p
        have e4 := fun p : Ext wr => Ext.cell' d4 p
        have e5 := fun p : Ext wr => Ext.cell' hcv p
        go_wp2
        (refine wp_region_quiet_ext (by kernel_rfl) (by kernel_rfl) ?_; (repeat (go_big_quiet_step ((go_at_call 37; refine Calls.ext_of (HRW.out _))))); refine wpQuiet_nil ?_; rintro wq ⟨⟨_, hbq⟩, rfl⟩; obtain ⟨hccq, hffq⟩ := Bw.cells hbq; have hszq := Bw.size hbq)
        have hbwq : Bw wr wq := (by repeat (first | exact Bw.refl _ | assumption | refine Bw.alloc ?_ _ | refine Bw.drew ?_ | refine Bw.trans ?_ (by assumption) | refine Bw.setCell ?_ (by simp; try omega) _))
        have hCq := hCr.mono hbwq
        have hOq := HZS.out.2.bw hbwq
        have HOQ := Lib.hid hOq; clear hOq
        have hGq : G < wq.heap.size := by have := hbwq.size; omega
        have j0 := hbq.cell' d0
        have j1 := hbq.cell' d1
        have j2 := hbq.cell' d2
        have j3 := hbq.cell' d3
        have j4 := hbq.cell' d4
        clear e0 e1 e2 e3 e4 e5 hccq hffq
        go_wp2_with (go_at_call 38; refine (HPU.out _ hGq HOQ.out).mono ?_; rintro e w2 ⟨rfl, hO2, hG2⟩; have HO2 := Lib.hid hO2; clear hO2)
        go_roundw
        case rel => exact ⟨k + 1, by omega, by go_num, hCq.gr hG2 hG1, Nat.lt_of_lt_of_le hGq hG2.size, _, by rw [putL_length]; exact HZS.out.1, HO2.out, HSS.out.symm⟩
        case measure => simp [intOf]; omega
      | false =>
        have HSS := Lib.hid (show R = ([], ((5 : Int), (k : Int))) by rw [HST.out, if_neg (by rw [hb]; decide)])
        rw [hb] at HRW
        clear hb HST hzl
        have HFK := Lib.hid hfk; clear hfk
        have e0 := fun p : Ext wr => Ext.cell' d0 p
        have e1 := fun p : Ext wr => Ext.cell' d1 p
        have e2 := fun p : Ext wr => Ext.cell' d2 p
        have e3 := fun p : Ext wr => Ext.cell' d3 p
        have e4 := fun p : Ext wr => Ext.cell' d4 p
        have e5 := fun p : Ext wr => Ext.cell' hcv p
        go_wp2
        (refine wp_region_quiet_ext (by kernel_rfl) (by kernel_rfl) ?_; (repeat (go_big_quiet_step ((go_at_call 37; refine Calls.ext_of (HRW.out _))))); refine wpQuiet_nil ?_; rintro wq ⟨⟨_, hbq⟩, rfl⟩; obtain ⟨hccq, hffq⟩ := Bw.cells hbq; have hszq := Bw.size hbq)
        have hbwq : Bw wr wq := (by repeat (first | exact Bw.refl _ | assumption | refine Bw.alloc ?_ _ | refine Bw.drew ?_ | refine Bw.trans ?_ (by assumption) | refine Bw.setCell ?_ (by simp; try omega) _))
        have hCq := hCr.mono hbwq
        have r0 := hCq.r0
        have r1 := hCq.r1
        have f0 := hCq.f0
        have f1 := hCq.f1
        clear e0 e1 e2 e3 e4 e5 hccq hffq
        go_wp2
        have hF := hCq.fault (.int .i64 5) (.int .i64 k)
        refine bodyPost_ret (v := .tuple #[.slice none 0 0, .agg #[.int .i64 5, .int .i64 k]]) ?_ rfl ⟨?_, ?_⟩
        · simp [results, Try.results26, go_sem, hF.2.1, hF.2.2]
        · rw [HSS.out]; exact packP_nil _ _ _ _
        · exact hF.1
    · obtain rfl : k = m := by omega
      obtain ⟨zs, hzl, hO, hpk⟩ := HW.out
      have hd : (fs.zip vs).drop k = [] := by rw [List.drop_eq_nil_iff]; simp [HN.out.1, HN.out.2]
      rw [hd] at hpk
      have HSS := Lib.hid (show R = (zs, ((0 : Int), (0 : Int))) from hpk.symm)
      have HZS := Lib.hid (And.intro hzl hO)
      have r0 := hCr.r0
      have r1 := hCr.r1
      have f0 := hCr.f0
      have f1 := hCr.f1
      clear hd hpk hzl hO HW HO
      go_wp2
      have hF := hCr.fault (.int .i64 0) (.int .i64 0)
      refine bodyPost_ret (v := .tuple #[.slice (some ⟨G, 0, none⟩) n n, .agg #[.int .i64 0, .int .i64 0]]) ?_ rfl ⟨?_, ?_⟩
      · simp [results, Try.results26, go_sem, hF.2.1, hF.2.2]
      · rw [HSS.out]
        have hz0 := HZS.out.1
        have ho0 := (HZS.out.2.other (b := w.heap.size) (o := 0) (.int .i64 0) (by omega)).other (b := w.heap.size) (o := 1) (.int .i64 0) (by omega)
        refine ⟨_, rfl, ?_, Fresh.at (by omega)⟩
        have := rdI_of_owI (cap := n) ho0 (by simp; omega) (by omega)
        rwa [hz0] at this
      · exact hF.1
theorem Pack_any (fs : List Fd) (vs : List Int) (vf vv : Value) (bt : Int) (w : World) (hf : RdF w vf fs) (hv : RdI w vv vs) :
    Calls Try.prog 25 #[vf, vv, .int .i64 bt] w fun e w' => PackP w.heap.size (packR bt fs vs).1 (packR bt fs vs).2.1 (packR bt fs vs).2.2 e w' ∧ Bw w w' := by
  by_cases hb : bt < 0 ∨ 4000 < bt
  · have e : packR bt fs vs = ([], (2, 0)) := by unfold packR; rw [if_pos hb]
    rw [e]; exact pack_range fs vs vf vv bt w hf hv hb
  · by_cases hl : (layout fs bt).1 = 0
    · by_cases hn : vs.length = fs.length
      · obtain ⟨n, rfl⟩ := Int.eq_ofNat_of_zero_le (show 0 ≤ bt by omega)
        have e : packR n fs vs = pk 0 (List.replicate n 0) (fs.zip vs) := by unfold packR; rw [if_neg hb, if_pos hl, if_pos hn]; simp
        rw [e]; exact pack_ok fs vs vf vv n w hf hv (by omega) hl hn
      · have e : packR bt fs vs = ([], (3, (fs.length : Int))) := by unfold packR; rw [if_neg hb, if_pos hl, if_neg hn]
        rw [e]; exact pack_len fs vs vf vv bt w hf hv (by omega) (by omega) hl hn
    · have e : packR bt fs vs = ([], layout fs bt) := by unfold packR; rw [if_neg hb, if_neg hl]
      rw [e]; exact pack_lay fs vs vf vv bt w hf hv (by omega) (by omega) hl
theorem RPack_any (fs : List Fd) (vs : List Int) (vf vv : Value) (bt : Int) (w : World) (hf : RdF w vf fs) (hv : RdI w vv vs) :
    Calls Try.prog 26 #[vf, vv, .int .i64 bt] w fun e w' => PackP w.heap.size (packR bt fs vs).1 (packR bt fs vs).2.1 (packR bt fs vs).2.2 e w' ∧ Bw w w' := by
  by_cases hb : bt < 0 ∨ 4000 < bt
  · have e : packR bt fs vs = ([], (2, 0)) := by unfold packR; rw [if_pos hb]
    rw [e]; exact rpack_range fs vs vf vv bt w hf hv hb
  · by_cases hl : (layout fs bt).1 = 0
    · by_cases hn : vs.length = fs.length
      · obtain ⟨n, rfl⟩ := Int.eq_ofNat_of_zero_le (show 0 ≤ bt by omega)
        have e : packR n fs vs = pk 0 (List.replicate n 0) (fs.zip vs) := by unfold packR; rw [if_neg hb, if_pos hl, if_pos hn]; simp
        rw [e]; exact rpack_ok fs vs vf vv n w hf hv (by omega) hl hn
      · have e : packR bt fs vs = ([], (3, (fs.length : Int))) := by unfold packR; rw [if_neg hb, if_pos hl, if_neg hn]
        rw [e]; exact rpack_len fs vs vf vv bt w hf hv (by omega) (by omega) hl hn
    · have e : packR bt fs vs = ([], layout fs bt) := by unfold packR; rw [if_neg hb, if_neg hl]
      rw [e]; exact rpack_lay fs vs vf vv bt w hf hv (by omega) (by omega) hl
end Go.Proofs.Sky
