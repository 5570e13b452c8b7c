/-
  lemmas for the theorems of this claim. No conditions beyond those written in the statements.
-/
import Derived.Test.YtmfiiocadhdhaaaP26
import Derived.Deep.Cut
import Derived.Test.YtmfiiocadhdhaaaRdAt
set_option linter.unusedVariables false
set_option linter.unusedSimpArgs false
set_option linter.unnecessarySimpa false
namespace Go.Proofs.Sky
open Go Go.RowKit Go.Shelf
set_option maxHeartbeats 4000000
set_option maxRecDepth 4000
/-! chapter 26: when an ephemeris holds, and its frames -/
theorem run_mnI2 {P : Program} {w : World} (ts : Array TypeId) (t : TypeId) (k k' : IntKind) (x y : Int) : (Builtin.min_ ts t #[.int k x, .int k' y]).run P w = .ok (.int k (min x y)) w := by
  rw [run_min_int2 w ts t k k' x y]
  congr 2
  split <;> omega
def fitE (x : Nat → Int) (t : Int) : Bool := decide (errE x = 0 ∧ 0 ≤ t ∧ t < 604800 ∧ min ((t - x 2 + 604800) % 604800) (604800 - (t - x 2 + 604800) % 604800) ≤ 7200)
def errFt (x : Nat → Int) (t : Int) : Int := if errE x = 0 then (if 0 ≤ t ∧ t < 604800 then 0 else 2) else errE x
theorem errE_two {x : Nat → Int} (h : errE x ≠ 0) : errE x = 2 := by
  unfold errE at h ⊢
  split at h
  · exact absurd rfl h
  · rw [if_neg (by assumption)]
theorem errE_lim {x : Nat → Int} (h : errE x = 0) : 0 ≤ x 2 ∧ x 2 < 604800 ∧ 1 ≤ x 0 := by
  have h1 : ((LS 0).all (okT x) && (LS 1).all (okT x) && (LS 2).all (okT x)) = true ∧ decide (1 ≤ x 0 ∧ x 2 < 604800) = true := by
    unfold errE at h
    split at h
    · rename_i h9; simpa using h9
    · cases h
  have h2 := of_decide_eq_true h1.2
  have h3 : (LS 0).all (okT x) = true := by have := h1.1; simp at this; simpa using this.1.1
  have h4 := List.all_eq_true.1 h3 (20, false, 2) (by decide)
  have h5 := of_decide_eq_true h4
  have h6 : lowR 20 false = 0 := by decide
  dsimp only at h5
  rw [h6] at h5
  omega
section
attribute [-go_sem] run_min_int2
attribute [local go_sem] run_mnI2
theorem EFits_any (x : Nat → Int) (t : Int) (w : World) : Calls Try.prog 9 #[.agg (eV x), .int .i64 t] w fun e w' => e = .returned (.tuple #[.bool (fitE x t), .int .i64 (errFt x t)]) ∧ Bw w w' := by
  have CK := Lib.hid (fun W => ECheck_any x W)
  have HBW := Lib.hid (Bw.alloc (Bw.refl w) (.cells (eV x) 25))
  have KX := Lib.hid (Blk.new w 25 (eV x))
  by_cases h : errE x = 0
  · have hl := errE_lim h
    rw [h] at CK
    unfold errFt
    rw [if_pos h]
    by_cases ht : 0 ≤ t ∧ t < 604800
    · rw [if_pos ht]
      have HF := Lib.hid (show fitE x t = decide (min ((t - x 2 + 604800) % 604800) (604800 - (t - x 2 + 604800) % 604800) ≤ 7200) by
        unfold fitE; rw [decide_eq_decide]; exact ⟨fun h9 => h9.2.2.2, fun h9 => ⟨h, ht.1, ht.2, h9⟩⟩)
      generalize fitE x t = FT at *
      have hq1 : ¬ t < 0 := by omega
      have hq2 : ¬ 604800 ≤ t := by omega
      have htm : (t - x 2 + 604800).tmod 604800 = (t - x 2 + 604800) % 604800 := Int.tmod_eq_emod_of_nonneg (by omega)
      go_enter Try.func9, Try.ntmps9
      go_upto_region 1 with fail
      obtain ⟨W0, hW0⟩ : ∃ W0, w.alloc (.cells (eV x) 25) = W0 := ⟨_, rfl⟩
      rw [hW0] at HBW KX ⊢
      clear hW0
      go_wp2_with (first | (go_at_call 13; (with_reducible refine Calls.mono (CK.out _) ?_); rintro e1 w1 ⟨rfl, hb9⟩; replace HBW := Lib.hid (HBW.out.trans hb9); have j2 := (KX.out.bw hb9).cell (eV_at x 2 (by omega)); clear hb9) | ((with_reducible refine at_load 25 (.tmp 2) ?_); refine wpList_load_row rfl 25 _ rfl w.heap.size rfl 25 _ (0, 0) _ KX.out Try.underlying25 rfl (by kernel_rfl) ?_))
      refine bodyPost_ret (v := .tuple #[.bool FT, .int .i64 0]) ?_ rfl ⟨rfl, HBW.out⟩
      simp [results, Try.results9, go_sem]
      rw [HF.out, show (t - x 2 + 604800) % 604800 = (t - x 2) % 604800 by omega]
    · rw [if_neg ht]
      have HF : fitE x t = false := decide_eq_false (fun h9 => ht ⟨h9.2.1, h9.2.2.1⟩)
      rw [HF]
      by_cases ht1 : t < 0
      · go_enter Try.func9, Try.ntmps9
        go_upto_region 1 with fail
        obtain ⟨W0, hW0⟩ : ∃ W0, w.alloc (.cells (eV x) 25) = W0 := ⟨_, rfl⟩
        rw [hW0] at HBW KX ⊢
        clear hW0
        go_wp2_with (first | (go_at_call 13; (with_reducible refine Calls.mono (CK.out _) ?_); rintro e1 w1 ⟨rfl, hb9⟩; replace HBW := Lib.hid (HBW.out.trans hb9); clear hb9) | ((with_reducible refine at_load 25 (.tmp 2) ?_); refine wpList_load_row rfl 25 _ rfl w.heap.size rfl 25 _ (0, 0) _ KX.out Try.underlying25 rfl (by kernel_rfl) ?_))
        refine bodyPost_ret (v := .tuple #[.bool false, .int .i64 2]) ?_ rfl ⟨rfl, HBW.out⟩
        simp [results, Try.results9, go_sem]
      · have ht2 : 604800 ≤ t := by omega
        go_enter Try.func9, Try.ntmps9
        go_upto_region 1 with fail
        obtain ⟨W0, hW0⟩ : ∃ W0, w.alloc (.cells (eV x) 25) = W0 := ⟨_, rfl⟩
        rw [hW0] at HBW KX ⊢
        clear hW0
        go_wp2_with (first | (go_at_call 13; (with_reducible refine Calls.mono (CK.out _) ?_); rintro e1 w1 ⟨rfl, hb9⟩; replace HBW := Lib.hid (HBW.out.trans hb9); clear hb9) | ((with_reducible refine at_load 25 (.tmp 2) ?_); refine wpList_load_row rfl 25 _ rfl w.heap.size rfl 25 _ (0, 0) _ KX.out Try.underlying25 rfl (by kernel_rfl) ?_))
        refine bodyPost_ret (v := .tuple #[.bool false, .int .i64 2]) ?_ rfl ⟨rfl, HBW.out⟩
        simp [results, Try.results9, go_sem]
  · unfold errFt
    rw [if_neg h]
    have HF : fitE x t = false := decide_eq_false (fun h9 => h h9.1)
    rw [HF]
    have hne : (errE x != 0) = true := by simpa using h
    generalize errE x = er at *
    go_enter Try.func9, Try.ntmps9
    go_upto_region 1 with fail
    obtain ⟨W0, hW0⟩ : ∃ W0, w.alloc (.cells (eV x) 25) = W0 := ⟨_, rfl⟩
    rw [hW0] at HBW KX ⊢
    clear hW0
    go_wp2_with (first | (go_at_call 13; (with_reducible refine Calls.mono (CK.out _) ?_); rintro e1 w1 ⟨rfl, hb9⟩; replace HBW := Lib.hid (HBW.out.trans hb9); clear hb9) | ((with_reducible refine at_load 25 (.tmp 2) ?_); refine wpList_load_row rfl 25 _ rfl w.heap.size rfl 25 _ (0, 0) _ KX.out Try.underlying25 rfl (by kernel_rfl) ?_))
    refine bodyPost_ret (v := .tuple #[.bool false, .int .i64 er]) ?_ rfl ⟨rfl, HBW.out⟩
    simp [results, Try.results9, go_sem]
end
def frK (x : Nat → Int) (tow : Int) (k : Nat) : Int × Int × List Int := ((tow + k) % 131072, (k : Int) + 1, FrE x k)
def FrsP (base : Nat) (S : List (Int × Int × List Int)) (er : Int) (e : Ending) (w' : World) : Prop := ∃ v fs, e = .returned (.tuple #[v, .int .i64 er]) ∧ OwFr w' base v fs ∧ fs.map (fun f => (f.t, f.k, f.l)) = S
theorem Frames_bad (x : Nat → Int) (tow : Int) (w : World) (h : errE x ≠ 0) : Calls Try.prog 11 #[.agg (eV x), .int .i64 tow] w fun e w' => FrsP w.heap.size [] (errE x) e w' ∧ Bw w w' := by
  have CK := Lib.hid (fun W => ECheck_any x W)
  have HBW := Lib.hid (Bw.alloc (Bw.refl w) (.cells (eV x) 25))
  have KX := Lib.hid (Blk.new w 25 (eV x))
  have hne : (errE x != 0) = true := by simpa using h
  generalize errE x = er at *
  go_enter Try.func11, Try.ntmps11
  go_upto_region 1 with fail
  obtain ⟨W0, hW0⟩ : ∃ W0, w.alloc (.cells (eV x) 25) = W0 := ⟨_, rfl⟩
  rw [hW0] at HBW KX ⊢
  clear hW0
  go_wp2_with (first | (go_at_call 13; (with_reducible refine Calls.mono (CK.out _) ?_); rintro e1 w1 ⟨rfl, hb9⟩; replace HBW := Lib.hid (HBW.out.trans hb9); replace KX := Lib.hid (KX.out.bw hb9); clear hb9) | ((with_reducible refine at_load 25 (.tmp 2) ?_); refine wpList_load_row rfl 25 _ rfl w.heap.size rfl 25 _ (0, 0) _ KX.out Try.underlying25 rfl (by kernel_rfl) ?_))
  refine bodyPost_ret (v := .tuple #[.slice none 0 0, .int .i64 er]) ?_ rfl ⟨⟨_, [], rfl, OwFr.nil _ _, rfl⟩, HBW.out⟩
  simp [results, Try.results11, go_sem]
theorem Frames_range (x : Nat → Int) (tow : Int) (w : World) (h : errE x = 0) (hr : ¬ (0 ≤ tow ∧ tow < 131072)) : Calls Try.prog 11 #[.agg (eV x), .int .i64 tow] w fun e w' => FrsP w.heap.size [] 2 e w' ∧ Bw w w' := by
  have CK := Lib.hid (fun W => ECheck_any x W)
  have HBW := Lib.hid (Bw.alloc (Bw.refl w) (.cells (eV x) 25))
  have KX := Lib.hid (Blk.new w 25 (eV x))
  rw [h] at CK
  by_cases q1 : tow < 0
  · clear hr
    go_enter Try.func11, Try.ntmps11
    go_upto_region 1 with fail
    obtain ⟨W0, hW0⟩ : ∃ W0, w.alloc (.cells (eV x) 25) = W0 := ⟨_, rfl⟩
    rw [hW0] at HBW KX ⊢
    clear hW0
    go_wp2_with (first | (go_at_call 13; (with_reducible refine Calls.mono (CK.out _) ?_); rintro e1 w1 ⟨rfl, hb9⟩; replace HBW := Lib.hid (HBW.out.trans hb9); replace KX := Lib.hid (KX.out.bw hb9); clear hb9) | ((with_reducible refine at_load 25 (.tmp 2) ?_); refine wpList_load_row rfl 25 _ rfl w.heap.size rfl 25 _ (0, 0) _ KX.out Try.underlying25 rfl (by kernel_rfl) ?_))
    refine bodyPost_ret (v := .tuple #[.slice none 0 0, .int .i64 2]) ?_ rfl ⟨⟨_, [], rfl, OwFr.nil _ _, rfl⟩, HBW.out⟩
    simp [results, Try.results11, go_sem]
  · have q2 : 131072 ≤ tow := by omega
    clear hr
    go_enter Try.func11, Try.ntmps11
    go_upto_region 1 with fail
    obtain ⟨W0, hW0⟩ : ∃ W0, w.alloc (.cells (eV x) 25) = W0 := ⟨_, rfl⟩
    rw [hW0] at HBW KX ⊢
    clear hW0
    go_wp2_with (first | (go_at_call 13; (with_reducible refine Calls.mono (CK.out _) ?_); rintro e1 w1 ⟨rfl, hb9⟩; replace HBW := Lib.hid (HBW.out.trans hb9); replace KX := Lib.hid (KX.out.bw hb9); clear hb9) | ((with_reducible refine at_load 25 (.tmp 2) ?_); refine wpList_load_row rfl 25 _ rfl w.heap.size rfl 25 _ (0, 0) _ KX.out Try.underlying25 rfl (by kernel_rfl) ?_))
    refine bodyPost_ret (v := .tuple #[.slice none 0 0, .int .i64 2]) ?_ rfl ⟨⟨_, [], rfl, OwFr.nil _ _, rfl⟩, HBW.out⟩
    simp [results, Try.results11, go_sem]
theorem Frames_ok (x : Nat → Int) (tow : Int) (w : World) (h : errE x = 0) (hr : 0 ≤ tow ∧ tow < 131072) : Calls Try.prog 11 #[.agg (eV x), .int .i64 tow] w fun e w' => FrsP w.heap.size ((List.range 3).map (frK x tow)) 0 e w' ∧ Bw w w' := by
  have CK := Lib.hid (fun W => ECheck_any x W)
  have HBW := Lib.hid (Bw.alloc (Bw.refl w) (.cells (eV x) 25))
  have KX := Lib.hid (Blk.new w 25 (eV x))
  have PK : Hid (∀ k, k < 3 → ∀ W vf vv, RdF W vf (fdsS (LS k)) → RdI W vv (valsE x (LS k)) → Calls Try.prog 30 #[vf, vv, .int .i64 206] W fun e w' => (∃ v', e = .returned (.tuple #[v', .agg #[.int .i64 0, .int .i64 0]]) ∧ RdI w' v' (FrE x k) ∧ Fresh W.heap.size v' ∧ Capd v') ∧ Bw W w') := Lib.hid (fun k hk W vf vv hf hv => by
    have h9 := Pack_any (fdsS (LS k)) (valsE x (LS k)) vf vv 206 W hf hv
    rw [(packedE h k hk).2.1] at h9
    unfold PackP at h9
    exact h9)
  have HLEN := Lib.hid (fun k hk => (packedE h k hk).1)
  rw [h] at CK
  have LY := Lib.hid (fun W => layouts_V W)
  have FD := Lib.hid (fun k v base g W h1 h2 => layFields_any (LS k) v base g W (okL_LS k).1 (okL_LS k).2.1 h1 h2)
  have IX := Lib.hid (fun V k h w => ixL V k h w)
  have hq1 : ¬ tow < 0 := by omega
  have hq2 : ¬ 131072 ≤ tow := by omega
  go_enter Try.func11, Try.ntmps11
  go_upto_region 1 with fail
  obtain ⟨W0, hW0⟩ : ∃ W0, w.alloc (.cells (eV x) 25) = W0 := ⟨_, rfl⟩
  rw [hW0] at HBW KX ⊢
  clear hW0
  go_wp2_with (first | (go_at_call 13; (with_reducible refine Calls.mono (CK.out _) ?_); rintro e1 w1 ⟨rfl, hb9⟩; replace HBW := Lib.hid (HBW.out.trans hb9); replace KX := Lib.hid (KX.out.bw hb9); clear hb9) | ((with_reducible refine at_load 25 (.tmp 2) ?_); refine wpList_load_row rfl 25 _ rfl w.heap.size rfl 25 _ (0, 0) _ KX.out Try.underlying25 rfl (by kernel_rfl) ?_) | (go_at_call 29; (with_reducible refine Calls.mono (LY.out _) ?_); rintro e1 w2 ⟨⟨V, rfl, hl9⟩, hb9⟩; have HL := Lib.hid hl9; replace HBW := Lib.hid (HBW.out.trans hb9); replace KX := Lib.hid (KX.out.bw hb9); clear hl9 hb9))
  obtain ⟨BB, hBB⟩ : ∃ BB, w2.heap.size = BB := ⟨_, rfl⟩
  have HB := Lib.hid hBB
  have HB2 := Lib.hid (show w.heap.size < BB by have := KX.out.lt; omega)
  clear hBB
  go_loopg [7, 27] 3 (fun gg s7 s27 wr => ∃ k : Nat, k ≤ 3 ∧ 3 - k ≤ gg ∧ s27 = .int .i64 k ∧ Hid (Bw w2 wr) ∧ ∃ fs, Hid (OwFr wr BB s7 fs) ∧ Hid (fs.map (fun f => (f.t, f.k, f.l)) = (List.range k).map (frK x tow)))
  case atStart => exact ⟨0, by omega, by omega, rfl, Lib.hid (Bw.refl _), [], Lib.hid (OwFr.nil _ _), Lib.hid rfl⟩
  case round =>
    obtain ⟨k, hk, hgg, rfl, HW, fs, OF, HS⟩ := hrel
    obtain ⟨wa, rfl⟩ : ∃ wa, wa = wr := ⟨_, rfl⟩
    have HFL := Lib.hid (show fs.length = k by have h9 := congrArg List.length HS.out; simpa using h9)
    by_cases hlt : k < 3
    · have hkz : (k : Int) < 3 := by omega
      have hk0 : (0 : Int) ≤ k := by omega
      have hx := fun W => IX.out V k hlt W
      have hla := (HL.out k hlt).mono HW.out
      obtain ⟨a4, c4, hv4⟩ := hla.form
      have HOK := Lib.hid (okL_LS k)
      have FDK := Lib.hid (fun v base g W h1 h2 => FD.out k v base g W h1 h2)
      have PKK := Lib.hid (fun W vf vv hf hv => PK.out k hlt W vf vv hf hv)
      have HFK := Lib.hid (show frK x tow k = ((tow + k) % 131072, (k : Int) + 1, FrE x k) from rfl)
      have HPL := Lib.hid (HLEN.out k hlt)
      generalize FrE x k = pl at PKK HFK HPL
      generalize LS k = L at hla hv4 HOK FDK PKK
      obtain ⟨n, hn⟩ : ∃ n, n = L.length := ⟨_, rfl⟩
      rw [← hn] at hv4
      have HN := Lib.hid hn
      clear hn
      rw [hv4] at hx hla
      have HLA := Lib.hid hla
      clear hla hv4
      obtain ⟨av, cv, hvv⟩ := own_form2 OF.out.own
      subst hvv
      have BX := Lib.hid (Blk.new wa 63 #[.slice a4 n c4])
      have hba := Bw.alloc (Bw.refl wa) (.cells #[.slice a4 n c4] 63)
      obtain ⟨g4, hg4⟩ : ∃ g4, wa.heap.size = g4 := ⟨_, rfl⟩
      rw [hg4] at BX
      go_upto_region 11 with fail
      obtain ⟨W1, hW1⟩ : ∃ W1, wa.alloc (.cells #[.slice a4 n c4] 63) = W1 := ⟨_, rfl⟩
      rw [hW1] at BX hba ⊢
      clear hW1 hg4
      replace HW := Lib.hid (HW.out.trans hba)
      replace HLA := Lib.hid (HLA.out.mono hba)
      replace OF := Lib.hid (OF.out.bw hba)
      clear hba hx
      have g0 := BX.out.cell (j := 0) (v := .slice a4 n c4) rfl
      go_wp2
      obtain ⟨VB, hVB⟩ : ∃ VB, W1.heap.size = VB := ⟨_, rfl⟩
      have HVB := Lib.hid hVB
      clear hVB g0
      go_loopg [10, 33] 8 (fun gg s10 s33 wr => ∃ i : Nat, i ≤ n ∧ n - i ≤ gg ∧ s33 = .int .i64 i ∧ Hid (Bw W1 wr) ∧ Hid (wr.ownsRow VB 3 1 s10 (valsE x (L.take i)).length ((valsE x (L.take i)).map (Value.int .i64))))
      case atStart => exact ⟨0, by omega, by have := HN.out; have := HOK.out.2.2.1; omega, rfl, Lib.hid (Bw.refl _), Lib.hid (World.ownsRow_nil _ _ _ _)⟩
      case round =>
        obtain ⟨i, hi, hgg2, rfl, HX, O1⟩ := hrel
        obtain ⟨wb, rfl⟩ : ∃ wb, wb = wr := ⟨_, rfl⟩
        by_cases hil : i < n
        · have hiz : (i : Int) < n := by omega
          have hi0 : (0 : Int) ≤ i := by omega
          have hiL : i < L.length := by have := HN.out; omega
          have hat : L[i]? = some (L.getD i (0, false, 0)) := by rw [List.getD_eq_getElem?_getD, List.getElem?_eq_getElem hiL]; rfl
          have HT := Lib.hid (show valsE x (L.take (i + 1)) = valsE x (L.take i) ++ [x (L.getD i (0, false, 0)).2.2] by unfold valsE; rw [List.take_add_one, hat, List.map_append]; rfl)
          have HTL := Lib.hid (show (valsE x (L.take i)).length = i by unfold valsE; rw [List.length_map, List.length_take]; omega)
          have hjb := HOK.out.2.2.2 _ (getD_mem L i (0, false, 0) hiL)
          have hn8 := HOK.out.2.2.1
          obtain ⟨ps, q1, q2, _⟩ := (HLA.out.mono HX.out)
          obtain ⟨p, hp, e1, e2, e3⟩ := q2.at i _ hat
          obtain ⟨gid, cap, hpf, eg, hcall⟩ := e3.ok
          have HCL := Lib.hid hcall
          obtain ⟨bp, op, cp, hvp, hcp⟩ := q1.at (by have := q2.len; omega)
          injection hvp with j1 j2 j3
          subst j1
          obtain ⟨d0, d1, d2⟩ := hcp i p hp
          rw [e1] at d0
          rw [e2] at d1
          rw [hpf] at d2
          have kx : wb.cell? ⟨w.heap.size, (L.getD i (0, false, 0)).2.2, none⟩ = some (.int .i64 (x (L.getD i (0, false, 0)).2.2)) := ((KX.out.bw (HW.out.trans HX.out)).cell (eV_at x _ hjb))
          generalize valsE x (L.take i) = l1 at O1 HT HTL
          generalize (L.getD i (0, false, 0)) = t at *
          obtain ⟨tn, tg, tj⟩ := t
          dsimp only at *
          clear hcall hcp j2 j3 hat hp e1 e2 e3 q1 q2 hpf
          generalize x tj = z at *
          have hbp := Bw.alloc (Bw.refl wb) (.cells #[.int .i64 tn, .bool tg, .func (.func gid) #[] cap] 68)
          have PB := Lib.hid (Blk.new wb 68 #[.int .i64 tn, .bool tg, .func (.func gid) #[] cap])
          obtain ⟨gp, hgp⟩ : ∃ gp, wb.heap.size = gp := ⟨_, rfl⟩
          rw [hgp] at PB
          go_upto_region 14 with fail
          obtain ⟨W2, hW2⟩ : ∃ W2, wb.alloc (.cells #[.int .i64 tn, .bool tg, .func (.func gid) #[] cap] 68) = W2 := ⟨_, rfl⟩
          rw [hW2] at PB hbp ⊢
          clear hW2 hgp
          replace HX := Lib.hid (HX.out.trans hbp)
          replace O1 := Lib.hid (own_bw O1.out hbp)
          replace kx := hbp.cell' kx
          have HT2 := Lib.hid hbp
          clear hbp d0 d1 d2
          have p2 := PB.out.cell (j := 2) (v := .func (.func gid) #[] cap) rfl
          go_wp2_with (first | (go_at_fn gid; refine Calls.mono (HCL.out _ HT2.out _) ?_; rintro e4 w4 ⟨rfl, hb9⟩; replace HX := Lib.hid (HX.out.trans hb9); replace O1 := Lib.hid (own_bw O1.out hb9); replace kx := hb9.cell' kx; clear hb9 p2) | (at_builtin; have hba := Bw.alloc (Bw.refl w4) (.cells #[.int .i64 z] 3); replace O1 := Lib.hid (own_bw O1.out hba); replace HX := Lib.hid (HX.out.trans hba); clear hba kx; refine wpList_append_int1 rfl (.tmp 37) (.tmp 43) _ rfl VB 3 Try.underlying40 infoInt _ l1 z rfl O1.out _ rfl (by simp [go_sem]) (by have := HTL.out; omega) (by have := HX.out.size; have := HVB.out; simp only [World.size_alloc] at *; omega) ?_; intro v8 w8 hown hgr; replace HX := Lib.hid (bw_grownP HVB.out HX.out O1.out hgr); replace O1 := Lib.hid hown; clear hown hgr))
          go_roundg (n - (i + 1))
          case measure => omega
          case rel => exact ⟨i + 1, by omega, by omega, by go_num, HX, Lib.hid (by rw [HT.out]; exact O1.out)⟩
        · obtain rfl : i = n := by omega
          have hiz : ¬ (i : Int) < i := by omega
          have hvl : valsE x (L.take i) = valsE x L := by rw [HN.out, List.take_length]
          rw [hvl] at O1
          have HRV := Lib.hid (own_rd O1.out (by unfold valsE; rw [List.length_map]; have := HN.out; have := HOK.out.2.2.1; omega)).1
          replace HW := Lib.hid (HW.out.trans HX.out)
          replace HLA := Lib.hid (HLA.out.mono HX.out)
          replace OF := Lib.hid (OF.out.bw HX.out)
          replace BX := Lib.hid (BX.out.bw HX.out)
          clear HX O1 hvl
          have htm : (tow + k).tmod 131072 = (tow + k) % 131072 := Int.tmod_eq_emod_of_nonneg (by omega)
          go_upto_region 17 with (first | (go_at_call 31; (with_reducible refine Calls.mono (FDK.out _ _ _ _ HLA.out BX.out) ?_); rintro e2 w5 ⟨⟨v15, rfl, hr9, _⟩, hb9⟩; have HRF := Lib.hid hr9; replace HW := Lib.hid (HW.out.trans hb9); replace HRV := Lib.hid (HRV.out.mono hb9); replace OF := Lib.hid (OF.out.bw hb9); clear hr9 hb9) | (go_at_call 30; (with_reducible refine Calls.mono (PKK.out _ _ _ HRF.out HRV.out) ?_); rintro e2 w6 ⟨⟨vd, rfl, hrd, hfd, hcd⟩, hb9⟩; obtain ⟨ad, cd, rfl⟩ := hrd.form; have HSO := Lib.hid OF.out.own.lt; have HSP := Lib.hid (show BB ≤ w5.heap.size by have := HW.out.size; have := HB.out; omega); have HD := Lib.hid (And.intro hrd (And.intro hfd hcd)); have HSZ := Lib.hid hb9.size; replace HW := Lib.hid (HW.out.trans hb9); replace OF := Lib.hid (OF.out.bw hb9); clear hrd hfd hcd hb9))
          obtain ⟨W7, hW7⟩ : ∃ W7, w6.alloc (.cells #[.int .i64 0, .int .i64 0] 72) = W7 := ⟨_, rfl⟩
          have hbf : Bw w6 W7 := by rw [← hW7]; exact Bw.alloc (Bw.refl w6) _
          rw [hW7]
          clear hW7
          obtain ⟨hrd, hfd, hcd⟩ := HD.out
          have HRD := Lib.hid (hrd.mono hbf)
          have HBL := Lib.hid (show ∀ b, (Value.slice ad pl.length cd).ownBlock = some b → b < w6.heap.size from fun b e => by obtain ⟨b7, o7, c7, hv7, hb7, _⟩ := hrd.at (by have := HPL.out; omega); injection hv7 with i1 i2 i3; subst i1; simp [Value.ownBlock] at e; omega)
          have HAP := Lib.hid (show ∀ b, (Value.slice ad pl.length cd).ownBlock = some b → (Value.slice av fs.length cv).ownBlock ≠ some b from fun b e e' => by have h1 := hfd b e; have h2 := (HSO.out b e').2; omega)
          replace HW := Lib.hid (HW.out.trans hbf)
          replace OF := Lib.hid (OF.out.bw hbf)
          have HS7 := Lib.hid hbf.size
          clear hbf hrd
          go_wp2_with (at_builtin; have hba := Bw.alloc (Bw.refl W7) (.cells #[.int .i64 ((tow + k) % 131072), .int .i64 ((k : Int) + 1), .slice ad pl.length cd] 47); have NB := Lib.hid (Blk.new W7 47 #[.int .i64 ((tow + k) % 131072), .int .i64 ((k : Int) + 1), .slice ad pl.length cd]); replace OF := Lib.hid (OF.out.bw hba); replace HW := Lib.hid (HW.out.trans hba); replace HRD := Lib.hid (HRD.out.mono hba); refine wpList_append_fr rfl (.tmp 52) (.tmp 61) _ rfl BB Try.underlying29 _ fs ⟨(tow + k) % 131072, (k : Int) + 1, .slice ad pl.length cd, pl⟩ rfl OF.out _ 47 rfl NB.out HRD.out hcd (hfd.mono HSP.out) (fun b e => ⟨HAP.out b e, by have h1 := HBL.out b e; have h2 := HS7.out; simp only [World.size_alloc]; omega⟩) (by have := HFL.out; omega) (by have := HW.out.size; have := HB.out; simp only [World.size_alloc] at *; omega) ?_; intro v8 w8 hown hgr; replace HW := Lib.hid (bw_grownP HB.out HW.out OF.out.own hgr); replace OF := Lib.hid hown; clear hown hgr hba NB)
          go_roundg (3 - (k + 1))
          case measure => omega
          case rel => exact ⟨k + 1, by omega, by omega, by go_num, HW, _, OF, Lib.hid (by rw [List.map_append, HS.out, List.range_succ, List.map_append]; simp only [List.map_cons, List.map_nil]; rw [HFK.out])⟩
    · obtain rfl : k = 3 := by omega
      have hkz : ¬ ((3 : Nat) : Int) < 3 := by omega
      obtain ⟨av, cv, hvv⟩ := own_form2 OF.out.own
      subst hvv
      go_wp2
      refine bodyPost_ret (v := .tuple #[.slice av fs.length cv, .int .i64 0]) ?_ rfl ⟨⟨_, fs, rfl, ?_, HS.out⟩, HBW.out.trans HW.out⟩
      · simp [results, Try.results11, go_sem]
      · exact ⟨own_down OF.out.own (Nat.le_of_lt HB2.out), fun f hf => ⟨(OF.out.rd f hf).1, (OF.out.rd f hf).2.1, (OF.out.rd f hf).2.2.1.mono (Nat.le_of_lt HB2.out), (OF.out.rd f hf).2.2.2⟩⟩
end Go.Proofs.Sky

namespace Go.Proofs.Sky
open Go Go.RowKit Go.Shelf
set_option maxHeartbeats 1000000
/-! slices.ContainsFunc over ints -/
theorem indexFuncI_any (f : Int → Bool) (g : Nat) (eg : ∀ args w, (callFunc g args).run Try.prog w = .ok (.enter g args) w)
   (zs : List Int) (v : Value) (w : World)
   (hp : ∀ p ∈ zs, ∀ W, Bw w W → Calls Try.prog g #[.int .i64 p] W fun e w' => e = .returned (.bool (f p)) ∧ Bw W w')
   (hv : RdI w v zs) :
   Calls Try.prog 69 #[v, .func (.func g) #[] #[]] w fun e w' => AnyIdx (zs.any f) e ∧ Bw w w' := by
  obtain ⟨h2, a, cap, rfl, h4⟩ := hv
  obtain ⟨n, hn⟩ : ∃ n, n = zs.length := ⟨_, rfl⟩
  rw [← hn] at h2 ⊢
  have HN := Lib.hid hn; clear hn
  have H4 := Lib.hid h4; clear h4
  have HP := Lib.hid hp; clear hp
  go_enter Try.func69, Try.ntmps69
  go_wp2
  go_loopg [5, 8] n (fun gg _ s8 wr => ∃ kk : Nat, kk ≤ n ∧ n - kk ≤ gg ∧ s8 = .int .i64 kk ∧ Hid (Bw w wr) ∧ Hid (∀ j, j < kk → f (zs.getD j 0) = false))
  case atStart => exact ⟨0, Nat.zero_le _, by omega, rfl, Bw.refl _, fun j hj => absurd hj (Nat.not_lt_zero _)⟩
  case round =>
    obtain ⟨kk, hkk, hg, rfl, hbw, A⟩ := hrel
    by_cases hlt : kk < n
    · have hltz : (kk : Int) < (n : Int) := by omega
      have hq := HN.out
      obtain ⟨b, off, rfl, hb, hc⟩ := H4.out.resolve_left (by intro h; rw [h] at hq; simp at hq; omega)
      have hc1 := hc kk (by omega)
      rw [← hbw.out.cells.1 _ _ hb] at hc1
      have hm := getD_mem zs kk 0 (by omega)
      clear hc H4
      generalize hx : zs.getD kk 0 = x at hc1 hm
      have HX := Lib.hid hx; clear hx hq
      have hcall := HP.out _ hm wr hbw.out
      clear hm HP
      cases hpx : f x with
      | true =>
        rw [hpx] at hcall
        have HPX := Lib.hid hpx; clear hpx
        have HC := Lib.hid hcall; clear hcall
        go_wp2_with (go_at_fn g; refine (HC.out).mono ?_; rintro e w' ⟨rfl, hb2⟩)
        go_ret
        refine ⟨⟨kk, rfl, ?_⟩, Bw.trans hbw.out hb2⟩
        rw [any_of_lt zs f 0 kk (by have := HN.out; omega) (by rw [HX.out]; exact HPX.out)]
        simp
      | false =>
        rw [hpx] at hcall
        have HPX := Lib.hid hpx; clear hpx
        have HC := Lib.hid hcall; clear hcall
        go_wp2_with (go_at_fn g; refine (HC.out).mono ?_; rintro e w' ⟨rfl, hb2⟩)
        go_roundg (n - (kk + 1))
        case measure => omega
        case rel =>
          refine ⟨kk + 1, by omega, by omega, by go_num, Bw.trans hbw.out hb2, fun j hj => ?_⟩
          by_cases e : j = kk
          · subst e
            rw [HX.out]; exact HPX.out
          · exact A.out j (by omega)
    · have hltz : ¬ (kk : Int) < (n : Int) := by omega
      have : kk = n := by omega
      subst this
      go_wp2
      go_ret
      refine ⟨⟨-1, rfl, ?_⟩, hbw.out⟩
      rw [any_none zs f 0 (fun i hi => A.out i (by have := HN.out; omega))]
      rfl
theorem containsFuncI_any (f : Int → Bool) (g : Nat) (eg : ∀ args w, (callFunc g args).run Try.prog w = .ok (.enter g args) w)
   (zs : List Int) (v : Value) (w : World)
   (hp : ∀ p ∈ zs, ∀ W, Bw w W → Calls Try.prog g #[.int .i64 p] W fun e w' => e = .returned (.bool (f p)) ∧ Bw W w')
   (hv : RdI w v zs) :
   Calls Try.prog 62 #[v, .func (.func g) #[] #[]] w fun e w' => e = .returned (.bool (zs.any f)) ∧ Bw w w' := by
  have HC := Lib.hid (indexFuncI_any f g eg zs v w hp hv)
  clear hp hv
  go_enter Try.func62, Try.ntmps62
  go_wp2_with (go_at_call 69; refine (HC.out).mono ?_; rintro e w' ⟨⟨r, rfl, hr⟩, hb2⟩; have HR := Lib.hid hr; clear hr)
  go_ret
  exact ⟨ret_bool HR.out, hb2⟩
theorem rdI_drop {w : World} {b o n c : Nat} {zs : List Int} (h : RdI w (.slice (some ⟨b, o, none⟩) n c) zs) (i : Nat) (hi : i < n) {c' : Nat} : RdI w (.slice (some ⟨b, o + i, none⟩) (n - i) c') (zs.drop i) := by
  obtain ⟨h1, a, cc, hv, h2⟩ := h
  injection hv with e1 e2 e3
  subst e1 e2 e3
  refine ⟨by rw [List.length_drop]; omega, some ⟨b, o + i, none⟩, c', by rw [List.length_drop], .inr ?_⟩
  rcases h2 with h2 | ⟨b', off, e, hb, hc⟩
  · subst h2; simp at hi
  · injection e with e; injection e with e1 e2
    subst e1 e2
    refine ⟨b, o + i, rfl, hb, fun j hj => ?_⟩
    rw [List.length_drop] at hj
    have := hc (i + j) (by omega)
    rw [show o + i + j = o + (i + j) by omega, this]
    simp [List.getD_eq_getElem?_getD]
theorem nb_any (d : Int) (w : World) : Calls Try.prog 63 #[.int .i64 d] w fun e w' => e = .returned (.bool (d != 0 && d != 1)) ∧ Bw w w' := by
  by_cases h0 : d = 0
  · subst h0
    go_enter Try.func63, Try.ntmps63
    go_wp2
    go_ret
    exact ⟨rfl, Bw.refl _⟩
  by_cases h1 : d = 1
  · subst h1
    go_enter Try.func63, Try.ntmps63
    go_wp2
    go_ret
    exact ⟨rfl, Bw.refl _⟩
  · have e0 : (d != 0) = true := by simpa using h0
    have e1 : (d != 1) = true := by simpa using h1
    rw [e0, e1]
    clear h0 h1
    go_enter Try.func63, Try.ntmps63
    go_wp2
    go_ret
    exact ⟨rfl, Bw.refl _⟩
theorem bits_any (zs : List Int) (v : Value) (w : World) (hv : RdI w v zs) : Calls Try.prog 62 #[v, .func (.func 63) #[] #[]] w fun e w' => e = .returned (.bool (zs.any fun d => d != 0 && d != 1)) ∧ Bw w w' :=
  containsFuncI_any (fun d => d != 0 && d != 1) 63 (enters_of Try.func63 (by kernel_rfl) rfl) zs v w (fun p _ W _ => nb_any p W) hv
theorem indexI_any (zs : List Int) (x : Int) (v : Value) (w : World) (hv : RdI w v zs) :
   Calls Try.prog 71 #[v, .int .i64 x] w fun e w' => AnyIdx (zs.any (fun d => x == d)) e ∧ Bw w w' := by
  obtain ⟨h2, a, cap, rfl, h4⟩ := hv
  obtain ⟨n, hn⟩ : ∃ n, n = zs.length := ⟨_, rfl⟩
  rw [← hn] at h2 ⊢
  have HN := Lib.hid hn; clear hn
  have H4 := Lib.hid h4; clear h4
  go_enter Try.func71, Try.ntmps71
  go_wp2
  go_loopg [5, 8] n (fun gg _ s8 wr => ∃ kk : Nat, kk ≤ n ∧ n - kk ≤ gg ∧ s8 = .int .i64 kk ∧ wr = w ∧ Hid (∀ j, j < kk → (x == zs.getD j 0) = false))
  case atStart => exact ⟨0, Nat.zero_le _, by omega, rfl, rfl, fun j hj => absurd hj (Nat.not_lt_zero _)⟩
  case round =>
    obtain ⟨kk, hkk, hg, rfl, hwr, A⟩ := hrel
    replace hwr := hwr.symm
    subst hwr
    by_cases hlt : kk < n
    · have hltz : (kk : Int) < (n : Int) := by omega
      have hq := HN.out
      obtain ⟨b, off, rfl, hb, hc⟩ := H4.out.resolve_left (by intro h; rw [h] at hq; simp at hq; omega)
      have hc1 := hc kk (by omega)
      have HT := Lib.hid (fun (h : (x == zs.getD kk 0) = true) => any_of_lt zs (fun d => x == d) 0 kk (by omega) h)
      have HF := Lib.hid (fun (h : (x == zs.getD kk 0) = false) => (fun j (hj : j < kk + 1) => (by
        rcases Nat.lt_succ_iff_lt_or_eq.1 hj with h9 | rfl
        · exact A.out j h9
        · exact h : (x == zs.getD j 0) = false)))
      clear hc H4 hq
      generalize zs.getD kk 0 = z at hc1 HT HF
      cases hz : (x == z) with
      | true =>
        have HG := Lib.hid (HT.out hz)
        clear HT HF
        go_wp2
        go_ret
        refine ⟨⟨kk, rfl, ?_⟩, Bw.refl _⟩
        rw [HG.out]; simp
      | false =>
        have HG := Lib.hid (HF.out hz)
        clear HT HF
        go_wp2
        go_roundg (n - (kk + 1))
        case measure => omega
        case rel => exact ⟨kk + 1, by omega, by omega, by go_num, rfl, HG⟩
    · have hltz : ¬ (kk : Int) < (n : Int) := by omega
      have : kk = n := by omega
      subst this
      go_wp2
      go_ret
      refine ⟨⟨-1, rfl, ?_⟩, Bw.refl _⟩
      rw [any_none zs (fun d => x == d) 0 (fun i hi => A.out i (by have := HN.out; omega))]
      rfl
theorem containsI_any (zs : List Int) (x : Int) (v : Value) (w : World) (hv : RdI w v zs) :
   Calls Try.prog 65 #[v, .int .i64 x] w fun e w' => e = .returned (.bool (zs.any (fun d => x == d))) ∧ Bw w w' := by
  have HC := Lib.hid (indexI_any zs x v w hv)
  clear hv
  go_enter Try.func65, Try.ntmps65
  go_wp2_with (go_at_call 71; refine (HC.out).mono ?_; rintro e w' ⟨⟨r, rfl, hr⟩, hb2⟩; have HR := Lib.hid hr; clear hr)
  go_ret
  exact ⟨ret_bool HR.out, hb2⟩
end Go.Proofs.Sky

namespace Go.Proofs.Sky
open Go Go.RowKit
/-- all but one block is kept -/
structure Kx (g : Nat) (w w' : World) : Prop where
  b : Below g w w'
  oth : ∀ b, b < w.heap.size → b ≠ g → w'.heap[b]? = w.heap[b]?
theorem Kx.size {g : Nat} {w w' : World} (h : Kx g w w') : w.heap.size ≤ w'.heap.size := Below.size h.b
theorem Kx.of_bw {g : Nat} {w w' : World} (h : Bw w w') (hg : g ≤ w.heap.size) : Kx g w w' := ⟨Below.mono h hg, fun b hb _ => h.out.block b hb⟩
theorem Kx.trans {g : Nat} {a b c : World} (h : Kx g a b) (k : Kx g b c) : Kx g a c :=
  ⟨Below.trans h.b k.b, fun x hx hn => (k.oth x (Nat.lt_of_lt_of_le hx h.size) hn).trans (h.oth x hx hn)⟩
theorem Kx.blk {g b : Nat} {w w' : World} {T : TypeId} {cs : Array Value} (h : Kx g w w') (hB : Blk w b T cs) (hn : b ≠ g) : Blk w' b T cs := (h.oth b hB.lt hn).trans hB
theorem Kx.bw {g : Nat} {a w w' : World} (h : Kx g w w') (hb : Bw a w) (hg : a.heap.size ≤ g) : Bw a w' := Below.trans hb (Below.mono h.b hg)
theorem Kx.set {g j : Nat} {w : World} (hg : g < w.heap.size) (v : Value) : Kx g w (w.setCell ⟨g, j, none⟩ v) :=
  ⟨Below.setCell (p := ⟨g, j, none⟩) (Below.refl g w) (Nat.le_refl g) v, fun b _ hn => heap_setCell_other w ⟨g, j, none⟩ b v (by simpa using hn)⟩
theorem Kx.rdI {g base : Nat} {w w' : World} {v : Value} {zs : List Int} (h : Kx g w w') (hr : RdI w v zs) (hf : Fresh base v) (hg : g < base) : RdI w' v zs := by
  obtain ⟨h2, a, cap, rfl, h4⟩ := hr
  refine ⟨h2, a, cap, rfl, ?_⟩
  rcases h4 with h4 | ⟨b', off, rfl, h6, h7⟩
  · exact .inl h4
  · have := hf b' rfl
    refine .inr ⟨b', off, rfl, Nat.lt_of_lt_of_le h6 h.size, fun i hi => ?_⟩
    rw [World.cell?_of_block (h.oth b' h6 (by omega))]; exact h7 i hi
end Go.Proofs.Sky

namespace Go.Proofs.Sky
open Go Go.RowKit Go.Shelf
set_option maxHeartbeats 4000000
set_option maxRecDepth 4000
/-! chapter 26: a frame's data read into an ephemeris -/
def rvS (L : List (Int × Bool × Nat)) (zs : List Int) (i : Nat) : Int := getR zs (fdS L i).a (fdS L i).n (fdS L i).g (fdS L i).u (fdS L i).c
def okB (zs : List Int) : Bool := !(zs.any fun d => d != 0 && d != 1)
theorem okB_at {zs : List Int} (h : okB zs = true) (q : Nat) : zs.getD q 0 = 0 ∨ zs.getD q 0 = 1 := by
  rcases Nat.lt_or_ge q zs.length with hq | hq
  · unfold okB at h
    have h1 : (zs.any fun d => d != 0 && d != 1) = false := by simpa using h
    have := List.any_eq_false.1 h1 _ (getD_mem zs q 0 hq)
    simp at this
    by_cases h0 : zs.getD q 0 = 0
    · exact .inl h0
    · exact .inr (by simpa [List.getD_eq_getElem?_getD] using this (by simpa [List.getD_eq_getElem?_getD] using h0))
  · rw [List.getD_eq_getElem?_getD, List.getElem?_eq_none hq]; exact .inl rfl
theorem unpackS {L : List (Int × Bool × Nat)} (h : okW L) (zs : List Int) (hl : zs.length = 206) (hb : okB zs = true) : unpackR (fdsS L) zs = ((List.range L.length).map (rvS L zs), (0, 0)) := by
  have hlay : layout (fdsS L) 206 = (0, 0) := by
    have h1 := psV_ok h (v := fun _ => 0) (fun i hi => by
      have h2 := h.1.2 _ (getD_mem L i (0, false, 0) hi)
      have h3 := lowR_bd (L.getD i (0, false, 0)).1 (L.getD i (0, false, 0)).2.1 (by omega) (by omega)
      have h4 := highR_bd (L.getD i (0, false, 0)).1 (L.getD i (0, false, 0)).2.1 (by omega) (by omega)
      omega)
    have hok : ∀ p ∈ psV L (fun _ => 0), okP 206 p := fun p hp => by
      obtain ⟨a1, a2, a3⟩ := h1 p hp
      exact ⟨a1, by omega, a3⟩
    have := layout_ok 206 (psV L (fun _ => 0)) hok (psV_dis h.1 _) (by unfold psV; rw [List.length_map, List.length_range]; exact h.1.1)
    rw [psV_fst] at this
    exact this
  have h9 := unR_ok zs (psV L (rvS L zs)) 0 [] (fun p hp => by
    obtain ⟨i, hi, rfl⟩ := List.mem_map.1 hp
    have hil := List.mem_range.1 hi
    have h1 := atS_bd h.1 i (by omega)
    have h2 := h.1.2 _ (getD_mem L i (0, false, 0) hil)
    have h3 : atS L i + (L.getD i (0, false, 0)).1 ≤ atS L L.length := atS_mono h.1 i L.length hil (Nat.le_refl _)
    have h4 := h.2
    have hfk : fk (fdS L i).a (fdS L i).n (fdS L i).u (fdS L i).c := by unfold fk fdS; dsimp only; omega
    refine ⟨?_, ?_⟩
    · unfold errT
      rw [errF_ok hfk, if_pos rfl, if_neg (by unfold fdS; dsimp only; omega), if_pos ((oksP_iff _ _ _).2 (fun j hj => okB_at hb _))]
    · show rvS L zs i = (0 : Int) + rvS L zs i * 1
      omega)
  rw [psV_fst, psV_val, List.nil_append] at h9
  unfold unpackR
  rw [hl, show layout (fdsS L) ((206 : Nat) : Int) = (0, 0) from hlay, if_pos rfl, h9]
def updE (y : Nat → Int) (j : Nat) (v : Int) : Nat → Int := fun i => if i = j then v else y i
theorem eV_set (y : Nat → Int) (j : Nat) (v : Int) (h : j < 19) : (eV y).setIfInBounds j (.int .i64 v) = eV (updE y j v) := by
  match j, h with
  | 0, _ => rfl
  | 1, _ => rfl
  | 2, _ => rfl
  | 3, _ => rfl
  | 4, _ => rfl
  | 5, _ => rfl
  | 6, _ => rfl
  | 7, _ => rfl
  | 8, _ => rfl
  | 9, _ => rfl
  | 10, _ => rfl
  | 11, _ => rfl
  | 12, _ => rfl
  | 13, _ => rfl
  | 14, _ => rfl
  | 15, _ => rfl
  | 16, _ => rfl
  | 17, _ => rfl
  | 18, _ => rfl
  | n + 19, h => exact absurd h (by omega)
def setL (y : Nat → Int) (L : List (Int × Bool × Nat)) (v : Nat → Int) : Nat → Nat → Int
  | 0 => y
  | i + 1 => updE (setL y L v i) (L.getD i (0, false, 0)).2.2 (v i)
/-- whether the data are a part of an ephemeris, but for Prn and T0 -/
def gdF (kind : Int) (zs : List Int) : Bool := decide (1 ≤ kind ∧ kind ≤ 3 ∧ zs.length = 206) && okB zs && !((zs.drop (atS (LS (kind - 1).toNat) (LS (kind - 1).toNat).length).toNat).any fun d => (1 : Int) == d)
def fillX (y : Nat → Int) (kind : Int) (zs : List Int) : Nat → Int := if gdF kind zs then setL y (LS (kind - 1).toNat) (rvS (LS (kind - 1).toNat) zs) (LS (kind - 1).toNat).length else y
def fillB (y : Nat → Int) (kind : Int) (zs : List Int) : Bool := gdF kind zs && decide (0 < fillX y kind zs 0 ∧ fillX y kind zs 2 < 604800)
def FillP (g : Nat) (y : Nat → Int) (kind : Int) (zs : List Int) (w : World) (e : Ending) (w' : World) : Prop := e = .returned (.bool (fillB y kind zs)) ∧ Kx g w w' ∧ Blk w' g 25 (eV (fillX y kind zs))
theorem fill_no {g : Nat} {y : Nat → Int} {kind : Int} {zs : List Int} {w w' : World} (h : gdF kind zs = false) (hB : Blk w g 25 (eV y)) (hw : Bw w w') : FillP g y kind zs w (.returned (.bool false)) w' := by
  refine ⟨?_, Kx.of_bw hw (Nat.le_of_lt hB.lt), ?_⟩
  · unfold fillB; rw [h]; rfl
  · unfold fillX; rw [if_neg (by rw [h]; simp)]; exact hB.bw hw
theorem Ks.of_kx {a b : World} {g : Nat} {old : Array Value} (h : Kx g a b) (hB : Blk a g 25 old) : Ks a b := by
  refine ⟨h.size, fun g' T cs hn hB' => ?_⟩
  by_cases e : g' = g
  · subst e
    unfold Blk at hB hB'
    rw [hB] at hB'
    injection hB' with h1
    injection h1 with h2 h3 h4
    exact absurd h3.symm hn.2.2
  · exact h.blk hB' e
theorem RdP3.kx {g base : Nat} {w w' : World} {v : Value} {ps : List Pt} (h : RdP3 w v ps) (hk : Kx g w w') (hf : Fresh base v) (hg : g < base) : RdP3 w' v ps := by
  obtain ⟨h1, h2, a, cap, rfl, h9, h4⟩ := h
  refine ⟨h1, h2, a, cap, rfl, h9, ?_⟩
  rcases h4 with h4 | ⟨b, off, rfl, h6, h7⟩
  · exact .inl h4
  · have := hf b rfl
    exact .inr ⟨b, off, rfl, Nat.lt_of_lt_of_le h6 hk.size, fun j u hu => by
      rw [World.cell?_of_block (hk.oth b h6 (by omega))]; exact h7 j u hu⟩
theorem LayAt.kx {g base : Nat} {w w' : World} {v : Value} {L : List (Int × Bool × Nat)} {old : Array Value} (h : LayAt w base v L) (hk : Kx g w w') (hB : Blk w g 25 old) (hg : g < base) : LayAt w' base v L := by
  obtain ⟨ps, h1, h2, h3⟩ := h; exact ⟨ps, h1.kx hk h3 hg, h2.ks (Ks.of_kx hk hB), h3⟩
theorem fill_any (g : Nat) (y : Nat → Int) (kind : Int) (zs : List Int) (v : Value) (w : World) (hB : Blk w g 25 (eV y)) (hv : RdI w v zs) (hc : Capd v) : Calls Try.prog 37 #[.pointer (some ⟨g, 0, none⟩), .int .i64 kind, v] w fun e w' => FillP g y kind zs w e w' := by
  have HV := Lib.hid hv
  have hcc := hc
  obtain ⟨a, c, rfl⟩ := hv.form
  have hcap := hcc _ _ _ rfl
  clear hv hc hcc
  have BX := Lib.hid hB
  clear hB
  have CB := Lib.hid (fun W h => bits_any zs (.slice a zs.length c) W h)
  have HNO := Lib.hid (fun w' (h : gdF kind zs = false) (hw : Bw w w') => fill_no (y := y) h BX.out hw)
  have e0 := Lib.hid (fun (h : ¬ (1 ≤ kind ∧ kind ≤ 3 ∧ zs.length = 206)) => (by unfold gdF; rw [decide_eq_false h]; rfl : gdF kind zs = false))
  by_cases q1 : kind < 1
  · have HG := Lib.hid (HNO.out w (e0.out (by omega)) (Bw.refl w))
    clear HNO e0
    go_enter Try.func37, Try.ntmps37
    go_wp2
    go_ret
    exact HG.out
  by_cases q2 : 3 < kind
  · have HG := Lib.hid (HNO.out w (e0.out (by omega)) (Bw.refl w))
    clear HNO e0
    go_enter Try.func37, Try.ntmps37
    go_wp2
    go_ret
    exact HG.out
  by_cases q3 : zs.length = 206
  case neg =>
    have HG := Lib.hid (HNO.out w (e0.out (fun h => q3 h.2.2)) (Bw.refl w))
    have q3b : ((zs.length : Int) != 206) = true := by simp; omega
    clear HNO e0 q3
    go_enter Try.func37, Try.ntmps37
    go_wp2
    go_ret
    exact HG.out
  have HL := Lib.hid q3
  rw [q3] at HV CB hcap ⊢
  clear e0 q3
  cases hob : (zs.any fun d => d != 0 && d != 1) with
  | true =>
    rw [hob] at CB
    have HG := Lib.hid (fun w' hw => HNO.out w' (by unfold gdF okB; rw [hob]; simp) hw)
    clear HNO hob
    go_enter Try.func37, Try.ntmps37
    go_wp2_with (go_at_call 62; (with_reducible refine Calls.mono (CB.out _ HV.out) ?_); rintro e1 w1 ⟨rfl, hb9⟩; have HW := Lib.hid hb9; clear hb9)
    go_ret
    exact HG.out _ HW.out
  | false =>
    rw [hob] at CB
    have hokB : okB zs = true := by unfold okB; rw [hob]; rfl
    clear hob
    obtain ⟨k, hk⟩ : ∃ k : Nat, kind = (k : Int) + 1 := ⟨(kind - 1).toNat, by omega⟩
    subst hk
    have hk3 : k < 3 := by omega
    have hkn : ((k : Int) + 1 - 1).toNat = k := by omega
    have HGD := Lib.hid (show gdF ((k : Int) + 1) zs = !((zs.drop (atS (LS k) (LS k).length).toNat).any fun d => (1 : Int) == d) by
      unfold gdF; rw [hkn, hokB, decide_eq_true ⟨by omega, by omega, HL.out⟩]; rfl)
    have HFX := Lib.hid (show gdF ((k : Int) + 1) zs = true → fillX y ((k : Int) + 1) zs = setL y (LS k) (rvS (LS k) zs) (LS k).length from fun h => by unfold fillX; rw [if_pos h, hkn])
    have HFB := Lib.hid (show gdF ((k : Int) + 1) zs = true → fillB y ((k : Int) + 1) zs = decide (0 < fillX y ((k : Int) + 1) zs 0 ∧ fillX y ((k : Int) + 1) zs 2 < 604800) from fun h => by unfold fillB; rw [h]; rfl)
    have HUN := Lib.hid (unpackS (okW_LS k) zs HL.out hokB)
    have HOK := Lib.hid (okL_LS k)
    have HOW := Lib.hid (okW_LS k)
    have LY : Hid (∀ W, Calls Try.prog 29 #[] W fun e w' => (∃ V : Nat → Value, e = .returned (.agg #[V 0, V 1, V 2]) ∧ LayAt w' W.heap.size (V k) (LS k)) ∧ Bw W w') := Lib.hid (fun W => (layouts_V W).mono (by rintro e w' ⟨⟨V, rfl, h9⟩, hb9⟩; exact ⟨⟨V, rfl, h9 k hk3⟩, hb9⟩))
    have FDK := Lib.hid (fun v base g W h1 h2 => layFields_any (LS k) v base g W (okL_LS k).1 (okL_LS k).2.1 h1 h2)
    have UN := Lib.hid (fun W vf vv hf hv => Unpack_any (fdsS (LS k)) zs vf vv W hf hv)
    unfold PackP at UN
    rw [HUN.out] at UN
    dsimp only at UN
    have CT := Lib.hid (fun W v h => containsI_any (zs.drop (atS (LS k) (LS k).length).toNat) 1 v W h)
    have IX := Lib.hid (fun V w => ixL V k hk3 w)
    clear hkn q1 q2 hokB HUN
    generalize LS k = L at HGD HFX HOK HOW FDK UN CT LY
    obtain ⟨n, hn⟩ : ∃ n, n = L.length := ⟨_, rfl⟩
    rw [← hn] at HGD HFX CT
    have HN := Lib.hid hn
    clear hn
    have hn8 : n ≤ 8 ∧ 0 < n := by have := HOK.out.2.1; have := HOK.out.2.2.1; have := HN.out; omega
    have hk0 : ¬ (k : Int) + 1 < 1 := by omega
    have hk1 : ¬ (3 : Int) < (k : Int) + 1 := by omega
    have HG0 := Lib.hid BX.out.lt
    go_enter Try.func37, Try.ntmps37
    go_upto_region 3 with (go_at_call 62; (with_reducible refine Calls.mono (CB.out _ HV.out) ?_); rintro e1 w1 ⟨rfl, hb9⟩; have HW := Lib.hid hb9; clear hb9)
    have hkk : (k : Int) + 1 - 1 = k := by omega
    go_upto_region 4 with (go_at_call 29; (with_reducible refine Calls.mono (LY.out _) ?_); rintro e1 w2 ⟨⟨V, rfl, hl9⟩, hb9⟩; have hx := fun W => IX.out V W; have hla := hl9; obtain ⟨a4, c4, hv4⟩ := hla.form; rw [← HN.out] at hv4; rw [hv4] at hx; rw [hv4] at hla; have HLA := Lib.hid hla; have HWS := Lib.hid HW.out.size; replace HW := Lib.hid (HW.out.trans hb9); clear hl9 hb9 hla hv4)
    clear hkk
    have B7 := Lib.hid (Blk.new w2 63 #[.slice a4 n c4])
    have hba := Bw.alloc (Bw.refl w2) (.cells #[.slice a4 n c4] 63)
    obtain ⟨g7, hg7⟩ : ∃ g7, w2.heap.size = g7 := ⟨_, rfl⟩
    rw [hg7] at B7 ⊢
    obtain ⟨W3, hW3⟩ : ∃ W3, w2.alloc (.cells #[.slice a4 n c4] 63) = W3 := ⟨_, rfl⟩
    rw [hW3] at B7 hba ⊢
    clear hW3
    have HG7 := Lib.hid (show g < g7 by have := HG0.out; have := HW.out.size; omega)
    clear hg7 hx
    replace HW := Lib.hid (HW.out.trans hba)
    replace HLA := Lib.hid ((HLA.out.mono hba).down HWS.out)
    clear hba
    have c7 := B7.out.cell (j := 0) (v := .slice a4 n c4) rfl
    go_upto_region 6 with (first | (go_at_call 31; (with_reducible refine Calls.mono (FDK.out _ _ _ _ HLA.out B7.out) ?_); rintro e2 w5 ⟨⟨v15, rfl, hr9, _⟩, hb9⟩; obtain ⟨a15, c15, hv15⟩ := hr9.form; rw [show (fdsS L).length = n from (by unfold fdsS; rw [List.length_map, List.length_range]; exact HN.out.symm)] at hv15; subst hv15; have HRF := Lib.hid hr9; replace HW := Lib.hid (HW.out.trans hb9); replace HLA := Lib.hid (HLA.out.mono hb9); replace B7 := Lib.hid (B7.out.bw hb9); clear hr9 hb9) | (go_at_call 64; (with_reducible refine Calls.mono (UN.out _ _ _ HRF.out (HV.out.mono HW.out)) ?_); rintro e2 w6 ⟨⟨vu, rfl, hru, hfu, _⟩, hb9⟩; obtain ⟨au, cu, rfl⟩ := hru.form; have HRU := Lib.hid hru; have HFU := Lib.hid (hfu.mono HW.out.size); replace HW := Lib.hid (HW.out.trans hb9); replace HLA := Lib.hid (HLA.out.mono hb9); replace B7 := Lib.hid (B7.out.bw hb9); replace HRF := Lib.hid (HRF.out.mono hb9); clear hru hfu hb9))
    clear c7
    have B10 := Lib.hid (Blk.new w6 72 #[.int .i64 0, .int .i64 0])
    have hba := Bw.alloc (Bw.refl w6) (.cells #[.int .i64 0, .int .i64 0] 72)
    obtain ⟨g10, hg10⟩ : ∃ g10, w6.heap.size = g10 := ⟨_, rfl⟩
    rw [hg10] at B10 ⊢
    obtain ⟨W7, hW7⟩ : ∃ W7, w6.alloc (.cells #[.int .i64 0, .int .i64 0] 72) = W7 := ⟨_, rfl⟩
    rw [hW7] at B10 hba ⊢
    clear hW7 hg10
    replace HW := Lib.hid (HW.out.trans hba)
    replace HLA := Lib.hid (HLA.out.mono hba)
    replace B7 := Lib.hid (B7.out.bw hba)
    replace HRF := Lib.hid (HRF.out.mono hba)
    replace HRU := Lib.hid (HRU.out.mono hba)
    clear hba
    obtain ⟨m, rfl⟩ : ∃ m, n = m + 1 := ⟨n - 1, by omega⟩
    have hff : (fdsS L)[m]? = some (fdS L m) := by unfold fdsS; rw [List.getElem?_map, List.getElem?_range (by have := HN.out; omega)]; rfl
    obtain ⟨bf, of_, cf, hvf, hcf⟩ := rdF_get HRF.out (by unfold fdsS; rw [List.length_map, List.length_range]; have := HN.out; omega)
    injection hvf with i1 i2 i3
    subst i1
    obtain ⟨f0, f1, f2, f3, f4⟩ := hcf _ _ hff
    clear hcf i2 i3 hff
    unfold fdS at f0 f1 f2 f3 f4
    dsimp only at f0 f1 f2 f3 f4
    obtain ⟨q, hq⟩ : ∃ q : Nat, q = (atS L (m + 1)).toNat := ⟨_, rfl⟩
    have hqb := atS_bd HOW.out.1 (m + 1) (by have := HN.out; omega)
    have hq2 := HOW.out.2
    rw [← HN.out] at hq2
    have hqs : atS L m + (L.getD m (0, false, 0)).1 = (q : Int) := by rw [hq, Int.toNat_of_nonneg hqb.1, atS]
    have hmb := atS_bd HOW.out.1 m (by have := HN.out; omega)
    rw [← hq] at HGD CT
    have hq200 : q ≤ 200 := by omega
    clear hq hqb hq2
    generalize atS L m = Am at *
    generalize hgt : (L.getD m (0, false, 0)) = tm at *
    obtain ⟨tn, tg, tj⟩ := tm
    dsimp only at f0 f1 f2 f3 f4 hqs
    have HGT := Lib.hid hgt
    clear hgt
    have hmz : ((m + 1 : Nat) : Int) - 1 = (m : Int) := by omega
    go_upto_region 7 with fail
    have B11 := Lib.hid (Blk.new W7 81 #[.int .i64 Am, .int .i64 tn, .bool tg, .int .i64 1, .int .i64 0])
    have hba := Bw.alloc (Bw.refl W7) (.cells #[.int .i64 Am, .int .i64 tn, .bool tg, .int .i64 1, .int .i64 0] 81)
    obtain ⟨g11, hg11⟩ : ∃ g11, W7.heap.size = g11 := ⟨_, rfl⟩
    rw [hg11] at B11 ⊢
    obtain ⟨W8, hW8⟩ : ∃ W8, W7.alloc (.cells #[.int .i64 Am, .int .i64 tn, .bool tg, .int .i64 1, .int .i64 0] 81) = W8 := ⟨_, rfl⟩
    rw [hW8] at B11 hba ⊢
    clear hW8 hg11
    replace HW := Lib.hid (HW.out.trans hba)
    replace HLA := Lib.hid (HLA.out.mono hba)
    replace B7 := Lib.hid (B7.out.bw hba)
    replace HRU := Lib.hid (HRU.out.mono hba)
    replace B10 := Lib.hid (B10.out.bw hba)
    clear hba f0 f1 f2 f3 f4 hmz HRF
    have c10 := B10.out.cell (j := 0) (v := .int .i64 0) rfl
    have c110 := B11.out.cell (j := 0) (v := .int .i64 Am) rfl
    have c111 := B11.out.cell (j := 1) (v := .int .i64 tn) rfl
    obtain ⟨db, dof, dc, he, hdb, _⟩ := HV.out.at (by have := HL.out; omega)
    injection he with he1 he2 he3
    subst he1
    clear he2 he3 hdb
    have hcq : ¬ c = q := by omega
    have hcq2 : q ≤ c := by omega
    have hqz : (q : Int) ≤ 206 := by omega
    cases hany : ((zs.drop q).any fun d => (1 : Int) == d) with
    | true =>
      rw [hany] at CT HGD
      have HG := Lib.hid (fun w' hw => HNO.out w' HGD.out hw)
      clear HNO hany
      go_wp2_with (go_at_call 65; (with_reducible refine Calls.mono (CT.out _ _ ?_) ?_); (focus exact rdI_drop (HV.out.mono HW.out) q (by omega)); rintro e1 w9 ⟨rfl, hb9⟩; replace HW := Lib.hid (HW.out.trans hb9); clear hb9)
      go_ret
      exact HG.out _ HW.out
    | false =>
      rw [hany] at CT HGD
      have HGT1 := Lib.hid (HFX.out HGD.out)
      have HGB1 := Lib.hid (HFB.out HGD.out)
      clear HNO hany HFX HFB HGD
      have c7 := B7.out.cell (j := 0) (v := .slice a4 (m + 1) c4) rfl
      go_upto_region 9 with (go_at_call 65; (with_reducible refine Calls.mono (CT.out _ _ ?_) ?_); (focus exact rdI_drop (HV.out.mono HW.out) q (by omega)); rintro e1 w9 ⟨rfl, hb9⟩; replace HW := Lib.hid (HW.out.trans hb9); replace HLA := Lib.hid (HLA.out.mono hb9); replace B7 := Lib.hid (B7.out.bw hb9); replace HRU := Lib.hid (HRU.out.mono hb9); clear hb9 c7 c10 c110 c111; have c7 := B7.out.cell (j := 0) (v := .slice a4 (m + 1) c4) rfl)
      clear B10 B11
      have BY := Lib.hid (BX.out.bw HW.out)
      have HGW := Lib.hid (show g < w.heap.size from HG0.out)
      have HVL := Lib.hid (show ((List.range L.length).map (rvS L zs)).length = m + 1 by rw [List.length_map, List.length_range]; exact HN.out.symm)
      go_wp2
      go_loopg [61] 8 (fun gg s61 wr => ∃ i : Nat, i ≤ m + 1 ∧ m + 1 - i ≤ gg ∧ s61 = .int .i64 i ∧ Hid (Kx g w9 wr) ∧ Hid (Blk wr g 25 (eV (setL y L (rvS L zs) i))))
      case atStart => exact ⟨0, by omega, by omega, rfl, Lib.hid (Kx.of_bw (Bw.refl w9) (Nat.le_of_lt BY.out.lt)), BY⟩
      case round =>
        obtain ⟨i, hi, hgg, rfl, HK, BZ⟩ := hrel
        by_cases hil : i < m + 1
        · have hiz : (i : Int) < ((m + 1 : Nat) : Int) := by omega
          have hi0 : (0 : Int) ≤ i := by omega
          have hiL : i < L.length := by have := HN.out; omega
          have hat : L[i]? = some (L.getD i (0, false, 0)) := by rw [List.getD_eq_getElem?_getD, List.getElem?_eq_getElem hiL]; rfl
          have hjb := HOK.out.2.2.2 _ (getD_mem L i (0, false, 0) hiL)
          have HSL := Lib.hid (show setL y L (rvS L zs) (i + 1) = updE (setL y L (rvS L zs) i) (L.getD i (0, false, 0)).2.2 (rvS L zs i) from rfl)
          obtain ⟨ps, q1, q2, _⟩ := HLA.out.kx HK.out BY.out HGW.out
          obtain ⟨p, hp, e1, e2, e3⟩ := q2.at i _ hat
          have e4 := e3
          obtain ⟨gid, cap, hpf, _⟩ := e3.ok
          rw [hpf] at e4
          have HFB := Lib.hid e4
          obtain ⟨bp, op, cp, hvp, hcp⟩ := q1.at (by have := q2.len; omega)
          injection hvp with j1 j2 j3
          subst j1
          obtain ⟨d0, d1, d2⟩ := hcp i p hp
          rw [e1] at d0
          rw [e2] at d1
          rw [hpf] at d2
          obtain ⟨vb, vo, vc, hvv, _, hvc⟩ := (HK.out.rdI HRU.out HFU.out HGW.out).at (by have := HVL.out; omega)
          injection hvv with l1 l2 l3
          subst l1
          have d5 := hvc i (by have := HVL.out; omega)
          rw [show ((List.range L.length).map (rvS L zs)).getD i 0 = rvS L zs i by rw [List.getD_eq_getElem?_getD, List.getElem?_map, List.getElem?_range hiL]; rfl] at d5
          have hilen : (i : Int) < (((List.range L.length).map (rvS L zs)).length : Nat) := by have := HVL.out; omega
          have c7b := (HK.out.blk B7.out (by have := HG7.out; omega)).cell (j := 0) (v := .slice (some ⟨bp, op, none⟩) (m + 1) c4) rfl
          clear hcp hvc j2 j3 l2 l3 hat hp e1 e2 e3 e4 q1 q2 hpf
          generalize (L.getD i (0, false, 0)) = t at *
          obtain ⟨un, ug, uj⟩ := t
          dsimp only at *
          generalize rvS L zs i = z at *
          generalize ((List.range L.length).map (rvS L zs)).length = vn at *
          have hbp := Bw.alloc (Bw.refl wr) (.cells #[.int .i64 un, .bool ug, .func (.func gid) #[] cap] 68)
          have PB := Lib.hid (Blk.new wr 68 #[.int .i64 un, .bool ug, .func (.func gid) #[] cap])
          obtain ⟨gp, hgp⟩ : ∃ gp, wr.heap.size = gp := ⟨_, rfl⟩
          rw [hgp] at PB
          go_upto_region 12 with fail
          obtain ⟨W2, hW2⟩ : ∃ W2, wr.alloc (.cells #[.int .i64 un, .bool ug, .func (.func gid) #[] cap] 68) = W2 := ⟨_, rfl⟩
          rw [hW2] at PB hbp ⊢
          clear hW2 hgp
          obtain ⟨gid2, cap2, hfe, eg, hcall⟩ := (HFB.out.mono hbp).ok
          injection hfe with k1 k2 k3
          injection k1 with k1
          subst k1 k3
          clear k2
          have HCL := Lib.hid hcall
          clear hcall
          have e2 := fun p : Ext W2 => Ext.cell' (PB.out.cell (j := 2) (v := .func (.func gid) #[] cap) rfl) p
          have e5 := fun p : Ext W2 => Ext.cell' (hbp.cell' d5) p
          replace BZ := Lib.hid (BZ.out.bw hbp)
          replace HK := Lib.hid (HK.out.trans (Kx.of_bw (g := g) hbp (by have := HGW.out; have := HW.out.size; have := HK.out.size; omega)))
          clear d0 d1 d2 d5 hbp
          (refine wp_region_ext_tail 9 (by kernel_rfl) (by kernel_rfl) ?_; simp only [List.take_succ_cons, List.take_zero, List.drop_succ_cons, List.drop_zero]; (repeat (go_big_quiet_step (((go_at_fn gid; exact Calls.ext_of (HCL.out _ (Ext.b _) _)))))); refine wpQuiet_nil ?_; rintro wq ⟨⟨_, hbq⟩, rfl⟩; obtain ⟨hccq, hffq⟩ := Bw.cells hbq; have hszq := Bw.size hbq)
          replace BZ := Lib.hid (BZ.out.bw hbq)
          replace HK := Lib.hid (HK.out.trans (Kx.of_bw (g := g) hbq (by have := HGW.out; have := HW.out.size; have := HK.out.size; omega)))
          have z1 := BZ.out.cell (eV_at _ uj hjb)
          have z2 := BZ.out.frozen uj
          clear e2 e5 hccq hffq hszq hbq
          go_wp2
          go_roundg (m + 1 - (i + 1))
          case measure => omega
          case rel => exact ⟨i + 1, by omega, by omega, by go_num, Lib.hid (HK.out.trans (Kx.set BZ.out.lt _)), Lib.hid (by rw [HSL.out, ← eV_set _ _ _ hjb]; exact BZ.out.set uj _)⟩
        · obtain rfl : i = m + 1 := by omega
          have hiz : ¬ ((m + 1 : Nat) : Int) < ((m + 1 : Nat) : Int) := by omega
          replace BZ := Lib.hid (show Blk wr g 25 (eV (fillX y ((k : Int) + 1) zs)) by rw [HGT1.out]; exact BZ.out)
          have HFN := Lib.hid (And.intro ((Kx.of_bw (g := g) HW.out (Nat.le_of_lt HGW.out)).trans HK.out) BZ.out)
          have z0 := BZ.out.cell (eV_at _ 0 (by omega))
          have z2 := BZ.out.cell (eV_at _ 2 (by omega))
          have HGB := HGB1.out
          have HFP := Lib.hid (show ∀ b, fillB y ((k : Int) + 1) zs = b → FillP g y ((k : Int) + 1) zs w (.returned (.bool b)) wr from fun b hb => ⟨by rw [hb], HFN.out.1, HFN.out.2⟩)
          rw [HGB] at HFP
          clear HGB
          generalize fillX y ((k : Int) + 1) zs 0 = y0 at *
          generalize fillX y ((k : Int) + 1) zs 2 = y2 at *
          by_cases w1' : 0 < y0
          · by_cases w2' : y2 < 604800
            · have HG := Lib.hid (HFP.out true (decide_eq_true ⟨w1', w2'⟩))
              clear HFP
              go_wp2
              go_ret
              exact HG.out
            · have HG := Lib.hid (HFP.out false (decide_eq_false (fun h => w2' h.2)))
              clear HFP
              go_wp2
              go_ret
              exact HG.out
          · have HG := Lib.hid (HFP.out false (decide_eq_false (fun h => w1' h.1)))
            clear HFP
            go_wp2
            go_ret
            exact HG.out
end Go.Proofs.Sky
