/-
  lemmas for the theorems of this claim. No conditions beyond those written in the statements.
-/
import Derived.Test.YtcbkjfakedngbaaS25
import Derived.Deep.Cut
set_option linter.unusedVariables false
set_option linter.unusedSimpArgs false
set_option linter.unnecessarySimpa false
namespace Go.Proofs.Sky
open Go Go.RowKit Go.Shelf
set_option maxHeartbeats 2000000
theorem infoBool : (Try.prog.info? 4).map (fun i => (i.zero, i.size, i.bytes)) = some (some (.bool false), 1, 1) := by kernel_rfl
theorem makeBool (n : Nat) (hn : n ≤ 1048576) (w : World) : (Instr.makeSlice 52 (.int .i64 n) (.int .i64 n)).run Try.prog w = .ok (.slice (some ⟨w.heap.size, 0, none⟩) n n) (w.alloc (.cells (madeCells #[.bool false] (n * 1)) 4)) := by
  obtain ⟨i, hi, hzz⟩ := Option.map_eq_some_iff.1 infoBool
  simp only [Prod.mk.injEq] at hzz
  obtain ⟨hz, hs, hb⟩ := hzz
  have h := run_make (P := Try.prog) w 52 4 i _ Try.underlying52 hi hz .i64 .i64 n n (by omega) (by omega) (by rw [hb]; omega) (by omega)
  simpa [hs, Value.cells] using h
theorem made1' (z : Value) (n : Nat) : (madeCells #[z] (n * 1)).toList = List.replicate n z := by
  apply List.ext_getElem?
  intro j
  by_cases hj : j < n
  · simp [madeCells, hj, Nat.mod_one]
  · simp [madeCells, hj]
/-- a block's cells hold bools, and may be written -/
structure OwB (w : World) (bl n : Nat) (T : Int → Bool) : Prop where
  cell : ∀ i, i < n → w.cell? ⟨bl, i, none⟩ = some (.bool (T (i : Int)))
  free : ∀ i, i < n → w.frozen? ⟨bl, i, none⟩ = false
theorem OwB.bw {w w' : World} {bl n : Nat} {T : Int → Bool} (h : OwB w bl n T) (hb : Bw w w') : OwB w' bl n T := ⟨fun i hi => hb.cell' (h.cell i hi), fun i hi => hb.frozen' (h.cell i hi) (h.free i hi)⟩
theorem OwB.set {w : World} {bl n : Nat} {T : Int → Bool} (h : OwB w bl n T) (i : Nat) (b : Bool) (hi : i < n) : OwB (w.setCell ⟨bl, i, none⟩ (.bool b)) bl n (fun x => if x = (i : Int) then b else T x) := by
  refine ⟨fun j hj => ?_, fun j hj => by rw [frozen_set]; exact h.free j hj⟩
  by_cases e : i = j
  · subst e
    rw [cell_set_same _ _ _ _ (h.cell i hi)]; simp
  · rw [cell_set_off _ _ _ _ _ e, h.cell j hj]
    rw [if_neg (by omega)]
theorem OwB.made (w : World) (n : Nat) (hn : n ≤ 1048576) : OwB (w.alloc (.cells (madeCells #[.bool false] (n * 1)) 4)) w.heap.size n (fun _ => false) := by
  have h := World.ownsRow_lit (base := 0) (e := 4) (size := 1) w (madeCells #[Value.bool false] (n * 1)) n (Nat.zero_le _) (by unfold maxLen; omega) (by simp [madeCells])
  rw [made1'] at h
  refine ⟨fun i hi => ?_, fun i hi => h.frozenAt i⟩
  rw [h.cellAt i (by omega)]
  simp [hi]
structure RayC (w wr : World) : Prop where
  bw : Bw w wr
  sz : w.heap.size + 2 ≤ wr.heap.size
  r0 : wr.cell? ⟨w.heap.size, 0, none⟩ = some (.int .i64 0)
  r1 : wr.cell? ⟨w.heap.size, 1, none⟩ = some (.int .i64 0)
  f0 : wr.frozen? ⟨w.heap.size, 0, none⟩ = false
  f1 : wr.frozen? ⟨w.heap.size, 1, none⟩ = false
theorem RayC.mono {w a b : World} (h : RayC w a) (hb : Bw a b) : RayC w b :=
  ⟨h.bw.trans hb, Nat.le_trans h.sz hb.size, hb.cell' h.r0, hb.cell' h.r1, hb.frozen' h.r0 h.f0, hb.frozen' h.r1 h.f1⟩
theorem RayC.set {w a : World} (h : RayC w a) {b o : Nat} (u : Value) (hb : w.heap.size + 1 ≤ b) : RayC w (a.setCell ⟨b, o, none⟩ u) :=
  ⟨h.bw.setCell (by simp; omega) _, by simpa using h.sz, by rw [cell_set_ne _ _ _ _ _ _ (by omega)]; exact h.r0, by rw [cell_set_ne _ _ _ _ _ _ (by omega)]; exact h.r1, by rw [frozen_set]; exact h.f0, by rw [frozen_set]; exact h.f1⟩
theorem RayC.fault {w a : World} (h : RayC w a) (x y : Value) : let b := (a.setCell ⟨w.heap.size, 0, none⟩ x).setCell ⟨w.heap.size, 1, none⟩ y
    Bw w b ∧ b.cell? ⟨w.heap.size, 0, none⟩ = some x ∧ b.cell? ⟨w.heap.size, 1, none⟩ = some y :=
  ⟨(h.bw.setCell (by simp) _).setCell (by simp) _, by rw [cell_set_off _ _ _ _ _ (by omega)]; exact cell_set_same _ _ _ _ h.r0, cell_set_same _ _ _ _ (by rw [cell_set_off _ _ _ _ _ (by omega)]; exact h.r1)⟩
def RayI (fs : List Fd) (bt : Int) (w : World) (k : Nat) (wr : World) : Prop :=
  k ≤ fs.length ∧ RayC w wr ∧ OwB wr (w.heap.size + 1) 4000 (tk (fs.take k)) ∧ lay bt [] fs = lay bt (fs.take k) (fs.drop k)
def RayR (fs : List Fd) (bt : Int) (ad : Option Addr) (cap : Nat) (w : World) (a : Act) (wr : World) : Prop :=
  ∃ (x2 x3 x7 x8 x9 x10 x11 x12 x13 x14 x15 x16 x17 x18 x19 x20 x21 x22 x23 x24 x25 x26 x27 x28 x29 x30 x31 x32 x33 x34 x35 x36 x37 x38 x39 x40 x41 x42 x43 x44 x45 x46 x47 x48 x49 x50 x51 x52 x53 x54 x55 x56 x57 x58 x59 x60 x61 x62 x63 x64 x65 x66 x67 x68 x69 x70 x71 x72 x73 : Value) (k : Nat), a = { tmps := #[.slice ad fs.length cap, .int .i64 bt, x2, x3, .pointer (some ⟨w.heap.size, 0, none⟩), .slice (some ⟨w.heap.size + 1, 0, none⟩) 4000 4000, .int .i64 (k : Int), x7, x8, x9, x10, x11, x12, x13, x14, x15, x16, x17, x18, x19, x20, x21, x22, x23, x24, x25, x26, x27, x28, x29, x30, x31, x32, x33, x34, x35, x36, x37, x38, x39, x40, x41, x42, x43, x44, x45, x46, x47, x48, x49, x50, x51, x52, x53, x54, x55, x56, x57, x58, x59, x60, x61, x62, x63, x64, x65, x66, x67, x68, x69, x70, x71, x72, x73], defers := [] } ∧ RayI fs bt w k wr
def rayMu (s n : Nat) (a : Act) (_ : World) : Nat := n - (intOf (a.tmps.getD s undef)).toNat
def RayR1 (fs : List Fd) (bt : Int) (ad : Option Addr) (cap : Nat) (w W1 : World) (Bf k A N : Nat) (a : Act) (wr : World) : Prop :=
  ∃ (x2 x3 x8 x10 x11 x12 x13 x14 x15 x16 x17 x18 x19 x20 x21 x22 x23 x24 x25 x26 x27 x28 x29 x30 x31 x32 x33 x34 x35 x36 x37 x38 x39 x40 x41 x42 x43 x44 x45 x46 x47 x48 x49 x50 x51 x52 x53 x54 x55 x56 x57 x58 x59 x60 x61 x62 x63 x64 x65 x66 x67 x68 x69 x70 x71 x72 x73 : Value) (y : Nat), a = { tmps := #[.slice ad fs.length cap, .int .i64 bt, x2, x3, .pointer (some ⟨w.heap.size, 0, none⟩), .slice (some ⟨w.heap.size + 1, 0, none⟩) 4000 4000, .int .i64 (k : Int), .pointer (some ⟨Bf, 0, none⟩), x8, .int .i64 ((A + y : Nat) : Int), x10, x11, x12, x13, x14, x15, x16, x17, x18, x19, x20, x21, x22, x23, x24, x25, x26, x27, x28, x29, x30, x31, x32, x33, x34, x35, x36, x37, x38, x39, x40, x41, x42, x43, x44, x45, x46, x47, x48, x49, x50, x51, x52, x53, x54, x55, x56, x57, x58, x59, x60, x61, x62, x63, x64, x65, x66, x67, x68, x69, x70, x71, x72, x73], defers := [] } ∧ y ≤ N ∧ wr = W1 ∧ Hid (∀ z, z < y → tk (fs.take k) ((A : Int) + (z : Int)) = false)
def RayR2 (fs : List Fd) (bt : Int) (ad : Option Addr) (cap : Nat) (w : World) (Bf k A N : Nat) (a : Act) (wr : World) : Prop :=
  ∃ (x2 x3 x8 x9 x11 x12 x13 x14 x15 x16 x17 x18 x19 x20 x21 x22 x23 x24 x25 x26 x27 x28 x29 x30 x31 x32 x33 x34 x35 x36 x37 x38 x39 x40 x41 x42 x43 x44 x45 x46 x47 x48 x49 x50 x51 x52 x53 x54 x55 x56 x57 x58 x59 x60 x61 x62 x63 x64 x65 x66 x67 x68 x69 x70 x71 x72 x73 : Value) (y : Nat), a = { tmps := #[.slice ad fs.length cap, .int .i64 bt, x2, x3, .pointer (some ⟨w.heap.size, 0, none⟩), .slice (some ⟨w.heap.size + 1, 0, none⟩) 4000 4000, .int .i64 (k : Int), .pointer (some ⟨Bf, 0, none⟩), x8, x9, .int .i64 ((A + y : Nat) : Int), x11, x12, x13, x14, x15, x16, x17, x18, x19, x20, x21, x22, x23, x24, x25, x26, x27, x28, x29, x30, x31, x32, x33, x34, x35, x36, x37, x38, x39, x40, x41, x42, x43, x44, x45, x46, x47, x48, x49, x50, x51, x52, x53, x54, x55, x56, x57, x58, x59, x60, x61, x62, x63, x64, x65, x66, x67, x68, x69, x70, x71, x72, x73], defers := [] } ∧ y ≤ N ∧ RayC w wr ∧ (wr.cell? ⟨Bf, 0, none⟩ = some (.int .i64 (A : Int)) ∧ wr.cell? ⟨Bf, 1, none⟩ = some (.int .i64 (N : Int))) ∧ OwB wr (w.heap.size + 1) 4000 (fun x => tk (fs.take k) x || decide ((A : Int) ≤ x ∧ x < A + y))
theorem RLayout_any (fs : List Fd) (v : Value) (bt : Int) (w : World) (hv : RdF w v fs) : Calls Try.prog 24 #[v, .int .i64 bt] w fun e w' => LayP fs bt e ∧ Bw w w' := by
  obtain ⟨hlen, ad, cap, rfl, h4⟩ := hv
  by_cases hl : 100 < fs.length
  · have HE := Lib.hid (show layout fs bt = (4, 100) by unfold layout; rw [if_pos hl])
    have hli : (100 : Int) < fs.length := by omega
    clear h4
    go_enter Try.func24, Try.ntmps24
    go_wp2
    exact bodyPost_ret (v := .agg #[.int .i64 4, .int .i64 100]) (by simp [results, Try.results24, go_sem]) rfl ⟨layP_of HE.out, (by repeat (first | exact Bw.refl _ | assumption | refine Bw.alloc ?_ _ | refine Bw.drew ?_ | refine Bw.trans ?_ (by assumption) | refine Bw.setCell ?_ (by simp; try omega) _))⟩
  · have HE := Lib.hid (show layout fs bt = lay bt [] fs by unfold layout; rw [if_neg hl])
    have hli : ¬ (100 : Int) < fs.length := by omega
    have H4 := Lib.hid h4; clear h4
    have hmk := fun w => makeBool 4000 (by decide) w
    simp only [Int.cast_ofNat_Int] at hmk
    go_enter Try.func24, Try.ntmps24
    go_wp2
    refine wp_loop (RayR fs bt ad cap w) (rayMu 6 fs.length) ?_ ?_
    · have hM := OwB.made (w.alloc (Obj.cells #[.int .i64 0, .int .i64 0] 43)) 4000 (by decide)
      rw [World.size_alloc] at hM
      refine ⟨_, _, _, _, _, _, _, _, _, _, _, _, _, _, _, _, _, _, _, _, _, _, _, _, _, _, _, _, _, _, _, _, _, _, _, _, _, _, _, _, _, _, _, _, _, _, _, _, _, _, _, _, _, _, _, _, _, _, _, _, _, _, _, _, _, _, _, _, _, 0, rfl, Nat.zero_le _, ⟨(by repeat (first | exact Bw.refl _ | assumption | refine Bw.alloc ?_ _ | refine Bw.drew ?_ | refine Bw.trans ?_ (by assumption) | refine Bw.setCell ?_ (by simp; try omega) _)), by simp, by simp [go_sem], by simp [go_sem], by simp [go_sem], by simp [go_sem]⟩, ?_, by simp⟩
      refine (show (fun _ => false) = tk (fs.take 0) from ?_) ▸ hM
      funext x; simp [tk]
    · rintro a' wr ⟨x2, x3, x7, x8, x9, x10, x11, x12, x13, x14, x15, x16, x17, x18, x19, x20, x21, x22, x23, x24, x25, x26, x27, x28, x29, x30, x31, x32, x33, x34, x35, x36, x37, x38, x39, x40, x41, x42, x43, x44, x45, x46, x47, x48, x49, x50, x51, x52, x53, x54, x55, x56, x57, x58, x59, x60, x61, x62, x63, x64, x65, x66, x67, x68, x69, x70, x71, x72, x73, k, rfl, hk, hC, hO, hlay⟩
      clear hmk
      by_cases hlt : k < fs.length
      · obtain ⟨b, off, rfl, hb, hz⟩ := H4.out.resolve_left (by intro e; subst e; simp at hlt)
        have hfe : fs[k]? = some fs[k] := List.getElem?_eq_getElem hlt
        generalize fs[k] = f at hfe
        obtain ⟨fa, fn, fg, fu, fc⟩ := f
        obtain ⟨d0, d1, d2, d3, d4⟩ := hz k _ hfe
        replace d0 := hC.bw.cell' d0
        replace d1 := hC.bw.cell' d1
        replace d2 := hC.bw.cell' d2
        replace d3 := hC.bw.cell' d3
        replace d4 := hC.bw.cell' d4
        have HT := Lib.hid (show fs.take (k + 1) = fs.take k ++ [⟨fa, fn, fg, fu, fc⟩] by obtain ⟨hq, e⟩ := List.getElem?_eq_some_iff.1 hfe; rw [List.take_succ_eq_append_getElem hq, e])
        have HLS := Lib.hid (hlay.trans (lay_step bt fs k _ hfe))
        have HO := Lib.hid hO; clear hO
        have hsz := hC.sz
        clear hz hlay hfe H4
        have hki : (k : Int) < fs.length := by omega
        have HCK := Lib.hid (fun w => RCheck_any fa fn fg fu fc w)
        by_cases hf : fk fa fn fu fc
        · rw [errF_ok hf] at HCK
          by_cases hsh : bt < fa + fn
          · have HL := Lib.hid (show layout fs bt = (16, (k : Int)) by rw [HE.out, HLS.out]; unfold layE; rw [errF_ok hf, if_pos rfl, if_pos hsh]; simp)
            clear HLS
            obtain ⟨h1, h2, h3, h4, h5, h6, h7, h8, h9⟩ := hf
            go_wp2_with (go_at_call 17; refine (HCK.out _).mono ?_; rintro e w' ⟨rfl, hb⟩; have hbw : Bw wr w' := (by repeat (first | exact Bw.refl _ | assumption | refine Bw.alloc ?_ _ | refine Bw.drew ?_ | refine Bw.trans ?_ (by assumption) | refine Bw.setCell ?_ (by simp; try omega) _)); have hC2 := hC.mono hbw; have r0 := hC2.r0; have r1 := hC2.r1; have f0 := hC2.f0; have f1 := hC2.f1; have g0 : w'.cell? ⟨wr.heap.size, 0, none⟩ = some (.int .i64 fa) := hb.cell' (by simp [go_sem]); have g1 : w'.cell? ⟨wr.heap.size, 1, none⟩ = some (.int .i64 fn) := hb.cell' (by simp [go_sem]); have hwz : wr.heap.size < w'.heap.size := lt_of_cell g0; clear hb)
            have hF := hC2.fault (.int .i64 16) (.int .i64 k)
            exact bodyPost_ret (v := .agg #[.int .i64 16, .int .i64 k]) (by simp [results, Try.results24, go_sem, hF.2.1, hF.2.2]) rfl ⟨layP_of HL.out, hF.1⟩
          · obtain ⟨A, rfl⟩ := Int.eq_ofNat_of_zero_le hf.1
            obtain ⟨N, rfl⟩ := Int.eq_ofNat_of_zero_le (show 0 ≤ fn by have := hf.2.2.1; omega)
            have HEF := Lib.hid (errF_ok hf)
            obtain ⟨h1, h2, h3, h4, h5, h6, h7, h8, h9⟩ := hf
            go_wp2_with (go_at_call 17; refine (HCK.out _).mono ?_; rintro e w' ⟨rfl, hb⟩; have hbw : Bw wr w' := (by repeat (first | exact Bw.refl _ | assumption | refine Bw.alloc ?_ _ | refine Bw.drew ?_ | refine Bw.trans ?_ (by assumption) | refine Bw.setCell ?_ (by simp; try omega) _)); have hC2 := hC.mono hbw; have r0 := hC2.r0; have r1 := hC2.r1; have f0 := hC2.f0; have f1 := hC2.f1; have g0 : w'.cell? ⟨wr.heap.size, 0, none⟩ = some (.int .i64 (A : Int)) := hb.cell' (by simp [go_sem]); have g1 : w'.cell? ⟨wr.heap.size, 1, none⟩ = some (.int .i64 (N : Int)) := hb.cell' (by simp [go_sem]); have hwz : wr.heap.size < w'.heap.size := lt_of_cell g0; clear hb)
            refine wp_loop (RayR1 fs bt (some ⟨b, off, none⟩) cap w w' wr.heap.size k A N) (rayMu 9 (A + N)) ?_ ?_
            · exact ⟨_, _, _, _, _, _, _, _, _, _, _, _, _, _, _, _, _, _, _, _, _, _, _, _, _, _, _, _, _, _, _, _, _, _, _, _, _, _, _, _, _, _, _, _, _, _, _, _, _, _, _, _, _, _, _, _, _, _, _, _, _, _, _, _, _, _, _, 0, rfl, Nat.zero_le _, rfl, fun z hz => absurd hz (Nat.not_lt_zero _)⟩
            · rintro a' wr1 ⟨x2, x3, x8, x10, x11, x12, x13, x14, x15, x16, x17, x18, x19, x20, x21, x22, x23, x24, x25, x26, x27, x28, x29, x30, x31, x32, x33, x34, x35, x36, x37, x38, x39, x40, x41, x42, x43, x44, x45, x46, x47, x48, x49, x50, x51, x52, x53, x54, x55, x56, x57, x58, x59, x60, x61, x62, x63, x64, x65, x66, x67, x68, x69, x70, x71, x72, x73, y, rfl, hy, rfl, hno⟩
              by_cases hyl : y < N
              · have hO := HO.out.bw hbw
                have hcb := hO.cell (A + y) (by omega)
                have hfb := hO.free (A + y) (by omega)
                have hyi : ((A + y : Nat) : Int) < A + N := by omega
                have hyt : (((A + y : Nat) : Int)).toNat = A + y := by omega
                have hyk : ((A + y : Nat) : Int) = (A : Int) + y := by omega
                have HYK := Lib.hid hyk; clear hyk
                have hy4 : A + y < 4000 := by omega
                have HOO := Lib.hid hO; clear hO
                rw [HYK.out] at hcb
                have hyi' : (A : Int) + y < A + N := by omega
                have hyt' : ((A : Int) + y).toNat = A + y := by omega
                cases htk : tk (fs.take k) ((A : Int) + (y : Int)) with
                | true =>
                  rw [htk] at hcb
                  have hL : layE (fs.take k) ⟨A, N, fg, fu, fc⟩ bt = 8 := by
                    unfold layE
                    rw [HEF.out, if_pos rfl, if_neg (show ¬ bt < (A : Int) + N by omega), dbl_yes _ ⟨A, N, fg, fu, fc⟩ y (by simpa using hyl) htk]; rfl
                  have HL := Lib.hid (show layout fs bt = (8, (k : Int)) by rw [HE.out, HLS.out, if_neg (by rw [hL]; decide), hL])
                  clear hL htk
                  go_wp2
                  have hF := hC2.fault (.int .i64 8) (.int .i64 k)
                  exact bodyPost_ret (v := .agg #[.int .i64 8, .int .i64 k]) (by simp [results, Try.results24, go_sem, hF.2.1, hF.2.2]) rfl ⟨layP_of HL.out, hF.1⟩
                | false =>
                  rw [htk] at hcb
                  have HTK := Lib.hid htk; clear htk
                  go_wp2
                  refine ⟨⟨_, _, _, _, _, _, _, _, _, _, _, _, _, _, _, _, _, _, _, _, _, _, _, _, _, _, _, _, _, _, _, _, _, _, _, _, _, _, _, _, _, _, _, _, _, _, _, _, _, _, _, _, _, _, _, _, _, _, _, _, _, _, _, _, _, _, _, y + 1, by rw [show ((A + (y + 1) : Nat) : Int) = (A : Int) + y + 1 by omega], by omega, rfl, fun z hz => ?_⟩, by simp [rayMu, intOf]; omega⟩
                  rcases Nat.lt_succ_iff_lt_or_eq.1 hz with h' | rfl
                  · exact hno.out z h'
                  · exact HTK.out
              · obtain rfl : y = N := by omega
                have hL : layE (fs.take k) ⟨A, y, fg, fu, fc⟩ bt = 0 := by
                  unfold layE
                  rw [HEF.out, if_pos rfl, if_neg (show ¬ bt < (A : Int) + y by omega), dbl_no _ _ (fun z hz => hno.out z (by simpa using hz))]; rfl
                have HLT := Lib.hid (show lay bt [] fs = lay bt (fs.take (k + 1)) (fs.drop (k + 1)) by rw [HLS.out, if_pos hL])
                clear hL hno HLS
                have HO1 := Lib.hid (HO.out.bw hbw)
                have HC2 := Lib.hid hC2
                have hyk : ((A + y : Nat) : Int) = (A : Int) + y := by omega
                have hge : ¬ ((A + y : Nat) : Int) < (A : Int) + y := by omega
                clear hyk
                go_wp2
                refine wp_loop (RayR2 fs bt (some ⟨b, off, none⟩) cap w wr.heap.size k A y) (rayMu 10 (A + y)) ?_ ?_
                · refine ⟨_, _, _, _, _, _, _, _, _, _, _, _, _, _, _, _, _, _, _, _, _, _, _, _, _, _, _, _, _, _, _, _, _, _, _, _, _, _, _, _, _, _, _, _, _, _, _, _, _, _, _, _, _, _, _, _, _, _, _, _, _, _, _, _, _, _, _, 0, rfl, Nat.zero_le _, HC2.out, ⟨g0, g1⟩, ?_⟩
                  refine (show tk (fs.take k) = (fun x => tk (fs.take k) x || decide ((A : Int) ≤ x ∧ x < A + ((0 : Nat) : Int))) from ?_) ▸ HO1.out
                  funext x
                  have : decide ((A : Int) ≤ x ∧ x < A + ((0 : Nat) : Int)) = false := by simp <;> omega
                  rw [this, Bool.or_false]
                · clear g0 g1 r0 r1 f0 f1 HO1 HC2 hC2 hwz
                  rintro a' wr2 ⟨x2, x3, x8, x9, x11, x12, x13, x14, x15, x16, x17, x18, x19, x20, x21, x22, x23, x24, x25, x26, x27, x28, x29, x30, x31, x32, x33, x34, x35, x36, x37, x38, x39, x40, x41, x42, x43, x44, x45, x46, x47, x48, x49, x50, x51, x52, x53, x54, x55, x56, x57, x58, x59, x60, x61, x62, x63, x64, x65, x66, x67, x68, x69, x70, x71, x72, x73, z, rfl, hz, hC3, ⟨g0, g1⟩, hO3⟩
                  by_cases hzl : z < y
                  · have hcb := hO3.cell (A + z) (by omega)
                    have hfb := hO3.free (A + z) (by omega)
                    have hyi' : (A : Int) + z < A + y := by omega
                    have hyt' : ((A : Int) + z).toNat = A + z := by omega
                    have hz4 : A + z < 4000 := by omega
                    have hz4' : (A : Int) + z < 4000 := by omega
                    have HO3 := Lib.hid hO3; clear hO3
                    go_wp2
                    refine ⟨⟨_, _, _, _, _, _, _, _, _, _, _, _, _, _, _, _, _, _, _, _, _, _, _, _, _, _, _, _, _, _, _, _, _, _, _, _, _, _, _, _, _, _, _, _, _, _, _, _, _, _, _, _, _, _, _, _, _, _, _, _, _, _, _, _, _, _, _, z + 1, by rw [show ((A + (z + 1) : Nat) : Int) = (A : Int) + z + 1 by omega], by omega, hC3.set _ (by omega), ⟨by rw [cell_set_ne _ _ _ _ _ _ (by omega)]; exact g0, by rw [cell_set_ne _ _ _ _ _ _ (by omega)]; exact g1⟩, ?_⟩, by simp [rayMu, intOf]; omega⟩
                    refine (show (fun x => if x = ((A + z : Nat) : Int) then true else (tk (fs.take k) x || decide ((A : Int) ≤ x ∧ x < A + (z : Int)))) = (fun x => tk (fs.take k) x || decide ((A : Int) ≤ x ∧ x < A + ((z + 1 : Nat) : Int))) from ?_) ▸ HO3.out.set (A + z) true hz4
                    funext x
                    by_cases e : x = ((A + z : Nat) : Int)
                    · rw [if_pos e]
                      have : decide ((A : Int) ≤ x ∧ x < A + ((z + 1 : Nat) : Int)) = true := by simp; omega
                      rw [this, Bool.or_true]
                    · rw [if_neg e]
                      congr 1
                      simp only [decide_eq_decide]
                      omega
                  · obtain rfl : z = y := by omega
                    have hge : ¬ ((A + z : Nat) : Int) < (A : Int) + z := by omega
                    have HO3 := Lib.hid hO3; clear hO3
                    go_wp2
                    refine ⟨⟨_, _, _, _, _, _, _, _, _, _, _, _, _, _, _, _, _, _, _, _, _, _, _, _, _, _, _, _, _, _, _, _, _, _, _, _, _, _, _, _, _, _, _, _, _, _, _, _, _, _, _, _, _, _, _, _, _, _, _, _, _, _, _, _, _, _, _, _, _, k + 1, rfl, by omega, hC3, ?_, HLT.out⟩, by simp [rayMu, intOf]; omega⟩
                    rw [HT.out]
                    refine (show (fun x => tk (fs.take k) x || decide ((A : Int) ≤ x ∧ x < A + (z : Int))) = tk (fs.take k ++ [⟨A, z, fg, fu, fc⟩]) from ?_) ▸ HO3.out
                    funext x
                    rw [tk_snoc]
        · rw [errF_no hf] at HCK
          have HL := Lib.hid (show layout fs bt = (2, (k : Int)) by rw [HE.out, HLS.out]; unfold layE; rw [errF_no hf]; simp)
          clear hf HLS
          go_wp2_with (go_at_call 17; refine (HCK.out _).mono ?_; rintro e w' ⟨rfl, hb⟩; have hbw : Bw wr w' := (by repeat (first | exact Bw.refl _ | assumption | refine Bw.alloc ?_ _ | refine Bw.drew ?_ | refine Bw.trans ?_ (by assumption) | refine Bw.setCell ?_ (by simp; try omega) _)); have hC2 := hC.mono hbw; have r0 := hC2.r0; have r1 := hC2.r1; have f0 := hC2.f0; have f1 := hC2.f1; have g0 : w'.cell? ⟨wr.heap.size, 0, none⟩ = some (.int .i64 fa) := hb.cell' (by simp [go_sem]); have g1 : w'.cell? ⟨wr.heap.size, 1, none⟩ = some (.int .i64 fn) := hb.cell' (by simp [go_sem]); have hwz : wr.heap.size < w'.heap.size := lt_of_cell g0; clear hb)
          have hF := hC2.fault (.int .i64 2) (.int .i64 k)
          exact bodyPost_ret (v := .agg #[.int .i64 2, .int .i64 k]) (by simp [results, Try.results24, go_sem, hF.2.1, hF.2.2]) rfl ⟨layP_of HL.out, hF.1⟩
      · obtain rfl : k = fs.length := by omega
        have HL := Lib.hid (show layout fs bt = (0, 0) by rw [HE.out, hlay]; simp [lay])
        clear hlay
        have hsz := hC.sz
        have r0 := hC.r0
        have r1 := hC.r1
        have f0 := hC.f0
        have f1 := hC.f1
        have hw0 : w.heap.size < wr.heap.size := by omega
        go_wp2
        have hF := hC.fault (.int .i64 0) (.int .i64 0)
        exact bodyPost_ret (v := .agg #[.int .i64 0, .int .i64 0]) (by simp [results, Try.results24, go_sem, hF.2.1, hF.2.2]) rfl ⟨layP_of HL.out, hF.1⟩
end Go.Proofs.Sky
