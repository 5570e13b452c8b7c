/-
  lemmas for the theorems of this claim. No conditions beyond those written in the statements.
-/
import Derived.Test.YtcmjcobhobfloaaDoorWH27
set_option linter.unusedVariables false
set_option linter.unusedSimpArgs false
set_option linter.unnecessarySimpa false
namespace Go.Proofs.Sky
open Go Go.RowKit Go.Shelf
attribute [local go_sem] Oper.semAt_some
set_option maxHeartbeats 4000000
set_option maxRecDepth 8000
/-! chapter 27: where a page is -/
def cmpZ (a b : Int) : Int := if a < b then -1 else if b < a then 1 else 0
theorem cmpZ_bd (a b : Int) : cmpZ a b = -1 ∨ cmpZ a b = 0 ∨ cmpZ a b = 1 := by
  unfold cmpZ
  split
  · simp
  · split <;> simp
theorem cmpInt_any (a b : Int) (w : World) : Calls Tryd.prog 71 #[.int .i64 a, .int .i64 b] w fun e w' => e = .returned (.int .i64 (cmpZ a b)) ∧ w' = w := by
  by_cases h1 : a < b
  · have HG := Lib.hid (show cmpZ a b = -1 from if_pos h1)
    go_enter Tryd.func71, Tryd.ntmps71
    go_wp2
    go_ret
    exact ⟨ret_int HG.out.symm, rfl⟩
  · by_cases h2 : b < a
    · have HG := Lib.hid (show cmpZ a b = 1 by unfold cmpZ; rw [if_neg h1, if_pos h2])
      go_enter Tryd.func71, Tryd.ntmps71
      go_wp2
      go_ret
      exact ⟨ret_int HG.out.symm, rfl⟩
    · have HG := Lib.hid (show cmpZ a b = 0 by unfold cmpZ; rw [if_neg h1, if_neg h2])
      go_enter Tryd.func71, Tryd.ntmps71
      go_wp2
      go_ret
      exact ⟨ret_int HG.out.symm, rfl⟩
theorem numCmp_any (n : Int) (x : Nat → Int) (w : World) : Calls Tryd.prog 57 #[.int .i64 n, .agg (pgV x)] w fun e w' => e = .returned (.int .i64 (cmpZ n (x 0))) ∧ Bw w w' := by
  have KX := (Blk.new w 27 (pgV x)).cell (pgV_at x 0 (by omega))
  have HW := Lib.hid (Bw.alloc (Bw.refl w) (.cells (pgV x) 27))
  have CP := Lib.hid (fun a b W => cmpInt_any a b W)
  generalize x 0 = p at *
  go_enter Tryd.func57, Tryd.ntmps57
  go_wp2_with (first | (go_at_call 71; (with_reducible refine Calls.mono (CP.out _ _ _) ?_); rintro e1 w1 ⟨rfl, rfl⟩))
  go_ret
  exact ⟨rfl, HW.out⟩
def NCf (w : World) (B : Nat) : Prop := B < w.heap.size ∧ w.cell? ⟨B, 0, none⟩ = some (.func (.func 57) #[] #[])
theorem find1_any (n : Int) (x : Nat → Int) (B : Nat) (w : World) (hB : NCf w B) : Calls Tryd.prog 59 #[.agg (pgV x), .int .i64 n, .pointer (some ⟨B, 0, none⟩)] w fun e w' => e = .returned (.int .i64 (- cmpZ n (x 0))) ∧ Bw w w' := by
  have HW := Lib.hid (Bw.alloc (Bw.refl w) (.cells (pgV x) 27))
  have NC := Lib.hid (fun W => numCmp_any n x W)
  have KX := Lib.hid (Blk.new w 27 (pgV x))
  have HSZ : Hid ((Tryd.prog.info? 27).map (·.size) = some (pgV x).size) := Lib.hid (by kernel_rfl)
  have hc := hB.2
  have hb := hB.1
  have hz := cmpZ_bd n (x 0)
  generalize cmpZ n (x 0) = q at *
  have ec : (w.alloc (.cells (pgV x) 27)).cell? ⟨B, 0, none⟩ = some (.func (.func 57) #[] #[]) := (Bw.alloc (Bw.refl w) _).cell' hc
  obtain ⟨A, hA⟩ : ∃ A, A = pgV x := ⟨_, rfl⟩
  rw [← hA] at HW NC KX HSZ ec ⊢
  clear hA
  go_enter Tryd.func59, Tryd.ntmps59
  go_upto_region 1 with fail
  obtain ⟨W0, hW0⟩ : ∃ W0, w.alloc (.cells A 27) = W0 := ⟨_, rfl⟩
  rw [hW0] at HW KX ec ⊢
  clear hW0
  go_wp2_with (first | ((with_reducible refine at_load 27 (.tmp 3) ?_); refine wpList_load_row rfl 27 (.tmp 3) rfl w.heap.size rfl 27 A (0, 0) _ KX.out Tryd.underlying27 rfl HSZ.out ?_) | (go_at_call 57; (with_reducible refine Calls.mono (NC.out _) ?_); rintro e1 w1 ⟨rfl, hb1⟩; replace HW := Lib.hid (HW.out.trans hb1); clear hb1))
  have hn : IntKind.i64.wrap (-q) = -q := by rw [IntKind.wrap_i64]; omega
  go_ret
  refine ⟨?_, HW.out⟩
  first | rfl | (rw [hn])
/-- the place of a number -/
def PosG (ps : List (Nat → Int)) (n : Int) (i : Nat) : Prop := i ≤ ps.length ∧ (∀ j, j < i → nmG ps j < n) ∧ ∀ j, i ≤ j → j < ps.length → n ≤ nmG ps j
def thG (ps : List (Nat → Int)) (n : Int) (i : Nat) : Bool := decide (i < ps.length ∧ nmG ps i = n)
theorem search_any (ps : List (Nat → Int)) (hs : ps.length ≤ 1000) (n : Int) (i : Nat) (hi : PosG ps n i) (v : Value) (B : Nat) (w : World) (hv : RdG w v ps) (hB : NCf w B) :
    Calls Tryd.prog 58 #[v, .int .i64 n, .func (.func 59) #[] #[.pointer (some ⟨B, 0, none⟩)]] w fun e w' => e = .returned (.tuple #[.int .i64 i, .bool (thG ps n i)]) ∧ Bw w w' := by
  have hp := hi.1
  have HP := Lib.hid hi
  clear hi
  by_cases h0 : 0 < ps.length
  · obtain ⟨b, o, c, rfl, hb, hz⟩ := hv.at h0
    have F1 := Lib.hid (fun x W h => find1_any n x B W h)
    have HB := Lib.hid hB
    have HZ := Lib.hid hz
    clear hz hv hB
    obtain ⟨m, hm⟩ : ∃ m, ps.length = m := ⟨_, rfl⟩
    have HN := Lib.hid hm
    rw [hm] at hs hp h0 ⊢
    clear hm
    have HT := Lib.hid (show thG ps n i = decide (i < m ∧ nmG ps i = n) by unfold thG; rw [HN.out])
    generalize thG ps n i = T at HT ⊢
    go_enter Tryd.func58, Tryd.ntmps58
    go_wp2
    go_loopw [9, 10] (fun s9 s10 wr => ∃ lo hi : Nat, lo ≤ i ∧ i ≤ hi ∧ hi ≤ m ∧ s9 = .int .i64 lo ∧ s10 = .int .i64 hi ∧ Hid (Bw w wr)) (fun s9 s10 _ => (intOf s10).toNat - (intOf s9).toNat)
    case atStart => exact ⟨0, m, Nat.zero_le _, hp, Nat.le_refl _, rfl, rfl, Lib.hid (Bw.refl _)⟩
    case round =>
      obtain ⟨lo, hi, h1, h2, h3, rfl, rfl, HW⟩ := hrel
      obtain ⟨wb, rfl⟩ : ∃ wb, wb = wr := ⟨_, rfl⟩
      by_cases hlt : lo < hi
      · have hkn : (lo : Int) < hi := by omega
        obtain ⟨h, hh⟩ : ∃ h, h = (lo + hi) / 2 := ⟨_, rfl⟩
        have hu0 : IntKind.i64.wrap ((lo : Int) + hi) = (lo : Int) + hi := by rw [IntKind.wrap_i64]; omega
        have hu1 : IntKind.u64.wrap ((lo : Int) + hi) = (lo : Int) + hi := by rw [IntKind.wrap_u64]; omega
        have hu2 : ((lo : Int) + hi) / 2 = (h : Int) := by omega
        have hu3 : IntKind.i64.wrap (h : Int) = h := by rw [IntKind.wrap_i64]; omega
        have HH := Lib.hid hh
        clear hh
        go_upto_region 5 with fail
        have hhm : h < m := by have := HH.out; omega
        have hq1 : (0 : Int) ≤ h := by omega
        have hq2 : (h : Int) < m := by omega
        have hq3 : IntKind.i64.wrap ((h : Int) + 1) = (h : Int) + 1 := by rw [IntKind.wrap_i64]; omega
        have R := Lib.hid (show wb.rangeAt b (o + h * 13) (pgc (ps.getD h fun _ => 0)) from fun j u hu => HW.out.cell' (HZ.out h _ (getD_some (by have := HN.out; omega)) j u hu))
        have FX := Lib.hid (fun W hW => F1.out (ps.getD h fun _ => 0) W hW)
        rw [show (ps.getD h fun _ => 0) 0 = nmG ps h from rfl] at FX
        have NB := Lib.hid (show NCf wb B from ⟨Nat.lt_of_lt_of_le HB.out.1 HW.out.size, HW.out.cell' HB.out.2⟩)
        generalize (ps.getD h fun _ => 0) = x at R FX
        by_cases hih : h < i
        · have hz : cmpZ n (nmG ps h) = 1 := by
            have := HP.out.2.1 h hih
            unfold cmpZ; rw [if_neg (by omega), if_pos this]
          rw [hz] at FX
          clear hz
          go_wp2_with (first | ((with_reducible refine at_load 27 (.tmp 27) ?_); refine wpList_load_pg rfl (.tmp 27) rfl b (o + h * 13) (by simp [Act.eval, Act.put]) R.out ?_) | (go_at_call 59; (with_reducible refine Calls.mono (FX.out _ NB.out) ?_); rintro e1 w1 ⟨rfl, hb1⟩; replace HW := Lib.hid (HW.out.trans hb1); clear hb1))
          go_roundw
          case rel => exact ⟨h + 1, hi, by omega, h2, h3, by go_num, rfl, HW⟩
          case measure => have := HH.out; simp [intOf]; omega
        · have hz : 0 ≤ - cmpZ n (nmG ps h) := by
            have := HP.out.2.2 h (by omega) (by have := HN.out; omega)
            unfold cmpZ; split
            · simp
            · rw [if_neg (by omega)]; simp
          generalize - cmpZ n (nmG ps h) = q at FX hz
          have hq4 : ¬ q < 0 := by omega
          go_wp2_with (first | ((with_reducible refine at_load 27 (.tmp 27) ?_); refine wpList_load_pg rfl (.tmp 27) rfl b (o + h * 13) (by simp [Act.eval, Act.put]) R.out ?_) | (go_at_call 59; (with_reducible refine Calls.mono (FX.out _ NB.out) ?_); rintro e1 w1 ⟨rfl, hb1⟩; replace HW := Lib.hid (HW.out.trans hb1); clear hb1))
          go_roundw
          case rel => exact ⟨lo, h, h1, by omega, by omega, rfl, rfl, HW⟩
          case measure => have := HH.out; simp [intOf]; omega
      · obtain rfl : lo = i := by omega
        by_cases hlm : lo < m
        · have hq1 : (0 : Int) ≤ lo := by omega
          have hq2 : (lo : Int) < m := by omega
          have R := Lib.hid (show wb.rangeAt b (o + lo * 13) (pgc (ps.getD lo fun _ => 0)) from fun j u hu => HW.out.cell' (HZ.out lo _ (getD_some (by have := HN.out; omega)) j u hu))
          have FX := Lib.hid (fun W hW => F1.out (ps.getD lo fun _ => 0) W hW)
          rw [show (ps.getD lo fun _ => 0) 0 = nmG ps lo from rfl] at FX
          have NB := Lib.hid (show NCf wb B from ⟨Nat.lt_of_lt_of_le HB.out.1 HW.out.size, HW.out.cell' HB.out.2⟩)
          generalize (ps.getD lo fun _ => 0) = x at R FX
          have hnl := HP.out.2.2 lo (Nat.le_refl _) (by have := HN.out; omega)
          have HT2 := Lib.hid (show T = decide (- cmpZ n (nmG ps lo) = 0) by
            rw [HT.out]; apply decide_eq_decide.2; unfold cmpZ
            constructor
            · rintro ⟨_, h9⟩; rw [if_neg (by omega), if_neg (by omega)]; rfl
            · intro h9
              refine ⟨hlm, ?_⟩
              split at h9
              · simp at h9
              · split at h9
                · simp at h9
                · omega)
          generalize - cmpZ n (nmG ps lo) = q at FX HT2
          clear hnl HT
          go_wp2_with (first | ((with_reducible refine at_load 27 (.tmp 43) ?_); refine wpList_load_pg_w (by rfl) (.tmp 43) rfl b (o + lo * 13) (by simp [Act.eval, Act.put]) R.out ?_) | (go_at_call 59; (with_reducible refine Calls.mono (FX.out _ NB.out) ?_); rintro e1 w1 ⟨rfl, hb1⟩; replace HW := Lib.hid (HW.out.trans hb1); clear hb1))
          refine bodyPost_ret (v := .tuple #[.int .i64 lo, .bool (decide (q = 0))]) ?_ rfl ⟨by rw [HT2.out], HW.out⟩
          simp [results, Tryd.results58, go_sem]
          rfl
        · have HT2 := Lib.hid (show T = false by rw [HT.out]; exact decide_eq_false (by omega))
          have hq2 : ¬ (lo : Int) < m := by omega
          clear HT
          go_wp2
          refine bodyPost_ret (v := .tuple #[.int .i64 lo, .bool false]) ?_ rfl ⟨by rw [HT2.out], HW.out⟩
          simp [results, Tryd.results58, go_sem]
  · obtain rfl : ps = [] := List.length_eq_zero_iff.1 (by omega)
    obtain rfl : i = 0 := by simpa using hp
    obtain ⟨a1, c1, rfl⟩ := hv.form
    have HG := Lib.hid (show thG [] n 0 = false from decide_eq_false (by simp))
    clear hv hB
    go_enter Tryd.func58, Tryd.ntmps58
    go_wp2
    go_loopw [9, 10] (fun s9 s10 wr => s9 = .int .i64 0 ∧ s10 = .int .i64 0 ∧ Hid (Bw w wr)) (fun _ _ _ => 0)
    case atStart => exact ⟨rfl, rfl, Lib.hid (Bw.refl _)⟩
    case round =>
      obtain ⟨rfl, rfl, HW⟩ := hrel
      go_wp2
      refine bodyPost_ret (v := .tuple #[.int .i64 0, .bool false]) ?_ rfl ⟨by rw [HG.out]; rfl, HW.out⟩
      simp [results, Tryd.results58, go_sem]
theorem asc_lt {ps : List (Nat → Int)} (h : ascG ps) : ∀ j, j < ps.length → ∀ i, i < j → nmG ps i < nmG ps j := by
  intro j
  induction j with
  | zero => intro _ i hi; omega
  | succ j ih =>
    intro hj i hi
    have h1 := h j (by omega)
    rcases Nat.lt_succ_iff_lt_or_eq.1 hi with h2 | rfl
    · exact Int.lt_trans (ih (by omega) i h2) h1
    · exact h1
theorem pos_ex {ps : List (Nat → Int)} (h : ascG ps) (n : Int) : ∃ i, PosG ps n i := by
  have : ∀ k, k ≤ ps.length → ∃ i, i ≤ k ∧ (∀ j, j < i → nmG ps j < n) ∧ ∀ j, i ≤ j → j < k → n ≤ nmG ps j := by
    intro k
    induction k with
    | zero => intro _; exact ⟨0, Nat.le_refl _, fun j hj => absurd hj (by omega), fun j _ hj => absurd hj (by omega)⟩
    | succ k ih =>
      intro hk
      obtain ⟨i, h1, h2, h3⟩ := ih (by omega)
      by_cases hn : n ≤ nmG ps k
      · refine ⟨i, by omega, h2, fun j hj hjk => ?_⟩
        rcases Nat.lt_succ_iff_lt_or_eq.1 hjk with h4 | rfl
        · exact h3 j hj h4
        · exact hn
      · refine ⟨k + 1, Nat.le_refl _, fun j hj => ?_, fun j hj hjk => absurd hjk (by omega)⟩
        rcases Nat.lt_succ_iff_lt_or_eq.1 hj with h4 | rfl
        · have := asc_lt h k (by omega) j h4; omega
        · omega
  obtain ⟨i, h1, h2, h3⟩ := this ps.length (Nat.le_refl _)
  exact ⟨i, h1, h2, h3⟩
theorem find27_any (ps : List (Nat → Int)) (hs : ps.length ≤ 1000) (n : Int) (i : Nat) (hi : PosG ps n i) (v : Value) (w : World) (hv : RdG w v ps) :
    Calls Tryd.prog 37 #[v, .int .i64 n] w fun e w' => e = .returned (.tuple #[.int .i64 i, .bool (thG ps n i)]) ∧ Bw w w' := by
  have HW := Lib.hid (Bw.alloc (Bw.refl w) (.cells #[.func (.func 57) #[] #[]] 91))
  have NB := Lib.hid (show NCf (w.alloc (.cells #[.func (.func 57) #[] #[]] 91)) w.heap.size from ⟨block_lt_of_cell ((Blk.new w 91 #[.func (.func 57) #[] #[]]).cell (j := 0) rfl), (Blk.new w 91 #[.func (.func 57) #[] #[]]).cell rfl⟩)
  have SE := Lib.hid (fun W h h2 => search_any ps hs n i hi v w.heap.size W h h2)
  have HV := Lib.hid (hv.mono HW.out)
  clear hv hi hs
  generalize thG ps n i = T at *
  go_enter Tryd.func37, Tryd.ntmps37
  go_upto_region 2 with fail
  go_wp2_with (first | (go_at_call 58; (with_reducible refine Calls.mono (SE.out _ HV.out NB.out) ?_); rintro e1 w1 ⟨rfl, hb1⟩; replace HW := Lib.hid (HW.out.trans hb1); clear hb1))
  refine bodyPost_ret (v := .tuple #[.int .i64 i, .bool T]) ?_ rfl ⟨rfl, HW.out⟩
  simp [results, Tryd.results37, go_sem]
end Go.Proofs.Sky

namespace Go.Proofs.Sky
open Go Go.RowKit Go.Shelf
attribute [local go_sem] Oper.semAt_some
set_option maxHeartbeats 4000000
set_option maxRecDepth 8000
/-! chapter 27: the document's error of an almanac -/
theorem rcheck27_any (ps : List (Nat → Int)) (v : Value) (w : World) (hv : RdG w v ps) : Calls Tryd.prog 55 #[v] w fun e w' => e = .returned (.int .i64 (errRow ps)) ∧ Bw w w' := by
  have hl := hv.1
  by_cases hlong : 63 < ps.length
  · obtain ⟨a1, c1, rfl⟩ := hv.form
    have HG := Lib.hid (errRow_long hlong)
    clear hv
    generalize ps.length = n at *
    have hq : (63 : Int) < n := by omega
    go_enter Tryd.func55, Tryd.ntmps55
    go_wp2
    go_ret
    exact ⟨ret_int HG.out.symm, Bw.refl _⟩
  have HBAD := Lib.hid (fun i hi he => errRow_bad hlong i hi he)
  have HORD := Lib.hid (fun hk i hi he => errRow_ord hlong hk i hi he)
  have HOK := Lib.hid (fun hk ha => errRow_ok hlong hk ha)
  by_cases h0 : 0 < ps.length
  · obtain ⟨b, o, c, rfl, hb, hz⟩ := hv.at h0
    have CK := Lib.hid (fun x W => rPgCheck_any x W)
    have HZ := Lib.hid hz
    clear hz hv
    generalize errRow ps = E at *
    obtain ⟨n, hn⟩ : ∃ n, ps.length = n := ⟨_, rfl⟩
    have HN := Lib.hid hn
    rw [hn] at hl hlong h0 ⊢
    clear hn
    have hq : ¬ (63 : Int) < n := by omega
    go_enter Tryd.func55, Tryd.ntmps55
    go_wp2
    go_loopw [3] (fun i wr => ∃ k : Nat, k ≤ n ∧ i = .int .i64 k ∧ Hid (Bw w wr) ∧ Hid (∀ j, j < k → errPg (ps.getD j fun _ => 0) = 0)) (fun i _ => n - (intOf i).toNat)
    case atStart => exact ⟨0, Nat.zero_le _, rfl, Lib.hid (Bw.refl _), Lib.hid (fun j hj => absurd hj (Nat.not_lt_zero _))⟩
    case round =>
      obtain ⟨k, hk, rfl, HW, HA⟩ := hrel
      obtain ⟨wb, rfl⟩ : ∃ wb, wb = wr := ⟨_, rfl⟩
      by_cases hlt : k < n
      · have hkn : (k : Int) < n := by omega
        have hk0 : (0 : Int) ≤ k := by omega
        have R := Lib.hid (show wb.rangeAt b (o + k * 13) (pgc (ps.getD k fun _ => 0)) from fun j u hu => HW.out.cell' (HZ.out k _ (getD_some (by have := HN.out; omega)) j u hu))
        have HB1 := Lib.hid (HBAD.out k (by have := HN.out; omega))
        have HA1 := Lib.hid (fun h => (fun j (hj : j < k + 1) => (by
          rcases Nat.lt_succ_iff_lt_or_eq.1 hj with h' | rfl
          · exact HA.out j h'
          · exact h) : ∀ j, j < k + 1 → errPg (ps.getD j fun _ => 0) = 0))
        generalize (ps.getD k fun _ => 0) = x at R HB1 HA1
        have CX := Lib.hid (fun W => CK.out x W)
        have H2 := Lib.hid (errPg_two x)
        generalize errPg x = ex at HB1 HA1 CX H2
        by_cases hex : ex = 0
        · subst hex
          have HG := Lib.hid (HA1.out rfl)
          go_wp2_with (first | ((with_reducible refine at_load 27 (.tmp 17) ?_); refine wpList_load_pg rfl (.tmp 17) rfl b (o + k * 13) (by simp [Act.eval, Act.put]) R.out ?_) | (go_at_call 23; (with_reducible refine Calls.mono (CX.out _) ?_); rintro e1 w1 ⟨rfl, hb1⟩; replace HW := Lib.hid (HW.out.trans hb1); clear hb1))
          go_roundw
          case rel => exact ⟨k + 1, by omega, by go_num, HW, HG⟩
          case measure => simp [intOf]; omega
        · have HG := Lib.hid (show E = ex from (HB1.out hex).trans (H2.out.resolve_left hex).symm)
          go_wp2_with (first | ((with_reducible refine at_load 27 (.tmp 17) ?_); refine wpList_load_pg rfl (.tmp 17) rfl b (o + k * 13) (by simp [Act.eval, Act.put]) R.out ?_) | (go_at_call 23; (with_reducible refine Calls.mono (CX.out _) ?_); rintro e1 w1 ⟨rfl, hb1⟩; replace HW := Lib.hid (HW.out.trans hb1); clear hb1))
          go_ret
          exact ⟨ret_int HG.out.symm, HW.out⟩
      · obtain rfl : k = n := by omega
        have HOKR := Lib.hid (show okR27 ps from fun i hi => HA.out i (by have := HN.out; omega))
        go_wp2
        go_loopw [5] (fun i wr => ∃ m : Nat, m + 1 ≤ k ∧ i = .int .i64 ((m : Int) + 1) ∧ Hid (Bw w wr) ∧ Hid (∀ j, j < m → nmG ps j < nmG ps (j + 1))) (fun i _ => k - (intOf i).toNat)
        case atStart => exact ⟨0, by omega, rfl, HW, Lib.hid (fun j hj => absurd hj (Nat.not_lt_zero _))⟩
        case round =>
          obtain ⟨m, hm, rfl, HW2, HA2⟩ := hrel
          obtain ⟨wc, rfl⟩ : ∃ wc, wc = wr := ⟨_, rfl⟩
          clear HW HA
          by_cases hlt2 : m + 1 < k
          · have hkn : (m : Int) + 1 < k := by omega
            have hm0 : (0 : Int) ≤ m := by omega
            have hm1 : (m : Int) < k := by omega
            have hm2 : (0 : Int) ≤ (m : Int) + 1 := by omega
            have d1 : wc.cell? ⟨b, o + (m + 1) * 13, none⟩ = some (.int .i64 (nmG ps (m + 1))) := HW2.out.cell' (rg_at0 (HZ.out (m + 1) _ (getD_some (by have := HN.out; omega))))
            have d2 : wc.cell? ⟨b, o + m * 13, none⟩ = some (.int .i64 (nmG ps m)) := HW2.out.cell' (rg_at0 (HZ.out m _ (getD_some (by have := HN.out; omega))))
            have HB2 := Lib.hid (HORD.out HOKR.out m (by have := HN.out; omega))
            have HA3 := Lib.hid (fun h => (fun j (hj : j < m + 1) => (by
              rcases Nat.lt_succ_iff_lt_or_eq.1 hj with h' | rfl
              · exact HA2.out j h'
              · exact h) : ∀ j, j < m + 1 → nmG ps j < nmG ps (j + 1)))
            generalize nmG ps (m + 1) = p at d1 HB2 HA3
            generalize nmG ps m = q at d2 HB2 HA3
            have e1 := fun p' : Ext wc => Ext.cell' d1 p'
            have e2 := fun p' : Ext wc => Ext.cell' d2 p'
            have ew : IntKind.i64.wrap ((m : Int) + 1 - 1) = m := by rw [IntKind.wrap_i64]; omega
            have et : ((m : Int) + 1).toNat = m + 1 := by omega
            by_cases hpq : q < p
            · have HG := Lib.hid (HA3.out hpq)
              have hpn : ¬ p ≤ q := by omega
              go_upto_region 12 with fail
              (refine wp_region_quiet_ext (by kernel_rfl) (by kernel_rfl) ?_; (repeat (go_big_quiet_step ((fail)))); refine wpQuiet_nil ?_; rintro wq ⟨⟨_, hbq⟩, rfl⟩; obtain ⟨hccq, hffq⟩ := Bw.cells hbq; have hszq := Bw.size hbq)
              go_wp2
              go_roundw
              case rel => exact ⟨m + 1, by omega, by go_num, Lib.hid (HW2.out.trans hbq), HG⟩
              case measure => simp [intOf]; omega
            · have HG := Lib.hid (HB2.out (by omega))
              have hpn : p ≤ q := by omega
              go_upto_region 12 with fail
              (refine wp_region_quiet_ext (by kernel_rfl) (by kernel_rfl) ?_; (repeat (go_big_quiet_step ((fail)))); refine wpQuiet_nil ?_; rintro wq ⟨⟨_, hbq⟩, rfl⟩; obtain ⟨hccq, hffq⟩ := Bw.cells hbq; have hszq := Bw.size hbq)
              go_wp2
              go_ret
              exact ⟨ret_int HG.out.symm, HW2.out.trans hbq⟩
          · obtain rfl : k = m + 1 := by omega
            have HG := Lib.hid (HOK.out HOKR.out (fun i hi => HA2.out i (by have := HN.out; omega)))
            go_wp2
            go_ret
            exact ⟨ret_int HG.out.symm, HW2.out⟩
  · obtain rfl : ps = [] := List.length_eq_zero_iff.1 (by omega)
    obtain ⟨a1, c1, rfl⟩ := hv.form
    have HG := Lib.hid (HOK.out (fun i hi => absurd hi (by simp)) (fun i hi => absurd hi (by simp)))
    clear hv HBAD HORD HOK
    go_enter Tryd.func55, Tryd.ntmps55
    go_wp2
    go_loopw [3] (fun i wr => i = .int .i64 0 ∧ Hid (Bw w wr)) (fun i _ => 0)
    case atStart => exact ⟨rfl, Lib.hid (Bw.refl _)⟩
    case round =>
      obtain ⟨rfl, HW⟩ := hrel
      go_wp2
      go_loopw [5] (fun i wr => i = .int .i64 1 ∧ Hid (Bw w wr)) (fun i _ => 0)
      case atStart => exact ⟨rfl, HW⟩
      case round =>
        obtain ⟨rfl, HW2⟩ := hrel
        go_wp2
        go_ret
        exact ⟨ret_int HG.out.symm, HW2.out⟩
end Go.Proofs.Sky

namespace Go.Proofs.Sky
open Go Go.RowKit Go.Shelf
attribute [local go_sem] Oper.semAt_some
set_option maxHeartbeats 4000000
set_option maxRecDepth 8000
/-! chapter 27: Find -/
theorem rg_bw {w w' : World} {b o : Nat} {cs : List Value} (h : w.rangeAt b o cs) (hb : Bw w w') : w'.rangeAt b o cs := fun j u hu => hb.cell' (h j u hu)
def zrX : Nat → Int := fun _ => 0
def FindQ (ps : List (Nat → Int)) (n : Int) (X : Nat → Int) (E : Int) : Prop :=
  (errRow ps ≠ 0 ∧ X = zrX ∧ E = errRow ps) ∨ (errRow ps = 0 ∧ ∃ i, i < ps.length ∧ nmG ps i = n ∧ X = (ps.getD i fun _ => 0) ∧ E = 0) ∨ (errRow ps = 0 ∧ (∀ i, i < ps.length → nmG ps i ≠ n) ∧ X = zrX ∧ E = 18)
theorem findQ_ex (ps : List (Nat → Int)) (n : Int) : ∃ X E, FindQ ps n X E := by
  by_cases h : errRow ps = 0
  · by_cases h2 : ∃ i, i < ps.length ∧ nmG ps i = n
    · obtain ⟨i, h3, h4⟩ := h2
      exact ⟨_, _, .inr (.inl ⟨h, i, h3, h4, rfl, rfl⟩)⟩
    · exact ⟨_, _, .inr (.inr ⟨h, fun i hi he => h2 ⟨i, hi, he⟩, rfl, rfl⟩)⟩
  · exact ⟨_, _, .inl ⟨h, rfl, rfl⟩⟩
theorem pos_th {ps : List (Nat → Int)} {n : Int} {i j : Nat} (ha : ascG ps) (hi : PosG ps n i) (hj : j < ps.length) (h : nmG ps j = n) : j = i := by
  by_cases h1 : j < i
  · have := hi.2.1 j h1; omega
  · by_cases h2 : i < j
    · have h3 := asc_lt ha j hj i h2
      have h4 := hi.2.2 i (Nat.le_refl _) (by omega)
      omega
    · omega
theorem AlFind_any (ps : List (Nat → Int)) (n : Int) (X : Nat → Int) (E : Int) (h : FindQ ps n X E) (v : Value) (w : World) (hw : WdAt w) (hv : RdG w v ps) :
    Calls Tryd.prog 13 #[v, .int .i64 n] w fun e w' => e = .returned (.tuple #[.agg (pgV X), .int .i64 E]) ∧ Bw w w' := by
  have HB0 := Bw.alloc (Bw.refl w) (.cells #[.int .i64 0, .int .i64 0, .int .i64 0, .int .i64 0, .int .i64 0, .int .i64 0, .int .i64 0, .int .i64 0, .int .i64 0, .int .i64 0, .int .i64 0, .int .i64 0, .int .i64 0] 27)
  have KR0 : Blk (w.alloc (.cells #[.int .i64 0, .int .i64 0, .int .i64 0, .int .i64 0, .int .i64 0, .int .i64 0, .int .i64 0, .int .i64 0, .int .i64 0, .int .i64 0, .int .i64 0, .int .i64 0, .int .i64 0] 27)) w.heap.size 27 (pgV zrX) := Blk.new w 27 #[.int .i64 0, .int .i64 0, .int .i64 0, .int .i64 0, .int .i64 0, .int .i64 0, .int .i64 0, .int .i64 0, .int .i64 0, .int .i64 0, .int .i64 0, .int .i64 0, .int .i64 0]
  have WH := Lib.hid (fun W hW hV => whole_any ps v W hW hV)
  have HSZ : Hid (∀ x, (Tryd.prog.info? 27).map (·.size) = some (pgV x).size) := Lib.hid (fun x => by kernel_rfl)
  have HPX : Hid (∀ x, (pgV x).all (·.oneCell') = true) := Lib.hid (fun x => by simp [Value.oneCell', pgV])
  obtain ⟨g, hg⟩ : ∃ g, w.heap.size = g := ⟨_, rfl⟩
  obtain ⟨W0, hW0⟩ : ∃ W0, w.alloc (.cells #[.int .i64 0, .int .i64 0, .int .i64 0, .int .i64 0, .int .i64 0, .int .i64 0, .int .i64 0, .int .i64 0, .int .i64 0, .int .i64 0, .int .i64 0, .int .i64 0, .int .i64 0] 27) = W0 := ⟨_, rfl⟩
  have HQ := Lib.hid h
  have HWD := Lib.hid (hw.bw HB0)
  have HV := Lib.hid (hv.mono HB0)
  rw [hW0] at HB0 KR0 HWD HV
  rw [hg] at KR0
  have HW := Lib.hid HB0
  have KR := Lib.hid KR0
  clear HB0 KR0 h hw hv
  rcases HQ.out with ⟨h1, h2, h3⟩ | ⟨h1, i, h2, h3, h4, h5⟩ | ⟨h1, h2, h3, h4⟩
  · rw [h3, h2]
    generalize errRow ps = Er at *
    go_enter Tryd.func13, Tryd.ntmps13
    go_upto_region 1 with fail
    (try rw [hg])
    clear hW0
    go_wp2_with (first | ((with_reducible refine at_store 27 (.tmp 4) (.tmp 13) ?_); refine wpList_store_row rfl 27 (.tmp 4) (.tmp 13) rfl g (pgV zrX) rfl rfl 27 _ KR.out (HSZ.out _) rfl (HPX.out _) ?_) | (go_at_call 35; (with_reducible refine Calls.mono (WH.out _ HWD.out HV.out) ?_); rintro e1 w1 ⟨rfl, hb1⟩; replace HW := Lib.hid (HW.out.trans hb1); replace KR := Lib.hid (KR.out.bw hb1); replace HV := Lib.hid (HV.out.mono hb1); clear hb1))
    refine bodyPost_ret (v := .tuple #[.agg (pgV zrX), .int .i64 Er]) ?_ rfl ⟨rfl, Bw.setRow HW.out (Nat.le_of_eq hg) _⟩
    exact results_two_row (p := 4) (u := 5) rfl _ _ g _ rfl (run_loadVar_row _ g 27 27 (pgV zrX) (0, 0) _ (KR.out.row _) Tryd.underlying27 rfl (by kernel_rfl))
  · obtain ⟨hlen, hok, ha⟩ := errRow_zero h1
    obtain ⟨i', hp⟩ := pos_ex ha n
    obtain rfl := pos_th ha hp h2 h3
    have FI := Lib.hid (fun W hV => find27_any ps (by omega) n i hp v W hV)
    rw [show thG ps n i = true from decide_eq_true ⟨h2, h3⟩] at FI
    rw [h1] at WH
    rw [h4, h5]
    obtain ⟨b, o, c, rfl, hb, hz⟩ := HV.out.at (by omega)
    have R := Lib.hid (show W0.rangeAt b (o + i * 13) (pgc (ps.getD i fun _ => 0)) from hz i _ (getD_some h2))
    have hq1 : (i : Int) < ps.length := by omega
    have hq0 : (0 : Int) ≤ i := by omega
    clear hz h1 h3 h4 h5 hp ha hok HQ
    generalize (ps.getD i fun _ => 0) = x at *
    obtain ⟨m, hm⟩ : ∃ m, ps.length = m := ⟨_, rfl⟩
    rw [hm] at FI WH HV hq1 h2 hlen ⊢
    clear hm
    go_enter Tryd.func13, Tryd.ntmps13
    go_upto_region 1 with fail
    (try rw [hg])
    clear hW0
    go_wp2_with (first | ((with_reducible refine at_store 27 (.tmp 4) (.tmp 27) ?_); refine wpList_store_row rfl 27 (.tmp 4) (.tmp 27) rfl g (pgV x) rfl rfl 27 _ KR.out (HSZ.out _) rfl (HPX.out _) ?_) | ((with_reducible refine at_load 27 (.tmp 26) ?_); refine wpList_load_pg rfl (.tmp 26) rfl b (o + i * 13) (by simp [Act.eval, Act.put]) R.out ?_) | (go_at_call 35; (with_reducible refine Calls.mono (WH.out _ HWD.out HV.out) ?_); rintro e1 w1 ⟨rfl, hb1⟩; replace HW := Lib.hid (HW.out.trans hb1); replace KR := Lib.hid (KR.out.bw hb1); replace HV := Lib.hid (HV.out.mono hb1); replace R := Lib.hid (rg_bw R.out hb1); clear hb1) | (go_at_call 37; (with_reducible refine Calls.mono (FI.out _ HV.out) ?_); rintro e1 w2 ⟨rfl, hb1⟩; replace HW := Lib.hid (HW.out.trans hb1); replace KR := Lib.hid (KR.out.bw hb1); replace HV := Lib.hid (HV.out.mono hb1); replace R := Lib.hid (rg_bw R.out hb1); clear hb1))
    refine bodyPost_ret (v := .tuple #[.agg (pgV x), .int .i64 0]) ?_ rfl ⟨rfl, Bw.setRow HW.out (Nat.le_of_eq hg) _⟩
    exact results_two_row (p := 4) (u := 5) rfl _ _ g _ rfl (run_loadVar_row _ g 27 27 (pgV x) (0, 0) _ (KR.out.row _) Tryd.underlying27 rfl (by kernel_rfl))
  · obtain ⟨hlen, hok, ha⟩ := errRow_zero h1
    obtain ⟨i, hp⟩ := pos_ex ha n
    have FI := Lib.hid (fun W hV => find27_any ps (by omega) n i hp v W hV)
    rw [show thG ps n i = false from decide_eq_false (fun h9 => h2 i h9.1 h9.2)] at FI
    rw [h1] at WH
    rw [h3, h4]
    clear hp ha hok HQ h1 h2 h3 h4
    go_enter Tryd.func13, Tryd.ntmps13
    go_upto_region 1 with fail
    (try rw [hg])
    clear hW0
    go_wp2_with (first | ((with_reducible refine at_store 27 (.tmp 4) (.tmp 23) ?_); refine wpList_store_row rfl 27 (.tmp 4) (.tmp 23) rfl g (pgV zrX) rfl rfl 27 _ KR.out (HSZ.out _) rfl (HPX.out _) ?_) | (go_at_call 35; (with_reducible refine Calls.mono (WH.out _ HWD.out HV.out) ?_); rintro e1 w1 ⟨rfl, hb1⟩; replace HW := Lib.hid (HW.out.trans hb1); replace KR := Lib.hid (KR.out.bw hb1); replace HV := Lib.hid (HV.out.mono hb1); clear hb1) | (go_at_call 37; (with_reducible refine Calls.mono (FI.out _ HV.out) ?_); rintro e1 w2 ⟨rfl, hb1⟩; replace HW := Lib.hid (HW.out.trans hb1); replace KR := Lib.hid (KR.out.bw hb1); replace HV := Lib.hid (HV.out.mono hb1); clear hb1))
    refine bodyPost_ret (v := .tuple #[.agg (pgV zrX), .int .i64 18]) ?_ rfl ⟨rfl, Bw.setRow HW.out (Nat.le_of_eq hg) _⟩
    exact results_two_row (p := 4) (u := 5) rfl _ _ g _ rfl (run_loadVar_row _ g 27 27 (pgV zrX) (0, 0) _ (KR.out.row _) Tryd.underlying27 rfl (by kernel_rfl))
end Go.Proofs.Sky

namespace Go.Proofs.Sky
open Go Go.RowKit Go.Shelf
attribute [local go_sem] Oper.semAt_some
set_option maxHeartbeats 4000000
set_option maxRecDepth 8000
/-! chapter 27: the document's Find -/
theorem asc_ne {ps : List (Nat → Int)} (ha : ascG ps) {i j : Nat} (hi : i < ps.length) (hj : j < ps.length) (h : j ≠ i) : nmG ps j ≠ nmG ps i := by
  rcases Nat.lt_or_ge j i with h1 | h1
  · have := asc_lt ha i hi j h1; omega
  · have := asc_lt ha j hj i (by omega); omega
theorem rd_rg {W : World} {b o m c : Nat} {ps : List (Nat → Int)} (h : RdG W (.slice (some ⟨b, o, none⟩) m c) ps) (j : Nat) (hj : j < ps.length) : W.rangeAt b (o + j * 13) (pgc (ps.getD j fun _ => 0)) := by
  obtain ⟨b', o', c', hv, _, hz⟩ := h.at (by omega)
  injection hv with e1 e2 e3
  injection e1 with e1
  injection e1 with e1 e4
  subst e1 e4
  exact hz j _ (getD_some hj)
theorem RAlFind_any (ps : List (Nat → Int)) (n : Int) (X : Nat → Int) (E : Int) (h : FindQ ps n X E) (v : Value) (w : World) (hv : RdG w v ps) :
    Calls Tryd.prog 28 #[v, .int .i64 n] w fun e w' => e = .returned (.tuple #[.agg (pgV X), .int .i64 E]) ∧ Bw w w' := by
  have HB0 := Bw.alloc (Bw.refl w) (.cells #[.int .i64 0, .int .i64 0, .int .i64 0, .int .i64 0, .int .i64 0, .int .i64 0, .int .i64 0, .int .i64 0, .int .i64 0, .int .i64 0, .int .i64 0, .int .i64 0, .int .i64 0] 27)
  have KR0 : Blk (w.alloc (.cells #[.int .i64 0, .int .i64 0, .int .i64 0, .int .i64 0, .int .i64 0, .int .i64 0, .int .i64 0, .int .i64 0, .int .i64 0, .int .i64 0, .int .i64 0, .int .i64 0, .int .i64 0] 27)) w.heap.size 27 (pgV zrX) := Blk.new w 27 #[.int .i64 0, .int .i64 0, .int .i64 0, .int .i64 0, .int .i64 0, .int .i64 0, .int .i64 0, .int .i64 0, .int .i64 0, .int .i64 0, .int .i64 0, .int .i64 0, .int .i64 0]
  have WH := Lib.hid (fun W hV => rcheck27_any ps v W hV)
  have HSZ : Hid (∀ x, (Tryd.prog.info? 27).map (·.size) = some (pgV x).size) := Lib.hid (fun x => by kernel_rfl)
  have HPX : Hid (∀ x, (pgV x).all (·.oneCell') = true) := Lib.hid (fun x => by simp [Value.oneCell', pgV])
  obtain ⟨g, hg⟩ : ∃ g, w.heap.size = g := ⟨_, rfl⟩
  obtain ⟨W0, hW0⟩ : ∃ W0, w.alloc (.cells #[.int .i64 0, .int .i64 0, .int .i64 0, .int .i64 0, .int .i64 0, .int .i64 0, .int .i64 0, .int .i64 0, .int .i64 0, .int .i64 0, .int .i64 0, .int .i64 0, .int .i64 0] 27) = W0 := ⟨_, rfl⟩
  have HQ := Lib.hid h
  have HV := Lib.hid (hv.mono HB0)
  rw [hW0] at HB0 KR0 HV
  rw [hg] at KR0
  have HW := Lib.hid HB0
  have KR := Lib.hid KR0
  clear HB0 KR0 h hv
  rcases HQ.out with ⟨h1, h2, h3⟩ | ⟨h1, i, h2, h3, h4, h5⟩ | ⟨h1, h2, h3, h4⟩
  · rw [h3, h2]
    generalize errRow ps = Er at *
    go_enter Tryd.func28, Tryd.ntmps28
    go_upto_region 1 with fail
    (try rw [hg])
    clear hW0
    go_wp2_with (first | ((with_reducible refine at_store 27 (.tmp 4) (.tmp 12) ?_); refine wpList_store_row rfl 27 (.tmp 4) (.tmp 12) rfl g (pgV zrX) rfl rfl 27 _ KR.out (HSZ.out _) rfl (HPX.out _) ?_) | (go_at_call 55; (with_reducible refine Calls.mono (WH.out _ HV.out) ?_); rintro e1 w1 ⟨rfl, hb1⟩; replace HW := Lib.hid (HW.out.trans hb1); replace KR := Lib.hid (KR.out.bw hb1); replace HV := Lib.hid (HV.out.mono hb1); clear hb1))
    refine bodyPost_ret (v := .tuple #[.agg (pgV zrX), .int .i64 Er]) ?_ rfl ⟨rfl, Bw.setRow HW.out (Nat.le_of_eq hg) _⟩
    exact results_two_row (p := 4) (u := 5) rfl _ _ g _ rfl (run_loadVar_row _ g 27 27 (pgV zrX) (0, 0) _ (KR.out.row _) Tryd.underlying27 rfl (by kernel_rfl))
  · obtain ⟨hlen, hok, ha⟩ := errRow_zero h1
    rw [h1] at WH
    rw [h4, h5]
    obtain ⟨x, hx⟩ : ∃ x, (ps.getD i fun _ => 0) = x := ⟨_, rfl⟩
    rw [hx]
    have HX := Lib.hid hx
    clear hx
    obtain ⟨b, o, c, rfl, hb, hz⟩ := HV.out.at (by omega)
    have HNE := Lib.hid (fun j hj hji => asc_ne ha (i := i) (j := j) h2 hj hji)
    rw [h3] at HNE
    have HZ := Lib.hid (fun (W : World) (h : RdG W (.slice (some ⟨b, o, none⟩) ps.length c) ps) j hj => rd_rg h j hj)
    have h30 := h3
    clear hz h1 h4 h5 ha hok HQ
    obtain ⟨m, hm⟩ : ∃ m, ps.length = m := ⟨_, rfl⟩
    rw [hm] at WH HV HZ HNE h2 hlen ⊢
    clear hm
    go_enter Tryd.func28, Tryd.ntmps28
    go_upto_region 1 with fail
    (try rw [hg])
    clear hW0
    go_wp2_with (first | (go_at_call 55; (with_reducible refine Calls.mono (WH.out _ HV.out) ?_); rintro e1 w1 ⟨rfl, hb1⟩; replace HW := Lib.hid (HW.out.trans hb1); replace KR := Lib.hid (KR.out.bw hb1); replace HV := Lib.hid (HV.out.mono hb1); clear hb1))
    go_loopw [7] (fun s7 wr => ∃ k : Nat, k ≤ i ∧ s7 = .int .i64 k ∧ Hid (Bw w wr) ∧ Hid (Blk wr g 27 (pgV zrX)) ∧ Hid (RdG wr (.slice (some ⟨b, o, none⟩) m c) ps)) (fun s7 _ => m - (intOf s7).toNat)
    case atStart => exact ⟨0, Nat.zero_le _, rfl, HW, KR, HV⟩
    case round =>
      clear HW KR HV
      obtain ⟨k, hk, rfl, HW, KR, HV⟩ := hrel
      obtain ⟨wb, rfl⟩ : ∃ wb, wb = wr := ⟨_, rfl⟩
      have hkm : (k : Int) < m := by omega
      have hk0 : (0 : Int) ≤ k := by omega
      have R := Lib.hid (HZ.out wb HV.out k (by omega))
      have d1 : wb.cell? ⟨b, o + k * 13, none⟩ = some (.int .i64 (nmG ps k)) := rg_at0 R.out
      by_cases hki : k = i
      · subst hki
        rw [h30] at d1
        clear HZ h30 HNE h3
        replace R := Lib.hid (show wb.rangeAt b (o + k * 13) (pgc x) from HX.out ▸ R.out)
        clear HX
        go_wp2_with (first | ((with_reducible refine at_store 27 (.tmp 4) (.tmp 30) ?_); refine wpList_store_row rfl 27 (.tmp 4) (.tmp 30) rfl g (pgV x) rfl rfl 27 _ KR.out (HSZ.out _) rfl (HPX.out _) ?_) | ((with_reducible refine at_load 27 (.tmp 29) ?_); refine wpList_load_pg rfl (.tmp 29) rfl b (o + k * 13) (by simp [Act.eval, Act.put]) R.out ?_))
        refine bodyPost_ret (v := .tuple #[.agg (pgV x), .int .i64 0]) ?_ rfl ⟨rfl, Bw.setRow HW.out (Nat.le_of_eq hg) _⟩
        exact results_two_row (p := 4) (u := 5) rfl _ _ g _ rfl (run_loadVar_row _ g 27 27 (pgV x) (0, 0) _ (KR.out.row _) Tryd.underlying27 rfl (by kernel_rfl))
      · have hne := HNE.out k (by omega) hki
        generalize nmG ps k = p at d1 hne
        have hne2 : (p == n) = false := by simpa using hne
        clear HZ R
        go_wp2
        go_roundw
        case rel => exact ⟨k + 1, by omega, by go_num, HW, KR, HV⟩
        case measure => simp [intOf]; omega
  · obtain ⟨hlen, hok, ha⟩ := errRow_zero h1
    rw [h1] at WH
    rw [h3, h4]
    by_cases h0 : 0 < ps.length
    · obtain ⟨b, o, c, rfl, hb, hz⟩ := HV.out.at h0
      have HZ := Lib.hid (fun (W : World) (h : RdG W (.slice (some ⟨b, o, none⟩) ps.length c) ps) j hj => rd_rg h j hj)
      have HNE := Lib.hid h2
      clear hz h1 h2 h3 h4 ha hok HQ
      obtain ⟨m, hm⟩ : ∃ m, ps.length = m := ⟨_, rfl⟩
      rw [hm] at WH HV HZ HNE h0 hlen ⊢
      clear hm
      go_enter Tryd.func28, Tryd.ntmps28
      go_upto_region 1 with fail
      (try rw [hg])
      clear hW0
      go_wp2_with (first | (go_at_call 55; (with_reducible refine Calls.mono (WH.out _ HV.out) ?_); rintro e1 w1 ⟨rfl, hb1⟩; replace HW := Lib.hid (HW.out.trans hb1); replace KR := Lib.hid (KR.out.bw hb1); replace HV := Lib.hid (HV.out.mono hb1); clear hb1))
      go_loopw [7] (fun s7 wr => ∃ k : Nat, k ≤ m ∧ s7 = .int .i64 k ∧ Hid (Bw w wr) ∧ Hid (Blk wr g 27 (pgV zrX)) ∧ Hid (RdG wr (.slice (some ⟨b, o, none⟩) m c) ps)) (fun s7 _ => m - (intOf s7).toNat)
      case atStart => exact ⟨0, Nat.zero_le _, rfl, HW, KR, HV⟩
      case round =>
        clear HW KR HV
        obtain ⟨k, hk, rfl, HW, KR, HV⟩ := hrel
        obtain ⟨wb, rfl⟩ : ∃ wb, wb = wr := ⟨_, rfl⟩
        by_cases hkm' : k < m
        · have hkm : (k : Int) < m := by omega
          have hk0 : (0 : Int) ≤ k := by omega
          have d1 : wb.cell? ⟨b, o + k * 13, none⟩ = some (.int .i64 (nmG ps k)) := rg_at0 (HZ.out wb HV.out k (by omega))
          have hne := HNE.out k (by omega)
          generalize nmG ps k = p at d1 hne
          have hne2 : (p == n) = false := by simpa using hne
          clear HZ
          go_wp2
          go_roundw
          case rel => exact ⟨k + 1, by omega, by go_num, HW, KR, HV⟩
          case measure => simp [intOf]; omega
        · obtain rfl : k = m := by omega
          go_wp2_with (first | ((with_reducible refine at_store 27 (.tmp 4) (.tmp 31) ?_); refine wpList_store_row rfl 27 (.tmp 4) (.tmp 31) rfl g (pgV zrX) rfl rfl 27 _ KR.out (HSZ.out _) rfl (HPX.out _) ?_))
          refine bodyPost_ret (v := .tuple #[.agg (pgV zrX), .int .i64 18]) ?_ rfl ⟨rfl, Bw.setRow HW.out (Nat.le_of_eq hg) _⟩
          exact results_two_row (p := 4) (u := 5) rfl _ _ g _ rfl (run_loadVar_row _ g 27 27 (pgV zrX) (0, 0) _ (KR.out.row _) Tryd.underlying27 rfl (by kernel_rfl))
    · obtain rfl : ps = [] := List.length_eq_zero_iff.1 (by omega)
      obtain ⟨a1, c1, rfl⟩ := HV.out.form
      clear h1 h2 h3 h4 ha hok HQ
      go_enter Tryd.func28, Tryd.ntmps28
      go_upto_region 1 with fail
      (try rw [hg])
      clear hW0
      go_wp2_with (first | (go_at_call 55; (with_reducible refine Calls.mono (WH.out _ HV.out) ?_); rintro e1 w1 ⟨rfl, hb1⟩; replace HW := Lib.hid (HW.out.trans hb1); replace KR := Lib.hid (KR.out.bw hb1); replace HV := Lib.hid (HV.out.mono hb1); clear hb1))
      go_loopw [7] (fun s7 wr => s7 = .int .i64 0 ∧ Hid (Bw w wr) ∧ Hid (Blk wr g 27 (pgV zrX))) (fun s7 _ => 0)
      case atStart => exact ⟨rfl, HW, KR⟩
      case round =>
        clear HW KR HV
        obtain ⟨rfl, HW, KR⟩ := hrel
        go_wp2_with (first | ((with_reducible refine at_store 27 (.tmp 4) (.tmp 31) ?_); refine wpList_store_row rfl 27 (.tmp 4) (.tmp 31) rfl g (pgV zrX) rfl rfl 27 _ KR.out (HSZ.out _) rfl (HPX.out _) ?_))
        refine bodyPost_ret (v := .tuple #[.agg (pgV zrX), .int .i64 18]) ?_ rfl ⟨rfl, Bw.setRow HW.out (Nat.le_of_eq hg) _⟩
        exact results_two_row (p := 4) (u := 5) rfl _ _ g _ rfl (run_loadVar_row _ g 27 27 (pgV zrX) (0, 0) _ (KR.out.row _) Tryd.underlying27 rfl (by kernel_rfl))
end Go.Proofs.Sky

namespace Go.Proofs.Sky
open Go Go.RowKit Go.Shelf
attribute [local go_sem] Oper.semAt_some
set_option maxHeartbeats 4000000
set_option maxRecDepth 8000
/-! chapter 27: Missing -/
def bdG (ps : List (Nat → Int)) (t most n : Int) : Bool := decide (∀ i, i < ps.length → (nmG ps i = n → most < bdQ (ps.getD i fun _ => 0) t))
theorem bdG_no {ps : List (Nat → Int)} {t most n : Int} (h : ∀ i, i < ps.length → nmG ps i ≠ n) : bdG ps t most n = true := decide_eq_true (fun i hi he => absurd he (h i hi))
theorem bdG_at {ps : List (Nat → Int)} {t most n : Int} (ha : ascG ps) {i : Nat} (hi : i < ps.length) (h : nmG ps i = n) : bdG ps t most n = decide (most < bdQ (ps.getD i fun _ => 0) t) := by
  apply decide_eq_decide.2
  constructor
  · intro h2; exact h2 i hi h
  · intro h2 j hj he
    by_cases hji : j = i
    · subst hji; exact h2
    · exact absurd (he.trans h.symm) (asc_ne ha hi hj hji)
def msL (ps : List (Nat → Int)) (t most : Int) (zs : List Int) (k : Nat) : List Int := (zs.take k).filter (bdG ps t most)
theorem msL_zero (ps : List (Nat → Int)) (t most : Int) (zs : List Int) : msL ps t most zs 0 = [] := rfl
theorem msL_yes {ps : List (Nat → Int)} {t most : Int} {zs : List Int} {k : Nat} (hk : k < zs.length) (h : bdG ps t most (zs.getD k 0) = true) : msL ps t most zs (k + 1) = msL ps t most zs k ++ [zs.getD k 0] := by
  unfold msL; rw [take_next zs k hk, List.filter_append, show List.filter (bdG ps t most) [zs.getD k 0] = [zs.getD k 0] by rw [List.filter_cons, if_pos h]; rfl]
theorem msL_no {ps : List (Nat → Int)} {t most : Int} {zs : List Int} {k : Nat} (hk : k < zs.length) (h : bdG ps t most (zs.getD k 0) = false) : msL ps t most zs (k + 1) = msL ps t most zs k := by
  unfold msL; rw [take_next zs k hk, List.filter_append, show List.filter (bdG ps t most) [zs.getD k 0] = [] by (rw [List.filter_cons, if_neg (by rw [h]; decide)]; rfl), List.append_nil]
theorem msL_len (ps : List (Nat → Int)) (t most : Int) (zs : List Int) (k : Nat) : (msL ps t most zs k).length ≤ zs.length := by
  unfold msL; exact Nat.le_trans (List.length_filter_le _ _) (by simp; omega)
theorem msL_all (ps : List (Nat → Int)) (t most : Int) (zs : List Int) : msL ps t most zs zs.length = zs.filter (bdG ps t most) := by unfold msL; rw [List.take_length]
def errMs (ps : List (Nat → Int)) (t : Int) : Int := if errRow ps ≠ 0 then errRow ps else if t < 0 ∨ 604800 ≤ t then 2 else 0
def msR (ps : List (Nat → Int)) (t most : Int) (zs : List Int) : List Int := if errMs ps t = 0 then zs.filter (bdG ps t most) else []
def LsQ (base : Nat) (L : List Int) (E : Int) (e : Ending) (w' : World) : Prop := ∃ v', e = .returned (.tuple #[v', .int .i64 E]) ∧ RdI w' v' L ∧ Fresh base v'
theorem lsQ_nil (base : Nat) (E : Int) (w' : World) : LsQ base [] E (.returned (.tuple #[.slice none 0 0, .int .i64 E])) w' := ⟨_, rfl, RdI.nil _, Fresh.nil _ _ _⟩
theorem AlMissing_any (ps : List (Nat → Int)) (zs : List Int) (t most : Int) (v vz : Value) (w : World) (hw : WdAt w) (hv : RdG w v ps) (hz : RdI w vz zs) (hzl : zs.length ≤ 1000) :
    Calls Tryd.prog 14 #[v, vz, .int .i64 t, .int .i64 most] w fun e w' => LsQ w.heap.size (msR ps t most zs) (errMs ps t) e w' ∧ Bw w w' := by
  have WH := Lib.hid (fun W hW hV => whole_any ps v W hW hV)
  have HWD := Lib.hid hw
  have HV := Lib.hid hv
  have HZ := Lib.hid hz
  have HW := Lib.hid (Bw.refl w)
  by_cases h1 : errRow ps = 0
  case neg =>
    have HE : errMs ps t = errRow ps := if_pos h1
    have HL : msR ps t most zs = [] := if_neg (by rw [HE]; exact h1)
    rw [HE, HL]
    clear hv hz hw HE HL HZ
    generalize errRow ps = Er at *
    go_enter Tryd.func14, Tryd.ntmps14
    go_wp2_with (first | (go_at_call 35; (with_reducible refine Calls.mono (WH.out _ HWD.out HV.out) ?_); rintro e1 w1 ⟨rfl, hb1⟩; replace HW := Lib.hid (HW.out.trans hb1); clear hb1))
    refine bodyPost_ret (v := .tuple #[.slice none 0 0, .int .i64 Er]) ?_ rfl ⟨lsQ_nil _ _ _, HW.out⟩
    simp [results, Tryd.results14, go_sem]
  rw [h1] at WH
  by_cases h2 : t < 0 ∨ 604800 ≤ t
  · have HE : errMs ps t = 2 := by unfold errMs; rw [if_neg (by simpa using h1), if_pos h2]
    have HL : msR ps t most zs = [] := if_neg (by rw [HE]; decide)
    rw [HE, HL]
    clear hv hz hw HE HL HZ h1
    rcases h2 with h2 | h2
    · go_enter Tryd.func14, Tryd.ntmps14
      go_wp2_with (first | (go_at_call 35; (with_reducible refine Calls.mono (WH.out _ HWD.out HV.out) ?_); rintro e1 w1 ⟨rfl, hb1⟩; replace HW := Lib.hid (HW.out.trans hb1); clear hb1))
      refine bodyPost_ret (v := .tuple #[.slice none 0 0, .int .i64 2]) ?_ rfl ⟨lsQ_nil _ _ _, HW.out⟩
      simp [results, Tryd.results14, go_sem]
    · have h3 : ¬ t < 0 := by omega
      go_enter Tryd.func14, Tryd.ntmps14
      go_wp2_with (first | (go_at_call 35; (with_reducible refine Calls.mono (WH.out _ HWD.out HV.out) ?_); rintro e1 w1 ⟨rfl, hb1⟩; replace HW := Lib.hid (HW.out.trans hb1); clear hb1))
      refine bodyPost_ret (v := .tuple #[.slice none 0 0, .int .i64 2]) ?_ rfl ⟨lsQ_nil _ _ _, HW.out⟩
      simp [results, Tryd.results14, go_sem]
  · have HE : errMs ps t = 0 := by unfold errMs; rw [if_neg (by simpa using h1), if_neg h2]
    have HL : msR ps t most zs = zs.filter (bdG ps t most) := if_pos HE
    rw [HE, HL, ← msL_all]
    have h3 : ¬ t < 0 := by omega
    have h4 : ¬ 604800 ≤ t := by omega
    obtain ⟨hlen, hok, ha⟩ := errRow_zero h1
    have FI := Lib.hid (fun n i hp W hV => find27_any ps (by omega) n i hp v W hV)
    have HEX := Lib.hid (fun n => pos_ex ha n)
    have HA := Lib.hid (And.intro hok ha)
    have BD := Lib.hid (fun x W h => albound_any x t W h)
    have HML := Lib.hid (fun k => msL_len ps t most zs k)
    have HMY := Lib.hid (fun k hk h => msL_yes (ps := ps) (t := t) (most := most) (zs := zs) (k := k) hk h)
    have HMN := Lib.hid (fun k hk h => msL_no (ps := ps) (t := t) (most := most) (zs := zs) (k := k) hk h)
    have HM0 := Lib.hid (msL_zero ps t most zs)
    obtain ⟨a1, c1, rfl⟩ := hv.form
    obtain ⟨a2, c2, rfl⟩ := hz.form
    obtain ⟨m, hm⟩ : ∃ m, ps.length = m := ⟨_, rfl⟩
    obtain ⟨n, hn⟩ : ∃ n, zs.length = n := ⟨_, rfl⟩
    have HPM := Lib.hid hm
    have HZN := Lib.hid hn
    rw [hm] at WH HV FI hlen ⊢
    rw [hn] at HZ hzl HMY HMN HML ⊢
    clear hm hn hv hz hw h1 h2 HE HL hok ha
    generalize hfu : msL ps t most zs = L at HML HMY HMN HM0 ⊢
    clear hfu
    obtain ⟨BB, hB⟩ : ∃ BB, w.heap.size = BB := ⟨_, rfl⟩
    have HB := Lib.hid hB
    clear hB
    go_enter Tryd.func14, Tryd.ntmps14
    go_wp2_with (first | (go_at_call 35; (with_reducible refine Calls.mono (WH.out _ HWD.out HV.out) ?_); rintro e1 w1 ⟨rfl, hb1⟩; replace HW := Lib.hid (HW.out.trans hb1); clear hb1))
    go_loopw [11, 29] (fun s11 s29 wr => ∃ k : Nat, k ≤ n ∧ s29 = .int .i64 k ∧ Hid (Bw w wr) ∧ Hid (wr.ownsRow BB 3 1 s11 (L k).length ((L k).map (Value.int .i64)))) (fun _ s29 _ => n - (intOf s29).toNat)
    case atStart => exact ⟨0, Nat.zero_le _, rfl, HW, Lib.hid (by rw [HM0.out]; exact World.ownsRow_nil _ _ _ _)⟩
    case round =>
      clear HW
      obtain ⟨k, hk, rfl, HW, O1⟩ := hrel
      obtain ⟨wb, rfl⟩ : ∃ wb, wb = wr := ⟨_, rfl⟩
      by_cases hlt : k < n
      · have hkn : (k : Int) < n := by omega
        obtain ⟨b2, o2, c2', hv2, hb2, hz2⟩ := HZ.out.at (by have := HZN.out; omega)
        injection hv2 with e1 e2 e3
        subst e1
        have d1 := HW.out.cell' (hz2 k (by have := HZN.out; omega))
        have HMY1 := Lib.hid (HMY.out k hlt)
        have HMN1 := Lib.hid (HMN.out k hlt)
        clear hz2 e2 e3
        generalize zs.getD k 0 = z at d1 HMY1 HMN1
        obtain ⟨i, hp⟩ := HEX.out z
        have FX := Lib.hid (fun W hV => FI.out z i hp W hV)
        have hip := hp.1
        by_cases hth : i < m ∧ nmG ps i = z
        · rw [show thG ps z i = true from decide_eq_true ⟨by have := HPM.out; omega, hth.2⟩] at FX
          have hbd := bdG_at (t := t) (most := most) HA.out.2 (i := i) (by have := HPM.out; omega) hth.2
          have BX := Lib.hid (fun W => BD.out (ps.getD i fun _ => 0) W (errTm_in (HA.out.1 i (by have := HPM.out; omega)) (by omega) (by omega)))
          obtain ⟨b, o, c', hv1, hb1, hz1⟩ := HV.out.at (by have := HPM.out; omega)
          injection hv1 with e1 e2 e3
          subst e1
          have R := Lib.hid (rg_bw (hz1 i _ (getD_some (by have := HPM.out; omega))) HW.out)
          have hq1 : (i : Int) < m := by omega
          have hq0 : (0 : Int) ≤ i := by omega
          clear hz1 e2 e3 hp hip
          generalize bdQ (ps.getD i fun _ => 0) t = bq at BX hbd
          generalize (ps.getD i fun _ => 0) = x at R BX
          clear hth
          by_cases hq : most < bq
          · have HG := Lib.hid (HMY1.out (hbd.trans (decide_eq_true hq)))
            clear hbd HMN1 HMY1
            go_wp2_with (first | ((with_reducible refine at_load 27 (.tmp 44) ?_); refine wpList_load_pg_w (by rfl) (.tmp 44) rfl b (o + i * 13) (by simp [Act.eval, Act.put]) R.out ?_) | (go_at_call 37; (with_reducible refine Calls.mono (FX.out _ (HV.out.mono HW.out)) ?_); rintro e1 w2 ⟨rfl, hb1⟩; replace O1 := Lib.hid (own_bw O1.out hb1); replace HW := Lib.hid (HW.out.trans hb1); replace R := Lib.hid (rg_bw R.out hb1); clear hb1) | (go_at_call 40; (with_reducible refine Calls.mono (BX.out _) ?_); rintro e1 w2 ⟨rfl, hb1⟩; replace O1 := Lib.hid (own_bw O1.out hb1); replace HW := Lib.hid (HW.out.trans hb1); clear hb1) | (at_builtin; have hba := Bw.alloc (Bw.refl w2) (.cells #[.int .i64 z] 3); replace O1 := Lib.hid (own_bw O1.out hba); replace HW := Lib.hid (HW.out.trans hba); clear hba; refine wpList_append_int1 rfl (.tmp 51) (.tmp 53) _ rfl BB 3 Tryd.underlying22 infoInt _ (L k) z rfl O1.out _ rfl (by simp [go_sem]) (by have := HML.out k; omega) (by have := HW.out.size; have := HB.out; simp only [World.size_alloc] at *; omega) ?_; intro v8 w8 hown hgr; replace HW := Lib.hid (bw_grownN HB.out HW.out O1.out hgr); replace O1 := Lib.hid hown; clear hown hgr))
            go_roundw
            case rel => exact ⟨k + 1, by omega, by go_num, HW, Lib.hid (by rw [HG.out]; exact O1.out)⟩
            case measure => simp [intOf]; omega
          · have HG := Lib.hid (HMN1.out (hbd.trans (decide_eq_false hq)))
            clear hbd HMN1 HMY1
            go_wp2_with (first | ((with_reducible refine at_load 27 (.tmp 44) ?_); refine wpList_load_pg_w (by rfl) (.tmp 44) rfl b (o + i * 13) (by simp [Act.eval, Act.put]) R.out ?_) | (go_at_call 37; (with_reducible refine Calls.mono (FX.out _ (HV.out.mono HW.out)) ?_); rintro e1 w2 ⟨rfl, hb1⟩; replace O1 := Lib.hid (own_bw O1.out hb1); replace HW := Lib.hid (HW.out.trans hb1); replace R := Lib.hid (rg_bw R.out hb1); clear hb1) | (go_at_call 40; (with_reducible refine Calls.mono (BX.out _) ?_); rintro e1 w2 ⟨rfl, hb1⟩; replace O1 := Lib.hid (own_bw O1.out hb1); replace HW := Lib.hid (HW.out.trans hb1); clear hb1))
            go_roundw
            case rel => exact ⟨k + 1, by omega, by go_num, HW, Lib.hid (by rw [HG.out]; exact O1.out)⟩
            case measure => simp [intOf]; omega
        · rw [show thG ps z i = false from decide_eq_false (fun h9 => hth ⟨by have := HPM.out; omega, h9.2⟩)] at FX
          have HG := Lib.hid (HMY1.out (bdG_no (fun j hj he => hth (by
            have := pos_th HA.out.2 hp hj he
            subst this
            exact ⟨by have := HPM.out; omega, he⟩))))
          clear hp hip hth HMN1 HMY1
          go_wp2_with (first | (go_at_call 37; (with_reducible refine Calls.mono (FX.out _ (HV.out.mono HW.out)) ?_); rintro e1 w2 ⟨rfl, hb1⟩; replace O1 := Lib.hid (own_bw O1.out hb1); replace HW := Lib.hid (HW.out.trans hb1); clear hb1) | (at_builtin; have hba := Bw.alloc (Bw.refl w2) (.cells #[.int .i64 z] 3); replace O1 := Lib.hid (own_bw O1.out hba); replace HW := Lib.hid (HW.out.trans hba); clear hba; refine wpList_append_int1 rfl (.tmp 51) (.tmp 53) _ rfl BB 3 Tryd.underlying22 infoInt _ (L k) z rfl O1.out _ rfl (by simp [go_sem]) (by have := HML.out k; omega) (by have := HW.out.size; have := HB.out; simp only [World.size_alloc] at *; omega) ?_; intro v8 w8 hown hgr; replace HW := Lib.hid (bw_grownN HB.out HW.out O1.out hgr); replace O1 := Lib.hid hown; clear hown hgr))
          go_roundw
          case rel => exact ⟨k + 1, by omega, by go_num, HW, Lib.hid (by rw [HG.out]; exact O1.out)⟩
          case measure => simp [intOf]; omega
      · obtain rfl : k = n := by omega
        have hlk := HML.out k
        have HO := Lib.hid (own_rd O1.out (by omega))
        go_wp2
        refine bodyPost_ret (v := .tuple #[_, .int .i64 0]) ?_ rfl ⟨⟨_, rfl, HO.out.1, by rw [HB.out]; exact HO.out.2⟩, HW.out⟩
        simp [results, Tryd.results14, go_sem]
end Go.Proofs.Sky
