/-
  lemmas for the theorems of this claim. No conditions beyond those written in the statements.
-/
import Derived.Test.YtdaplhjkccfmgaaA30
set_option linter.unusedVariables false
set_option linter.unusedSimpArgs false
set_option linter.unnecessarySimpa false
namespace Go.Proofs.Sky
open Go Go.RowKit Go.Shelf
set_option maxHeartbeats 1000000
theorem limits_any (W L : Int) (w : World) : Calls Try.prog 32 #[.int .i64 W, .int .i64 L] w fun e w' => e = .returned (.bool (okL W L)) ∧ Bw w w' := by
  have HF := Lib.hid (show okL W L = decide (1 ≤ W ∧ W ≤ 100 ∧ 0 ≤ L ∧ L ≤ 1000000000) from rfl)
  go_enter Try.func32, Try.ntmps32
  go_wp2
  all_goals (go_ret; exact ⟨ret_bool (by rw [HF.out, Bool.eq_iff_iff]; simp; try omega), (by repeat (first | exact Bw.refl _ | assumption | refine Bw.alloc ?_ _ | refine Bw.drew ?_ | refine Bw.trans ?_ (by assumption) | refine Bw.setCell ?_ (by simp; try omega) _))⟩)
theorem within_any (x n : Int) (h0 : 0 ≤ n) (h1 : n ≤ 1000000000000000) (w : World) : Calls Try.prog 30 #[.int .i64 x, .int .i64 n] w fun e w' => e = .returned (.bool (inN x n)) ∧ Bw w w' := by
  have HF := Lib.hid (show inN x n = decide (-n ≤ x ∧ x ≤ n) from rfl)
  go_enter Try.func30, Try.ntmps30
  go_wp2
  all_goals (go_ret; exact ⟨ret_bool (by rw [HF.out, Bool.eq_iff_iff]; simp; try omega), (by repeat (first | exact Bw.refl _ | assumption | refine Bw.alloc ?_ _ | refine Bw.drew ?_ | refine Bw.trans ?_ (by assumption) | refine Bw.setCell ?_ (by simp; try omega) _))⟩)
theorem right_any (p f : Int) (w : World) : Calls Try.prog 26 #[.int .i64 p, .int .i64 f] w fun e w' => e = .returned (.bool (inN p 10000000000000 && inN f 10000000000000)) ∧ Bw w w' := by
  have HF := Lib.hid (show (inN p 10000000000000 && inN f 10000000000000) = (decide (-10000000000000 ≤ p ∧ p ≤ 10000000000000) && decide (-10000000000000 ≤ f ∧ f ≤ 10000000000000)) from rfl)
  go_enter Try.func26, Try.ntmps26
  go_wp2
  all_goals (go_ret; exact ⟨ret_bool (by rw [HF.out, Bool.eq_iff_iff]; simp; try omega), (by repeat (first | exact Bw.refl _ | assumption | refine Bw.alloc ?_ _ | refine Bw.drew ?_ | refine Bw.trans ?_ (by assumption) | refine Bw.setCell ?_ (by simp; try omega) _))⟩)
theorem farD_inN (d : Int) : inN d 20000000000000 = ! farD d := by
  unfold inN farD; rw [Bool.eq_iff_iff]; simp <;> omega
theorem RCheck_any (W L : Int) (ds : List Int) (v : Value) (w : World) (hv : RdI w v ds) : Calls Try.prog 20 #[.agg #[.int .i64 W, .int .i64 L, v]] w fun e w' => e = .returned (.int .i64 (errC W L ds)) ∧ Bw w w' := by
  have HV := Lib.hid hv
  have HLm := Lib.hid (fun w => limits_any W L w)
  by_cases hw : wl W L
  · have ho : okL W L = true := by unfold okL; simpa [wl] using hw
    rw [ho] at HLm
    clear ho
    by_cases hl : W < ds.length
    · have HE := Lib.hid (errC_long hw hl)
      obtain ⟨ad, cap, rfl⟩ := hv.form
      clear hv
      obtain ⟨h1, h2, h3, h4⟩ := hw
      go_enter Try.func20, Try.ntmps20
      go_wp2_with (go_at_call 32; refine (HLm.out _).mono ?_; rintro e w' ⟨rfl, hb⟩; obtain ⟨hcc, hff⟩ := Bw.cells hb; have hsz := Bw.size hb; try (have hz0 : w.heap.size < w'.heap.size := by (try simp at hsz); omega); try (have hz1 : w.heap.size + 1 < w'.heap.size := by (try simp at hsz); omega); try (have hz2 : w.heap.size + 1 + 1 < w'.heap.size := by (try simp at hsz); omega); try (have hz3 : w.heap.size + 1 + 1 + 1 < w'.heap.size := by (try simp at hsz); omega); try (have hz4 : w.heap.size + 1 + 1 + 1 + 1 < w'.heap.size := by (try simp at hsz); omega); try (have hzr : wr.heap.size < w'.heap.size := by (try simp at hsz); omega); try (have hzr1 : wr.heap.size + 1 < w'.heap.size := by (try simp at hsz); omega))
      go_ret
      exact ⟨ret_int HE.out.symm, (by repeat (first | exact Bw.refl _ | assumption | refine Bw.alloc ?_ _ | refine Bw.drew ?_ | refine Bw.trans ?_ (by assumption) | refine Bw.setCell ?_ (by simp; try omega) _))⟩
    · have HE := Lib.hid (errC_far hw hl)
      have HWI := Lib.hid (fun x w => within_any x 20000000000000 (by omega) (by omega) w)
      obtain ⟨hlen, ad, cap, rfl, hz⟩ := hv
      have HZ := Lib.hid hz; clear hz
      obtain ⟨n, hn⟩ : ∃ n, ds.length = n := ⟨_, rfl⟩
      rw [hn] at hl hlen ⊢
      have HN := Lib.hid hn; clear hn
      obtain ⟨h1, h2, h3, h4⟩ := hw
      go_enter Try.func20, Try.ntmps20
      go_wp2_with (go_at_call 32; refine (HLm.out _).mono ?_; rintro e w' ⟨rfl, hb⟩; obtain ⟨hcc, hff⟩ := Bw.cells hb; have hsz := Bw.size hb; try (have hz0 : w.heap.size < w'.heap.size := by (try simp at hsz); omega); try (have hz1 : w.heap.size + 1 < w'.heap.size := by (try simp at hsz); omega); try (have hz2 : w.heap.size + 1 + 1 < w'.heap.size := by (try simp at hsz); omega); try (have hz3 : w.heap.size + 1 + 1 + 1 < w'.heap.size := by (try simp at hsz); omega); try (have hz4 : w.heap.size + 1 + 1 + 1 + 1 < w'.heap.size := by (try simp at hsz); omega); try (have hzr : wr.heap.size < w'.heap.size := by (try simp at hsz); omega); try (have hzr1 : wr.heap.size + 1 < w'.heap.size := by (try simp at hsz); omega))
      have hbw : Bw w w' := (by repeat (first | exact Bw.refl _ | assumption | refine Bw.alloc ?_ _ | refine Bw.drew ?_ | refine Bw.trans ?_ (by assumption) | refine Bw.setCell ?_ (by simp; try omega) _))
      have k0 : w'.cell? ⟨w.heap.size, 2, none⟩ = some (.slice ad n cap) := by simp [*, go_sem]
      clear hcc hff hb
      go_loopw [3] (fun i wr => ∃ k : Nat, k ≤ n ∧ i = .int .i64 k ∧ Bw w wr ∧ wr.cell? ⟨w.heap.size, 2, none⟩ = some (.slice ad n cap) ∧ Hid (∀ j, j < k → farD (ds.getD j 0) = false)) (fun i _ => n - (intOf i).toNat)
      case atStart => exact ⟨0, Nat.zero_le _, rfl, hbw, k0, fun j hj => absurd hj (Nat.not_lt_zero _)⟩
      case round =>
        obtain ⟨k, hk, rfl, hbr, kr, HA⟩ := hrel
        by_cases hlt : k < n
        · have hq := HN.out
          obtain ⟨b, off, rfl, hb, hc⟩ := HZ.out.resolve_left (by intro h; rw [h] at hq; simp at hq; omega)
          have hc1 := hbr.cell' (hc k (by omega))
          have HS := Lib.hid (show farD (ds.getD k 0) = false → ∀ j, j < k + 1 → farD (ds.getD j 0) = false from fun h j hj => by
            rcases Nat.lt_succ_iff_lt_or_eq.1 hj with h' | rfl
            · exact HA.out j h'
            · exact h)
          have HF := Lib.hid (fun h : farD (ds.getD k 0) = true => any_of_lt ds farD 0 k (by omega) h)
          generalize ds.getD k 0 = x at hc1 HS HF
          have hki : (k : Int) < n := by omega
          have HWX := Lib.hid (fun w => HWI.out x w)
          clear hc hq
          cases hx : farD x with
          | true =>
            rw [farD_inN, hx] at HWX
            have HAN := Lib.hid (HF.out hx)
            clear hx HF HS
            go_wp2_with (go_at_call 30; refine (HWX.out _).mono ?_; rintro e w' ⟨rfl, hb⟩; obtain ⟨hcc, hff⟩ := Bw.cells hb; have hsz := Bw.size hb; try (have hz0 : w.heap.size < w'.heap.size := by (try simp at hsz); omega); try (have hz1 : w.heap.size + 1 < w'.heap.size := by (try simp at hsz); omega); try (have hz2 : w.heap.size + 1 + 1 < w'.heap.size := by (try simp at hsz); omega); try (have hz3 : w.heap.size + 1 + 1 + 1 < w'.heap.size := by (try simp at hsz); omega); try (have hz4 : w.heap.size + 1 + 1 + 1 + 1 < w'.heap.size := by (try simp at hsz); omega); try (have hzr : wr.heap.size < w'.heap.size := by (try simp at hsz); omega); try (have hzr1 : wr.heap.size + 1 < w'.heap.size := by (try simp at hsz); omega))
            go_ret
            exact ⟨by rw [HE.out, HAN.out]; exact ret_int rfl, Bw.trans hbr hb⟩
          | false =>
            rw [farD_inN, hx] at HWX
            have HSS := Lib.hid (HS.out hx)
            clear hx HF HS
            go_wp2_with (go_at_call 30; refine (HWX.out _).mono ?_; rintro e w' ⟨rfl, hb⟩; obtain ⟨hcc, hff⟩ := Bw.cells hb; have hsz := Bw.size hb; try (have hz0 : w.heap.size < w'.heap.size := by (try simp at hsz); omega); try (have hz1 : w.heap.size + 1 < w'.heap.size := by (try simp at hsz); omega); try (have hz2 : w.heap.size + 1 + 1 < w'.heap.size := by (try simp at hsz); omega); try (have hz3 : w.heap.size + 1 + 1 + 1 < w'.heap.size := by (try simp at hsz); omega); try (have hz4 : w.heap.size + 1 + 1 + 1 + 1 < w'.heap.size := by (try simp at hsz); omega); try (have hzr : wr.heap.size < w'.heap.size := by (try simp at hsz); omega); try (have hzr1 : wr.heap.size + 1 < w'.heap.size := by (try simp at hsz); omega))
            go_roundw
            case rel => exact ⟨k + 1, by omega, by go_num, Bw.trans hbr hb, Bw.cell' hb kr, HSS.out⟩
            case measure => simp [intOf]; omega
        · obtain rfl : k = n := by omega
          have HAN := Lib.hid (any_none ds farD 0 (fun i hi => HA.out i (by have := HN.out; omega)))
          clear HA
          go_wp2
          go_ret
          exact ⟨by rw [HE.out, HAN.out]; exact ret_int rfl, hbr⟩
  · have ho : okL W L = false := by unfold okL; simpa [wl] using hw
    rw [ho] at HLm
    have HE := Lib.hid (errC_bad ds hw)
    obtain ⟨ad, cap, rfl⟩ := hv.form
    clear hw ho hv
    go_enter Try.func20, Try.ntmps20
    go_wp2_with (go_at_call 32; refine (HLm.out _).mono ?_; rintro e w' ⟨rfl, hb⟩; obtain ⟨hcc, hff⟩ := Bw.cells hb; have hsz := Bw.size hb; try (have hz0 : w.heap.size < w'.heap.size := by (try simp at hsz); omega); try (have hz1 : w.heap.size + 1 < w'.heap.size := by (try simp at hsz); omega); try (have hz2 : w.heap.size + 1 + 1 < w'.heap.size := by (try simp at hsz); omega); try (have hz3 : w.heap.size + 1 + 1 + 1 < w'.heap.size := by (try simp at hsz); omega); try (have hz4 : w.heap.size + 1 + 1 + 1 + 1 < w'.heap.size := by (try simp at hsz); omega); try (have hzr : wr.heap.size < w'.heap.size := by (try simp at hsz); omega); try (have hzr1 : wr.heap.size + 1 < w'.heap.size := by (try simp at hsz); omega))
    go_ret
    exact ⟨ret_int HE.out.symm, (by repeat (first | exact Bw.refl _ | assumption | refine Bw.alloc ?_ _ | refine Bw.drew ?_ | refine Bw.trans ?_ (by assumption) | refine Bw.setCell ?_ (by simp; try omega) _))⟩
theorem cells_set3 {w : World} {b : Nat} {x0 x1 x2 : Value} (h0 : w.cell? ⟨b, 0, none⟩ = some x0) (h1 : w.cell? ⟨b, 1, none⟩ = some x1) (h2 : w.cell? ⟨b, 2, none⟩ = some x2) (y0 y1 y2 : Value) :
    let W := ((w.setCell ⟨b, 0, none⟩ y0).setCell ⟨b, 1, none⟩ y1).setCell ⟨b, 2, none⟩ y2
    W.cell? ⟨b, 0, none⟩ = some y0 ∧ W.cell? ⟨b, 1, none⟩ = some y1 ∧ W.cell? ⟨b, 2, none⟩ = some y2 :=
  ⟨by rw [cell_set_off _ _ _ _ _ (by omega), cell_set_off _ _ _ _ _ (by omega)]; exact cell_set_same _ _ _ _ h0,
   by rw [cell_set_off _ _ _ _ _ (by omega)]; exact cell_set_same _ _ _ _ (by rw [cell_set_off _ _ _ _ _ (by omega)]; exact h1),
   cell_set_same _ _ _ _ (by rw [cell_set_off _ _ _ _ _ (by omega), cell_set_off _ _ _ _ _ (by omega)]; exact h2)⟩
def NewP (W L : Int) (e : Ending) : Prop := e = .returned (.tuple #[.agg #[.int .i64 (if okL W L then W else 0), .int .i64 (if okL W L then L else 0), .slice none 0 0], .int .i64 (if okL W L then 0 else 2)])
theorem newP_ok {W L : Int} (h : wl W L) : NewP W L = fun e => e = .returned (.tuple #[.agg #[.int .i64 W, .int .i64 L, .slice none 0 0], .int .i64 0]) := by
  have ho : okL W L = true := by unfold okL; simpa [wl] using h
  unfold NewP; rw [ho]; rfl
theorem newP_no {W L : Int} (h : ¬ wl W L) : NewP W L = fun e => e = .returned (.tuple #[.agg #[.int .i64 0, .int .i64 0, .slice none 0 0], .int .i64 2]) := by
  have ho : okL W L = false := by unfold okL; simpa [wl] using h
  unfold NewP; rw [ho]; rfl
theorem New_any (W L : Int) (w : World) : Calls Try.prog 16 #[.int .i64 W, .int .i64 L] w fun e w' => NewP W L e ∧ Bw w w' := by
  have HC := Lib.hid (fun W' => Check_any W L [] (.slice none 0 0) W' (RdI.nil W'))
  by_cases hw : wl W L
  · have h0 : errC W L [] = 0 := by rw [errC_far hw (by have := hw.1; simp; omega)]; rfl
    rw [h0] at HC
    have HP := Lib.hid (newP_ok hw)
    clear h0 hw
    go_enter Try.func16, Try.ntmps16
    go_wp2_with (go_at_call 19; refine (HC.out _).mono ?_; rintro e w' ⟨rfl, hb⟩; obtain ⟨hcc, hff⟩ := Bw.cells hb; have hsz := Bw.size hb; try (have hz0 : w.heap.size < w'.heap.size := by (try simp at hsz); omega); try (have hz1 : w.heap.size + 1 < w'.heap.size := by (try simp at hsz); omega); try (have hz2 : w.heap.size + 1 + 1 < w'.heap.size := by (try simp at hsz); omega); try (have hz3 : w.heap.size + 1 + 1 + 1 < w'.heap.size := by (try simp at hsz); omega); try (have hz4 : w.heap.size + 1 + 1 + 1 + 1 < w'.heap.size := by (try simp at hsz); omega); try (have hzr : wr.heap.size < w'.heap.size := by (try simp at hsz); omega); try (have hzr1 : wr.heap.size + 1 < w'.heap.size := by (try simp at hsz); omega))
    have hF := cells_set3 (w := w') (b := w.heap.size) (x0 := .int .i64 0) (x1 := .int .i64 0) (x2 := .slice none 0 0) (by simp [*, go_sem]) (by simp [*, go_sem]) (by simp [*, go_sem]) (.int .i64 W) (.int .i64 L) (.slice none 0 0)
    refine bodyPost_ret (v := .tuple #[.agg #[.int .i64 W, .int .i64 L, .slice none 0 0], .int .i64 0]) ?_ rfl ⟨?_, ?_⟩
    · simp [results, Try.results16, go_sem, hF.1, hF.2.1, hF.2.2]
    · rw [HP.out]
    · exact (by repeat (first | exact Bw.refl _ | assumption | refine Bw.alloc ?_ _ | refine Bw.drew ?_ | refine Bw.trans ?_ (by assumption) | refine Bw.setCell ?_ (by simp; try omega) _))
  · have h0 : errC W L [] = 2 := errC_bad _ hw
    rw [h0] at HC
    have HP := Lib.hid (newP_no hw)
    clear h0 hw
    go_enter Try.func16, Try.ntmps16
    go_wp2_with (go_at_call 19; refine (HC.out _).mono ?_; rintro e w' ⟨rfl, hb⟩; obtain ⟨hcc, hff⟩ := Bw.cells hb; have hsz := Bw.size hb; try (have hz0 : w.heap.size < w'.heap.size := by (try simp at hsz); omega); try (have hz1 : w.heap.size + 1 < w'.heap.size := by (try simp at hsz); omega); try (have hz2 : w.heap.size + 1 + 1 < w'.heap.size := by (try simp at hsz); omega); try (have hz3 : w.heap.size + 1 + 1 + 1 < w'.heap.size := by (try simp at hsz); omega); try (have hz4 : w.heap.size + 1 + 1 + 1 + 1 < w'.heap.size := by (try simp at hsz); omega); try (have hzr : wr.heap.size < w'.heap.size := by (try simp at hsz); omega); try (have hzr1 : wr.heap.size + 1 < w'.heap.size := by (try simp at hsz); omega))
    have hF := cells_set3 (w := w') (b := w.heap.size) (x0 := .int .i64 0) (x1 := .int .i64 0) (x2 := .slice none 0 0) (by simp [*, go_sem]) (by simp [*, go_sem]) (by simp [*, go_sem]) (.int .i64 0) (.int .i64 0) (.slice none 0 0)
    refine bodyPost_ret (v := .tuple #[.agg #[.int .i64 0, .int .i64 0, .slice none 0 0], .int .i64 2]) ?_ rfl ⟨?_, ?_⟩
    · simp [results, Try.results16, go_sem, hF.1, hF.2.1, hF.2.2]
    · rw [HP.out]
    · exact (by repeat (first | exact Bw.refl _ | assumption | refine Bw.alloc ?_ _ | refine Bw.drew ?_ | refine Bw.trans ?_ (by assumption) | refine Bw.setCell ?_ (by simp; try omega) _))
theorem RNew_any (W L : Int) (w : World) : Calls Try.prog 17 #[.int .i64 W, .int .i64 L] w fun e w' => NewP W L e ∧ Bw w w' := by
  have HLm := Lib.hid (fun w => limits_any W L w)
  by_cases hw : wl W L
  · have ho : okL W L = true := by unfold okL; simpa [wl] using hw
    rw [ho] at HLm
    have HP := Lib.hid (newP_ok hw)
    clear ho hw
    go_enter Try.func17, Try.ntmps17
    go_wp2_with (go_at_call 32; refine (HLm.out _).mono ?_; rintro e w' ⟨rfl, hb⟩; obtain ⟨hcc, hff⟩ := Bw.cells hb; have hsz := Bw.size hb; try (have hz0 : w.heap.size < w'.heap.size := by (try simp at hsz); omega); try (have hz1 : w.heap.size + 1 < w'.heap.size := by (try simp at hsz); omega); try (have hz2 : w.heap.size + 1 + 1 < w'.heap.size := by (try simp at hsz); omega); try (have hz3 : w.heap.size + 1 + 1 + 1 < w'.heap.size := by (try simp at hsz); omega); try (have hz4 : w.heap.size + 1 + 1 + 1 + 1 < w'.heap.size := by (try simp at hsz); omega); try (have hzr : wr.heap.size < w'.heap.size := by (try simp at hsz); omega); try (have hzr1 : wr.heap.size + 1 < w'.heap.size := by (try simp at hsz); omega))
    have hF := cells_set3 (w := w') (b := w.heap.size) (x0 := .int .i64 0) (x1 := .int .i64 0) (x2 := .slice none 0 0) (by simp [*, go_sem]) (by simp [*, go_sem]) (by simp [*, go_sem]) (.int .i64 W) (.int .i64 L) (.slice none 0 0)
    refine bodyPost_ret (v := .tuple #[.agg #[.int .i64 W, .int .i64 L, .slice none 0 0], .int .i64 0]) ?_ rfl ⟨?_, ?_⟩
    · simp [results, Try.results17, go_sem, hF.1, hF.2.1, hF.2.2]
    · rw [HP.out]
    · exact (by repeat (first | exact Bw.refl _ | assumption | refine Bw.alloc ?_ _ | refine Bw.drew ?_ | refine Bw.trans ?_ (by assumption) | refine Bw.setCell ?_ (by simp; try omega) _))
  · have ho : okL W L = false := by unfold okL; simpa [wl] using hw
    rw [ho] at HLm
    have HP := Lib.hid (newP_no hw)
    clear ho hw
    go_enter Try.func17, Try.ntmps17
    go_wp2_with (go_at_call 32; refine (HLm.out _).mono ?_; rintro e w' ⟨rfl, hb⟩; obtain ⟨hcc, hff⟩ := Bw.cells hb; have hsz := Bw.size hb; try (have hz0 : w.heap.size < w'.heap.size := by (try simp at hsz); omega); try (have hz1 : w.heap.size + 1 < w'.heap.size := by (try simp at hsz); omega); try (have hz2 : w.heap.size + 1 + 1 < w'.heap.size := by (try simp at hsz); omega); try (have hz3 : w.heap.size + 1 + 1 + 1 < w'.heap.size := by (try simp at hsz); omega); try (have hz4 : w.heap.size + 1 + 1 + 1 + 1 < w'.heap.size := by (try simp at hsz); omega); try (have hzr : wr.heap.size < w'.heap.size := by (try simp at hsz); omega); try (have hzr1 : wr.heap.size + 1 < w'.heap.size := by (try simp at hsz); omega))
    have hF := cells_set3 (w := w') (b := w.heap.size) (x0 := .int .i64 0) (x1 := .int .i64 0) (x2 := .slice none 0 0) (by simp [*, go_sem]) (by simp [*, go_sem]) (by simp [*, go_sem]) (.int .i64 0) (.int .i64 0) (.slice none 0 0)
    refine bodyPost_ret (v := .tuple #[.agg #[.int .i64 0, .int .i64 0, .slice none 0 0], .int .i64 2]) ?_ rfl ⟨?_, ?_⟩
    · simp [results, Try.results17, go_sem, hF.1, hF.2.1, hF.2.2]
    · rw [HP.out]
    · exact (by repeat (first | exact Bw.refl _ | assumption | refine Bw.alloc ?_ _ | refine Bw.drew ?_ | refine Bw.trans ?_ (by assumption) | refine Bw.setCell ?_ (by simp; try omega) _))
end Go.Proofs.Sky
