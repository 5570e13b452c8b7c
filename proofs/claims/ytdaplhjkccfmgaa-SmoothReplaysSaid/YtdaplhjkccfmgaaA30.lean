/-
  lemmas for the theorems of this claim. No conditions beyond those written in the statements.
-/
import Derived.Test.YtdaplhjkccfmgaaProg
import Derived.Test.YtdaplhjkccfmgaaRG
import Derived.Test.YtdaplhjkccfmgaaApp
import Derived.Test.YtdaplhjkccfmgaaP30b
set_option linter.unusedVariables false
set_option linter.unusedSimpArgs false
set_option linter.unnecessarySimpa false
namespace Go.Proofs.Sky
open Go Go.RowKit Go.Shelf
set_option maxHeartbeats 1000000
theorem indexFuncI_any (f : Int → Bool) (g : Nat) (eg : ∀ args w, (callFunc g args).run Try.prog w = .ok (.enter g args) w)
   (zs : List Int) (v : Value) (w : World)
   (hp : ∀ p ∈ zs, ∀ W, Bw w W → Calls Try.prog g #[.int .i64 p] W fun e w' => e = .returned (.bool (f p)) ∧ Bw W w')
   (hv : RdI w v zs) :
   Calls Try.prog 39 #[v, .func (.func g) #[] #[]] w fun e w' => AnyIdx (zs.any f) e ∧ Bw w w' := by
  obtain ⟨h2, a, cap, rfl, h4⟩ := hv
  obtain ⟨n, hn⟩ : ∃ n, n = zs.length := ⟨_, rfl⟩
  rw [← hn] at h2 ⊢
  have HN := Lib.hid hn; clear hn
  have H4 := Lib.hid h4; clear h4
  have HP := Lib.hid hp; clear hp
  go_enter Try.func39, Try.ntmps39
  go_wp2
  go_loopg [5, 8] n (fun gg _ s8 wr => ∃ kk : Nat, kk ≤ n ∧ n - kk ≤ gg ∧ s8 = .int .i64 kk ∧ Hid (Bw w wr) ∧ Hid (∀ j, j < kk → f (zs.getD j 0) = false))
  case atStart => exact ⟨0, Nat.zero_le _, by omega, rfl, Bw.refl _, fun j hj => absurd hj (Nat.not_lt_zero _)⟩
  case round =>
    obtain ⟨kk, hkk, hg, rfl, hbw, A⟩ := hrel
    by_cases hlt : kk < n
    · have hltz : (kk : Int) < (n : Int) := by omega
      have hq := HN.out
      obtain ⟨b, off, rfl, hb, hc⟩ := H4.out.resolve_left (by intro h; rw [h] at hq; simp at hq; omega)
      have hc1 := hc kk (by omega)
      rw [← hbw.out.cells.1 _ _ hb] at hc1
      have hm := getD_mem zs kk 0 (by omega)
      clear hc H4
      generalize hx : zs.getD kk 0 = x at hc1 hm
      have HX := Lib.hid hx; clear hx hq
      have hcall := HP.out _ hm wr hbw.out
      clear hm HP
      cases hpx : f x with
      | true =>
        rw [hpx] at hcall
        have HPX := Lib.hid hpx; clear hpx
        have HC := Lib.hid hcall; clear hcall
        go_wp2_with (go_at_fn g; refine (HC.out).mono ?_; rintro e w' ⟨rfl, hb2⟩)
        go_ret
        refine ⟨⟨kk, rfl, ?_⟩, Bw.trans hbw.out hb2⟩
        rw [any_of_lt zs f 0 kk (by have := HN.out; omega) (by rw [HX.out]; exact HPX.out)]
        simp
      | false =>
        rw [hpx] at hcall
        have HPX := Lib.hid hpx; clear hpx
        have HC := Lib.hid hcall; clear hcall
        go_wp2_with (go_at_fn g; refine (HC.out).mono ?_; rintro e w' ⟨rfl, hb2⟩)
        go_roundg (n - (kk + 1))
        case measure => omega
        case rel =>
          refine ⟨kk + 1, by omega, by omega, by go_num, Bw.trans hbw.out hb2, fun j hj => ?_⟩
          by_cases e : j = kk
          · subst e
            rw [HX.out]; exact HPX.out
          · exact A.out j (by omega)
    · have hltz : ¬ (kk : Int) < (n : Int) := by omega
      have : kk = n := by omega
      subst this
      go_wp2
      go_ret
      refine ⟨⟨-1, rfl, ?_⟩, hbw.out⟩
      rw [any_none zs f 0 (fun i hi => A.out i (by have := HN.out; omega))]
      rfl
theorem containsFuncI_any (f : Int → Bool) (g : Nat) (eg : ∀ args w, (callFunc g args).run Try.prog w = .ok (.enter g args) w)
   (zs : List Int) (v : Value) (w : World)
   (hp : ∀ p ∈ zs, ∀ W, Bw w W → Calls Try.prog g #[.int .i64 p] W fun e w' => e = .returned (.bool (f p)) ∧ Bw W w')
   (hv : RdI w v zs) :
   Calls Try.prog 33 #[v, .func (.func g) #[] #[]] w fun e w' => e = .returned (.bool (zs.any f)) ∧ Bw w w' := by
  have HC := Lib.hid (indexFuncI_any f g eg zs v w hp hv)
  clear hp hv
  go_enter Try.func33, Try.ntmps33
  go_wp2_with (go_at_call 39; refine (HC.out).mono ?_; rintro e w' ⟨⟨r, rfl, hr⟩, hb2⟩; have HR := Lib.hid hr; clear hr)
  go_ret
  exact ⟨ret_bool HR.out, hb2⟩
theorem farD_any (d : Int) (w : World) : Calls Try.prog 34 #[.int .i64 d] w fun e w' => e = .returned (.bool (farD d)) ∧ Bw w w' := by
  have HF := Lib.hid (show farD d = decide (d < -20000000000000 ∨ 20000000000000 < d) from rfl)
  go_enter Try.func34, Try.ntmps34
  go_wp2
  all_goals (go_ret; exact ⟨ret_bool (by rw [HF.out]; simp; try omega), (by repeat (first | exact Bw.refl _ | assumption | refine Bw.alloc ?_ _ | refine Bw.drew ?_ | refine Bw.trans ?_ (by assumption) | refine Bw.setCell ?_ (by simp; try omega) _))⟩)
theorem Check_any (W L : Int) (ds : List Int) (v : Value) (w : World) (hv : RdI w v ds) : Calls Try.prog 19 #[.agg #[.int .i64 W, .int .i64 L, v]] w fun e w' => e = .returned (.int .i64 (errC W L ds)) ∧ Bw w w' := by
  have HV := Lib.hid hv
  have hlen := hv.1
  obtain ⟨ad, cap, rfl⟩ := hv.form
  clear hv
  by_cases hw : wl W L
  · by_cases hl : W < ds.length
    · have HE := Lib.hid (errC_long hw hl)
      obtain ⟨h1, h2, h3, h4⟩ := hw
      go_enter Try.func19, Try.ntmps19
      go_wp2
      go_ret
      exact ⟨ret_int HE.out.symm, (by repeat (first | exact Bw.refl _ | assumption | refine Bw.alloc ?_ _ | refine Bw.drew ?_ | refine Bw.trans ?_ (by assumption) | refine Bw.setCell ?_ (by simp; try omega) _))⟩
    · have HE := Lib.hid (errC_far hw hl)
      have HC := Lib.hid (fun W' hW => containsFuncI_any farD 34 (enters_of Try.func34 (by kernel_rfl) rfl) ds (.slice ad ds.length cap) W' (fun p _ W2 _ => farD_any p W2) hW)
      obtain ⟨h1, h2, h3, h4⟩ := hw
      cases ha : ds.any farD with
      | true =>
        rw [ha] at HC HE
        clear ha
        go_enter Try.func19, Try.ntmps19
        go_wp2_with (go_at_call 33; refine (HC.out _ (HV.out.mono (by repeat (first | exact Bw.refl _ | assumption | refine Bw.alloc ?_ _ | refine Bw.drew ?_ | refine Bw.trans ?_ (by assumption) | refine Bw.setCell ?_ (by simp; try omega) _)))).mono ?_; rintro e w' ⟨rfl, hb⟩; obtain ⟨hcc, hff⟩ := Bw.cells hb; have hsz := Bw.size hb; try (have hz0 : w.heap.size < w'.heap.size := by (try simp at hsz); omega); try (have hz1 : w.heap.size + 1 < w'.heap.size := by (try simp at hsz); omega); try (have hz2 : w.heap.size + 1 + 1 < w'.heap.size := by (try simp at hsz); omega); try (have hz3 : w.heap.size + 1 + 1 + 1 < w'.heap.size := by (try simp at hsz); omega); try (have hz4 : w.heap.size + 1 + 1 + 1 + 1 < w'.heap.size := by (try simp at hsz); omega); try (have hzr : wr.heap.size < w'.heap.size := by (try simp at hsz); omega); try (have hzr1 : wr.heap.size + 1 < w'.heap.size := by (try simp at hsz); omega))
        go_ret
        exact ⟨ret_int HE.out.symm, (by repeat (first | exact Bw.refl _ | assumption | refine Bw.alloc ?_ _ | refine Bw.drew ?_ | refine Bw.trans ?_ (by assumption) | refine Bw.setCell ?_ (by simp; try omega) _))⟩
      | false =>
        rw [ha] at HC HE
        clear ha
        go_enter Try.func19, Try.ntmps19
        go_wp2_with (go_at_call 33; refine (HC.out _ (HV.out.mono (by repeat (first | exact Bw.refl _ | assumption | refine Bw.alloc ?_ _ | refine Bw.drew ?_ | refine Bw.trans ?_ (by assumption) | refine Bw.setCell ?_ (by simp; try omega) _)))).mono ?_; rintro e w' ⟨rfl, hb⟩; obtain ⟨hcc, hff⟩ := Bw.cells hb; have hsz := Bw.size hb; try (have hz0 : w.heap.size < w'.heap.size := by (try simp at hsz); omega); try (have hz1 : w.heap.size + 1 < w'.heap.size := by (try simp at hsz); omega); try (have hz2 : w.heap.size + 1 + 1 < w'.heap.size := by (try simp at hsz); omega); try (have hz3 : w.heap.size + 1 + 1 + 1 < w'.heap.size := by (try simp at hsz); omega); try (have hz4 : w.heap.size + 1 + 1 + 1 + 1 < w'.heap.size := by (try simp at hsz); omega); try (have hzr : wr.heap.size < w'.heap.size := by (try simp at hsz); omega); try (have hzr1 : wr.heap.size + 1 < w'.heap.size := by (try simp at hsz); omega))
        go_ret
        exact ⟨ret_int HE.out.symm, (by repeat (first | exact Bw.refl _ | assumption | refine Bw.alloc ?_ _ | refine Bw.drew ?_ | refine Bw.trans ?_ (by assumption) | refine Bw.setCell ?_ (by simp; try omega) _))⟩
  · have HE := Lib.hid (errC_bad ds hw)
    have HN := Lib.hid hw; clear hw
    go_enter Try.func19, Try.ntmps19
    go_wp2
    all_goals first | (exfalso; have h := HN.out; unfold wl at h; omega) | (go_ret; exact ⟨ret_int HE.out.symm, (by repeat (first | exact Bw.refl _ | assumption | refine Bw.alloc ?_ _ | refine Bw.drew ?_ | refine Bw.trans ?_ (by assumption) | refine Bw.setCell ?_ (by simp; try omega) _))⟩)
end Go.Proofs.Sky
