/-
  lemmas for the theorems of this claim. No conditions beyond those written in the statements.
-/
import Derived.Test.YtmndialneggbjaaG21
set_option linter.unusedVariables false
set_option linter.unusedSimpArgs false
set_option linter.unnecessarySimpa false
namespace Go.Proofs.Sky
open Go Go.RowKit Go.Shelf
set_option maxHeartbeats 2000000
theorem indexFuncS_any (f : Int × Int → Bool) (g : Nat) (eg : ∀ args w, (callFunc g args).run Try.prog w = .ok (.enter g args) w)
   (zs : List (Int × Int)) (v : Value) (w : World)
   (hp : ∀ p ∈ zs, ∀ W, Bw w W → Calls Try.prog g #[.agg #[.int .i64 p.1, .int .i64 p.2]] W fun e w' => e = .returned (.bool (f p)) ∧ Bw W w')
   (hv : RdS w v zs) :
   Calls Try.prog 40 #[v, .func (.func g) #[] #[]] w fun e w' => AnyIdx (zs.any f) e ∧ Bw w w' := by
  obtain ⟨h2, a, cap, rfl, h4⟩ := hv
  obtain ⟨n, hn⟩ : ∃ n, n = zs.length := ⟨_, rfl⟩
  rw [← hn] at h2 ⊢
  have HN := Lib.hid hn; clear hn
  have H4 := Lib.hid h4; clear h4
  have HP := Lib.hid hp; clear hp
  go_enter Try.func40, Try.ntmps40
  go_wp2
  go_loopg [5, 8] n (fun gg _ s8 wr => ∃ kk : Nat, kk ≤ n ∧ n - kk ≤ gg ∧ s8 = .int .i64 kk ∧ Hid (Bw w wr) ∧ Hid (∀ j, j < kk → f (zs.getD j (0, 0)) = false))
  case atStart => exact ⟨0, Nat.zero_le _, by omega, rfl, Bw.refl _, fun j hj => absurd hj (Nat.not_lt_zero _)⟩
  case round =>
    obtain ⟨kk, hkk, hg, rfl, hbw, A⟩ := hrel
    by_cases hlt : kk < n
    · have hltz : (kk : Int) < (n : Int) := by omega
      have hq := HN.out
      obtain ⟨b, off, rfl, hb, hc⟩ := H4.out.resolve_left (by intro h; rw [h] at hq; simp at hq; omega)
      obtain ⟨hc1, hc2⟩ := hc kk (by omega)
      rw [← hbw.out.cells.1 _ _ hb] at hc1 hc2
      have hm := getD_mem zs kk (0, 0) (by omega)
      clear hc H4
      generalize hx : zs.getD kk (0, 0) = x at hc1 hc2 hm
      have HX := Lib.hid hx; clear hx hq
      have hcall := HP.out _ hm wr hbw.out
      clear hm HP
      cases hpx : f x with
      | true =>
        rw [hpx] at hcall
        have HPX := Lib.hid hpx; clear hpx
        have HC := Lib.hid hcall; clear hcall
        go_wp2_with (go_at_fn g; refine (HC.out).mono ?_; rintro e w' ⟨rfl, hb2⟩)
        go_ret
        refine ⟨⟨kk, rfl, ?_⟩, Bw.trans hbw.out hb2⟩
        rw [any_of_lt zs f (0, 0) kk (by have := HN.out; omega) (by rw [HX.out]; exact HPX.out)]
        simp
      | false =>
        rw [hpx] at hcall
        have HPX := Lib.hid hpx; clear hpx
        have HC := Lib.hid hcall; clear hcall
        go_wp2_with (go_at_fn g; refine (HC.out).mono ?_; rintro e w' ⟨rfl, hb2⟩)
        go_roundg (n - (kk + 1))
        case measure => omega
        case rel =>
          refine ⟨kk + 1, by omega, by omega, by go_num, Bw.trans hbw.out hb2, fun j hj => ?_⟩
          by_cases e : j = kk
          · subst e
            rw [HX.out]; exact HPX.out
          · exact A.out j (by omega)
    · have hltz : ¬ (kk : Int) < (n : Int) := by omega
      have : kk = n := by omega
      subst this
      go_wp2
      go_ret
      refine ⟨⟨-1, rfl, ?_⟩, hbw.out⟩
      rw [any_none zs f (0, 0) (fun i hi => A.out i (by have := HN.out; omega))]
      rfl
theorem containsFuncS_any (f : Int × Int → Bool) (g : Nat) (eg : ∀ args w, (callFunc g args).run Try.prog w = .ok (.enter g args) w)
   (zs : List (Int × Int)) (v : Value) (w : World)
   (hp : ∀ p ∈ zs, ∀ W, Bw w W → Calls Try.prog g #[.agg #[.int .i64 p.1, .int .i64 p.2]] W fun e w' => e = .returned (.bool (f p)) ∧ Bw W w')
   (hv : RdS w v zs) :
   Calls Try.prog 30 #[v, .func (.func g) #[] #[]] w fun e w' => e = .returned (.bool (zs.any f)) ∧ Bw w w' := by
  have HC := Lib.hid (indexFuncS_any f g eg zs v w hp hv)
  clear hp hv
  go_enter Try.func30, Try.ntmps30
  go_wp2_with (go_at_call 40; refine (HC.out).mono ?_; rintro e w' ⟨⟨r, rfl, hr⟩, hb2⟩; have HR := Lib.hid hr; clear hr)
  go_ret
  exact ⟨ret_bool HR.out, hb2⟩
theorem outside_any (x y : Int) (w : World) : Calls Try.prog 31 #[.agg #[.int .i64 x, .int .i64 y]] w fun e w' => e = .returned (.bool (!insP (x, y))) ∧ Bw w w' := by
  have HI := Lib.hid (fun W => inside_any x y W)
  generalize insP (x, y) = b at HI ⊢
  go_enter Try.func31, Try.ntmps31
  go_wp2_with (go_at_call 32; refine (HI.out _).mono ?_; rintro e w' ⟨rfl, hb⟩; obtain ⟨hcc, hff⟩ := Bw.cells hb; have hsz := Bw.size hb; try (have hz0 : w.heap.size < w'.heap.size := by (try simp at hsz); omega); try (have hz1 : w.heap.size + 1 < w'.heap.size := by (try simp at hsz); omega); try (have hz2 : w.heap.size + 1 + 1 < w'.heap.size := by (try simp at hsz); omega); try (have hz3 : w.heap.size + 1 + 1 + 1 < w'.heap.size := by (try simp at hsz); omega); try (have hz4 : w.heap.size + 1 + 1 + 1 + 1 < w'.heap.size := by (try simp at hsz); omega); try (have hzr : wr.heap.size < w'.heap.size := by (try simp at hsz); omega); try (have hzr1 : wr.heap.size + 1 < w'.heap.size := by (try simp at hsz); omega))
  go_ret
  exact ⟨rfl, (by repeat (first | exact Bw.refl _ | assumption | refine Bw.alloc ?_ _ | refine Bw.drew ?_ | refine Bw.trans ?_ (by assumption) | refine Bw.setCell ?_ (by simp; try omega) _))⟩
theorem someOut_any (zs : List (Int × Int)) (v : Value) (w : World) (hv : RdS w v zs) : Calls Try.prog 30 #[v, .func (.func 31) #[] #[]] w fun e w' => e = .returned (.bool (zs.any fun a => !insP a)) ∧ Bw w w' :=
  containsFuncS_any (fun a => !insP a) 31 (enters_of Try.func31 (by kernel_rfl) rfl) zs v w (fun p _ W _ => outside_any p.1 p.2 W) hv
theorem all_of_any (zs : List (Int × Int)) : (zs.any fun a => !insP a) = !(zs.all insP) := by
  induction zs with
  | nil => rfl
  | cons a r ih => simp [List.any_cons, List.all_cons, ih, Bool.not_and]
end Go.Proofs.Sky
