/-
  lemmas for the theorems of this claim. No conditions beyond those written in the statements.
-/
import Derived.Test.YtmilfedbggbpdaaProg
import Derived.Test.YtmilfedbggbpdaaBase
import Derived.Test.YtmilfedbggbpdaaPlainA
set_option linter.unusedVariables false
set_option linter.unusedSimpArgs false
set_option linter.unnecessarySimpa false
namespace Go.Proofs.Sky
open Go Go.RowKit
set_option maxHeartbeats 1000000
theorem indexFunc_any (f : Int × Int → Bool) (g : Nat) (lb : Array Value) (eg : ∀ args w, (callFunc g args).run Try.prog w = .ok (.enter g args) w)
   (ps : List (Int × Int)) (v : Value) (w : World)
   (hp : ∀ p ∈ ps, ∀ W, Bw w W → Calls Try.prog g (#[.agg #[.int .i64 p.1, .int .i64 p.2]] ++ lb) W fun e w' => e = .returned (.bool (f p)) ∧ Bw W w')
   (hv : RdS w v ps) :
   Calls Try.prog 48 #[v, .func (.func g) #[] lb] w fun e w' => AnyIdx (ps.any f) e ∧ Bw w w' := by
  obtain ⟨h2, a, cap, rfl, h4⟩ := hv
  obtain ⟨n, hn⟩ : ∃ n, n = ps.length := ⟨_, rfl⟩
  rw [← hn] at h2 ⊢
  have HN := Lib.hid hn; clear hn
  have H4 := Lib.hid h4; clear h4
  have HP := Lib.hid hp; clear hp
  go_enter Try.func48, Try.ntmps48
  go_wp2
  go_loopg [5, 8] n (fun gg _ s8 wr => ∃ kk : Nat, kk ≤ n ∧ n - kk ≤ gg ∧ s8 = .int .i64 kk ∧ Hid (Bw w wr) ∧ Hid (∀ j, j < kk → f (ps.getD j (0, 0)) = false))
  case atStart => exact ⟨0, Nat.zero_le _, by omega, rfl, Bw.refl _, fun j hj => absurd hj (Nat.not_lt_zero _)⟩
  case round =>
    obtain ⟨kk, hkk, hg, rfl, hbw, A⟩ := hrel
    by_cases hlt : kk < n
    · have hltz : (kk : Int) < (n : Int) := by omega
      have hq := HN.out
      obtain ⟨b, off, rfl, hb, hc⟩ := H4.out.resolve_left (by intro h; rw [h] at hq; simp at hq; omega)
      obtain ⟨hc1, hc2⟩ := hc kk (by omega)
      rw [← hbw.out.cells.1 _ _ hb] at hc1 hc2
      have hm := getD_mem ps kk (0, 0) (by omega)
      clear hc H4
      generalize hx : ps.getD kk (0, 0) = x at hc1 hc2 hm
      obtain ⟨x1, x2⟩ := x
      have HX := Lib.hid hx; clear hx hq
      have hcall := HP.out _ hm wr hbw.out
      clear hm HP
      cases hpx : f (x1, x2) with
      | true =>
        rw [hpx] at hcall
        have HPX := Lib.hid hpx; clear hpx
        have HC := Lib.hid hcall; clear hcall
        go_wp2_with (go_at_fn g; refine (HC.out).mono ?_; rintro e w' ⟨rfl, hb2⟩)
        go_ret
        refine ⟨⟨kk, rfl, ?_⟩, Bw.trans hbw.out hb2⟩
        rw [any_of_lt ps f (0, 0) kk (by have := HN.out; omega) (by rw [HX.out]; exact HPX.out)]
        simp
      | false =>
        rw [hpx] at hcall
        have HPX := Lib.hid hpx; clear hpx
        have HC := Lib.hid hcall; clear hcall
        go_wp2_with (go_at_fn g; refine (HC.out).mono ?_; rintro e w' ⟨rfl, hb2⟩)
        go_roundg (n - (kk + 1))
        case measure => omega
        case rel =>
          refine ⟨kk + 1, by omega, by omega, by go_num, Bw.trans hbw.out hb2, fun j hj => ?_⟩
          by_cases e : j = kk
          · subst e
            rw [HX.out]; exact HPX.out
          · exact A.out j (by omega)
    · have hltz : ¬ (kk : Int) < (n : Int) := by omega
      have : kk = n := by omega
      subst this
      go_wp2
      go_ret
      refine ⟨⟨-1, rfl, ?_⟩, hbw.out⟩
      rw [any_none ps f (0, 0) (fun i hi => A.out i (by have := HN.out; omega))]
      rfl
theorem containsFunc_any (f : Int × Int → Bool) (g : Nat) (lb : Array Value) (eg : ∀ args w, (callFunc g args).run Try.prog w = .ok (.enter g args) w)
   (ps : List (Int × Int)) (v : Value) (w : World)
   (hp : ∀ p ∈ ps, ∀ W, Bw w W → Calls Try.prog g (#[.agg #[.int .i64 p.1, .int .i64 p.2]] ++ lb) W fun e w' => e = .returned (.bool (f p)) ∧ Bw W w')
   (hv : RdS w v ps) :
   Calls Try.prog 46 #[v, .func (.func g) #[] lb] w fun e w' => e = .returned (.bool (ps.any f)) ∧ Bw w w' := by
  have HC := Lib.hid (indexFunc_any f g lb eg ps v w hp hv)
  clear hp hv
  go_enter Try.func46, Try.ntmps46
  go_wp2_with (go_at_call 48; refine (HC.out).mono ?_; rintro e w' ⟨⟨r, rfl, hr⟩, hb2⟩; have HR := Lib.hid hr; clear hr)
  go_ret
  exact ⟨ret_bool HR.out, hb2⟩
theorem parts_any (x y : Int) (w : World) : Calls Try.prog 41 #[.agg #[.int .i64 x, .int .i64 y]] w fun e w' => e = .returned (.agg #[.int .i64 x, .int .i64 y]) ∧ Bw w w' := by
  go_enter Try.func41, Try.ntmps41
  go_wp2
  exact bodyPost_ret (v := .agg #[.int .i64 x, .int .i64 y]) (by simp [results, Try.results41, go_sem]) rfl ⟨rfl, (by repeat (first | exact Bw.refl _ | assumption | refine Bw.alloc ?_ _ | refine Bw.drew ?_ | refine Bw.trans ?_ (by assumption) | refine Bw.setCell ?_ (by simp; try omega) _))⟩
end Go.Proofs.Sky
