/-
  lemmas for the theorems of this claim. No conditions beyond those written in the statements.
-/
import Derived.Test.YtdaplhjkccfmgaaB30
import Derived.Test.YtdaplhjkccfmgaaApp
set_option linter.unusedVariables false
set_option linter.unusedSimpArgs false
set_option linter.unnecessarySimpa false
namespace Go.Proofs.Sky
open Go Go.RowKit Go.Shelf
set_option maxHeartbeats 2000000
theorem rsum_any (ds : List Int) (v : Value) (w : World) (hv : RdI w v ds) (hl : ds.length ≤ 200) (hb : ∀ x ∈ ds, -20000000000000 ≤ x ∧ x ≤ 20000000000000) :
    Calls Try.prog 31 #[v] w fun e w' => e = .returned (.int .i64 (sumI ds)) ∧ Bw w w' := by
  obtain ⟨hlen, ad, cap, rfl, hz⟩ := hv
  have HZ := Lib.hid hz; clear hz
  obtain ⟨n, hn⟩ : ∃ n, n = ds.length := ⟨_, rfl⟩
  rw [← hn] at hlen hl ⊢
  have HN := Lib.hid hn; clear hn
  have HB := Lib.hid hb; clear hb
  go_enter Try.func31, Try.ntmps31
  go_wp2
  go_loopg [3, 4] n (fun gg s3 s4 wr => ∃ kk : Nat, kk ≤ n ∧ n - kk ≤ gg ∧ s4 = .int .i64 kk ∧ s3 = .int .i64 (sumI (ds.take kk)) ∧ Hid (Bw w wr))
  case atStart => exact ⟨0, Nat.zero_le _, by omega, rfl, rfl, Bw.refl _⟩
  case round =>
    obtain ⟨kk, hkk, hg, rfl, rfl, hbw⟩ := hrel
    have hT : ∀ x ∈ ds.take kk, -20000000000000 ≤ x ∧ x ≤ 20000000000000 := fun x hx => HB.out x (List.mem_of_mem_take hx)
    have ⟨t1, t2⟩ := sumI_bd (ds.take kk) 20000000000000 (by omega) hT
    have t3 := List.length_take_le kk ds
    clear hT
    by_cases hlt : kk < n
    · have hltz : (kk : Int) < (n : Int) := by omega
      have hq := HN.out
      obtain ⟨b, off, rfl, hb, hc⟩ := HZ.out.resolve_left (by intro h; rw [h] at hq; simp at hq; omega)
      have hc1 := hbw.out.cell' (hc kk (by omega))
      have hx := HB.out _ (getD_mem ds kk 0 (by omega))
      have HS := Lib.hid (sumI_take ds kk (by omega))
      clear hc hq
      generalize ds.getD kk 0 = x at hc1 hx HS
      generalize sumI (ds.take kk) = s at t1 t2 HS ⊢
      obtain ⟨x1, x2⟩ := hx
      go_wp2
      go_roundg (n - (kk + 1))
      case measure => omega
      case rel => exact ⟨kk + 1, by omega, by omega, by go_num, by rw [HS.out], hbw.out⟩
    · have hltz : ¬ (kk : Int) < (n : Int) := by omega
      have HS := Lib.hid (show sumI (ds.take kk) = sumI ds by rw [show kk = ds.length by have := HN.out; omega, List.take_length])
      generalize sumI (ds.take kk) = s at t1 t2 HS ⊢
      go_wp2
      go_ret
      exact ⟨ret_int HS.out, hbw.out⟩
end Go.Proofs.Sky
