/-
  lemmas for the theorems of this claim. No conditions beyond those written in the statements.
-/
import Derived.Test.YtmndialneggbjaaM21
import Derived.Test.YtmndialneggbjaaD21
set_option linter.unusedVariables false
set_option linter.unusedSimpArgs false
set_option linter.unnecessarySimpa false
namespace Go.Proofs.Sky
open Go Go.RowKit Go.Shelf
set_option maxHeartbeats 4000000
def EdP (x er : Int) (e : Ending) : Prop := e = .returned (.tuple #[.int .i64 x, .int .i64 er])
theorem Edge_any (ch : List Int) (v : Value) (seen x y least : Int) (w : World) (hv : RdI w v ch) :
    Calls Try.prog 17 #[.agg #[v, .int .i64 seen, .int .i64 x, .int .i64 y], .int .i64 least] w fun e w' => EdP (edgeR ch seen (x, y) least).1 (edgeR ch seen (x, y) least).2 e ∧ Bw w w' := by
  have HV := Lib.hid hv
  obtain ⟨ad, cap, rfl⟩ := hv.form
  clear hv
  have HC := Lib.hid (fun W hW => Check_any ch (.slice ad ch.length cap) seen x y W hW)
  obtain ⟨n, hn⟩ : ∃ n, n = ch.length := ⟨_, rfl⟩
  have HN := Lib.hid hn
  have HBW := Lib.hid (Bw.alloc (Bw.refl w) (.cells #[.slice ad n cap, .int .i64 seen, .int .i64 x, .int .i64 y] 36))
  have KX := Lib.hid (Blk.new w 36 #[.slice ad n cap, .int .i64 seen, .int .i64 x, .int .i64 y])
  by_cases h0 : errS ch seen (x, y) = 0
  · have hz := errS_zero h0
    rw [h0] at HC
    by_cases hl : least < 1 ∨ 1000000 < least
    · have HE := Lib.hid (show edgeR ch seen (x, y) least = (0, 2) by unfold edgeR; rw [if_neg (by simpa using h0), if_pos hl])
      rw [HE.out]
      rw [← hn] at HC HV ⊢
      clear hn h0 hz HE
      unfold EdP
      by_cases q1 : least < 1
      · clear hl
        go_enter Try.func17, Try.ntmps17
        go_wp2_with (go_at_call 26; (with_reducible refine Calls.mono (HC.out _ (HV.out.mono HBW.out)) ?_); rintro e1 w1 ⟨rfl, hb1⟩; replace HBW := Lib.hid (HBW.out.trans hb1); replace KX := Lib.hid (KX.out.bw hb1); clear hb1; have k0 : w1.cell? ⟨w.heap.size, 0, none⟩ = some (.slice ad n cap) := KX.out.cell rfl; have k1 : w1.cell? ⟨w.heap.size, 1, none⟩ = some (.int .i64 seen) := KX.out.cell rfl; have k2 : w1.cell? ⟨w.heap.size, 2, none⟩ = some (.int .i64 x) := KX.out.cell rfl; have k3 : w1.cell? ⟨w.heap.size, 3, none⟩ = some (.int .i64 y) := KX.out.cell rfl)
        refine bodyPost_ret (v := .tuple #[.int .i64 0, .int .i64 2]) ?_ rfl ⟨rfl, HBW.out⟩
        simp [results, Try.results17, go_sem]
      · have q2 : 1000000 < least := by omega
        clear hl
        go_enter Try.func17, Try.ntmps17
        go_wp2_with (go_at_call 26; (with_reducible refine Calls.mono (HC.out _ (HV.out.mono HBW.out)) ?_); rintro e1 w1 ⟨rfl, hb1⟩; replace HBW := Lib.hid (HBW.out.trans hb1); replace KX := Lib.hid (KX.out.bw hb1); clear hb1; have k0 : w1.cell? ⟨w.heap.size, 0, none⟩ = some (.slice ad n cap) := KX.out.cell rfl; have k1 : w1.cell? ⟨w.heap.size, 1, none⟩ = some (.int .i64 seen) := KX.out.cell rfl; have k2 : w1.cell? ⟨w.heap.size, 2, none⟩ = some (.int .i64 x) := KX.out.cell rfl; have k3 : w1.cell? ⟨w.heap.size, 3, none⟩ = some (.int .i64 y) := KX.out.cell rfl)
        refine bodyPost_ret (v := .tuple #[.int .i64 0, .int .i64 2]) ?_ rfl ⟨rfl, HBW.out⟩
        simp [results, Try.results17, go_sem]
    · have q1 : ¬ least < 1 := fun h => hl (.inl h)
      have q2 : ¬ 1000000 < least := fun h => hl (.inr h)
      have HE := Lib.hid (show edgeR ch seen (x, y) least = if ch.getD (amx ch (ch.length - 1)) 0 < least then (0, 18) else if (List.range ch.length).any (fun i => i != amx ch (ch.length - 1) && decide (ch.getD (amx ch (ch.length - 1)) 0 ≤ 2 * ch.getD i 0)) then (0, 13) else ((amx ch (ch.length - 1) : Int), 0) by unfold edgeR; rw [if_neg (by simpa using h0), if_neg hl])
      generalize edgeR ch seen (x, y) least = EE at HE ⊢
      have hg := fun W hW => greatest_any ch (.slice ad ch.length cap) W hW hz.1.1 (by have := hz.1.2; omega)
      have hspec := amx_spec ch (ch.length - 1)
      have HB := Lib.hid hz.2.2.2
      obtain ⟨⟨n1, n2⟩, _⟩ := hz
      obtain ⟨at_, hat⟩ : ∃ at_, at_ = amx ch (ch.length - 1) := ⟨_, rfl⟩
      rw [← hat] at hg hspec HE
      rw [← hn] at HC HV n1 n2 hg hspec HE ⊢
      have hatn : at_ < n := by have := hspec.1; omega
      have HG := Lib.hid hg
      clear hg hl h0 hspec hat hn
      obtain ⟨b, off, cc, hv1, hb1, hd1⟩ := HV.out.at (by have := HN.out; omega)
      rw [← HN.out] at hv1
      injection hv1 with i1 i2 i3; subst i1; clear i2 i3
      have HD := Lib.hid hd1
      clear hd1 hb1
      obtain ⟨mx, hmx⟩ : ∃ mx, mx = ch.getD at_ 0 := ⟨_, rfl⟩
      rw [← hmx] at HE
      have HMX := Lib.hid hmx
      clear hmx
      have hai : (at_ : Int) < n := by omega
      by_cases hle : mx < least
      · have HE2 := Lib.hid (show EE = (0, 18) by rw [HE.out, if_pos hle])
        rw [HE2.out]
        unfold EdP
        go_enter Try.func17, Try.ntmps17
        go_wp2_with (first | (go_at_call 26; (with_reducible refine Calls.mono (HC.out _ (HV.out.mono HBW.out)) ?_); rintro e1 w1 ⟨rfl, hb1⟩; replace HBW := Lib.hid (HBW.out.trans hb1); replace KX := Lib.hid (KX.out.bw hb1); clear hb1; have k0 : w1.cell? ⟨w.heap.size, 0, none⟩ = some (.slice (some ⟨b, off, none⟩) n cap) := KX.out.cell rfl; have k1 : w1.cell? ⟨w.heap.size, 1, none⟩ = some (.int .i64 seen) := KX.out.cell rfl; have k2 : w1.cell? ⟨w.heap.size, 2, none⟩ = some (.int .i64 x) := KX.out.cell rfl; have k3 : w1.cell? ⟨w.heap.size, 3, none⟩ = some (.int .i64 y) := KX.out.cell rfl) | (go_at_call 37; (with_reducible refine Calls.mono (HG.out _ (HV.out.mono HBW.out)) ?_); rintro e1 w2 ⟨rfl, hb1⟩; replace HBW := Lib.hid (HBW.out.trans hb1); replace KX := Lib.hid (KX.out.bw hb1); clear hb1 k0 k1 k2 k3; have k0 : w2.cell? ⟨w.heap.size, 0, none⟩ = some (.slice (some ⟨b, off, none⟩) n cap) := KX.out.cell rfl; have k1 : w2.cell? ⟨w.heap.size, 1, none⟩ = some (.int .i64 seen) := KX.out.cell rfl; have k2 : w2.cell? ⟨w.heap.size, 2, none⟩ = some (.int .i64 x) := KX.out.cell rfl; have k3 : w2.cell? ⟨w.heap.size, 3, none⟩ = some (.int .i64 y) := KX.out.cell rfl; have dm : w2.cell? ⟨b, off + at_, none⟩ = some (.int .i64 mx) := by rw [HMX.out]; exact HBW.out.cell' (HD.out at_ (by have := HN.out; omega))))
        refine bodyPost_ret (v := .tuple #[.int .i64 0, .int .i64 18]) ?_ rfl ⟨rfl, HBW.out⟩
        simp [results, Try.results17, go_sem]
      · have HE2 := Lib.hid (show EE = if (List.range n).any (fun i => i != at_ && decide (mx ≤ 2 * ch.getD i 0)) then (0, 13) else ((at_ : Int), 0) by rw [HE.out, if_neg hle])
        clear HE
        go_enter Try.func17, Try.ntmps17
        go_wp2_with (first | (go_at_call 26; (with_reducible refine Calls.mono (HC.out _ (HV.out.mono HBW.out)) ?_); rintro e1 w1 ⟨rfl, hb1⟩; replace HBW := Lib.hid (HBW.out.trans hb1); replace KX := Lib.hid (KX.out.bw hb1); clear hb1; have k0 : w1.cell? ⟨w.heap.size, 0, none⟩ = some (.slice (some ⟨b, off, none⟩) n cap) := KX.out.cell rfl; have k1 : w1.cell? ⟨w.heap.size, 1, none⟩ = some (.int .i64 seen) := KX.out.cell rfl; have k2 : w1.cell? ⟨w.heap.size, 2, none⟩ = some (.int .i64 x) := KX.out.cell rfl; have k3 : w1.cell? ⟨w.heap.size, 3, none⟩ = some (.int .i64 y) := KX.out.cell rfl) | (go_at_call 37; (with_reducible refine Calls.mono (HG.out _ (HV.out.mono HBW.out)) ?_); rintro e1 w2 ⟨rfl, hb1⟩; replace HBW := Lib.hid (HBW.out.trans hb1); replace KX := Lib.hid (KX.out.bw hb1); clear hb1 k0 k1 k2 k3; have k0 : w2.cell? ⟨w.heap.size, 0, none⟩ = some (.slice (some ⟨b, off, none⟩) n cap) := KX.out.cell rfl; have k1 : w2.cell? ⟨w.heap.size, 1, none⟩ = some (.int .i64 seen) := KX.out.cell rfl; have k2 : w2.cell? ⟨w.heap.size, 2, none⟩ = some (.int .i64 x) := KX.out.cell rfl; have k3 : w2.cell? ⟨w.heap.size, 3, none⟩ = some (.int .i64 y) := KX.out.cell rfl; have dm : w2.cell? ⟨b, off + at_, none⟩ = some (.int .i64 mx) := by rw [HMX.out]; exact HBW.out.cell' (HD.out at_ (by have := HN.out; omega))))
        go_loopg [36] 20 (fun gg s36 wr => ∃ k : Nat, k ≤ n ∧ n - k ≤ gg ∧ s36 = .int .i64 k ∧ wr = w2 ∧ Hid (∀ j, j < k → (j != at_ && decide (mx ≤ 2 * ch.getD j 0)) = false))
        case atStart => exact ⟨0, Nat.zero_le _, by omega, rfl, rfl, Lib.hid (fun j hj => absurd hj (Nat.not_lt_zero _))⟩
        case round =>
          obtain ⟨k, hk, hgg, rfl, hwr, HA⟩ := hrel
          replace hwr := hwr.symm
          subst hwr
          by_cases hlt : k < n
          · have hkz : (k : Int) < n := by omega
            have d := HBW.out.cell' (HD.out k (by have := HN.out; omega))
            have hb9 := HB.out k
            have HA2 := Lib.hid (fun (h : (k != at_ && decide (mx ≤ 2 * ch.getD k 0)) = false) j (hj : j < k + 1) => (by
              rcases Nat.lt_succ_iff_lt_or_eq.1 hj with h9 | rfl
              · exact HA.out j h9
              · exact h : (j != at_ && decide (mx ≤ 2 * ch.getD j 0)) = false))
            have HBAD := Lib.hid (fun (h : (k != at_ && decide (mx ≤ 2 * ch.getD k 0)) = true) => (by
              rw [HE2.out, if_pos (List.any_eq_true.2 ⟨k, List.mem_range.2 hlt, h⟩)] : EE = (0, 13)))
            generalize ch.getD k 0 = z at d HA2 HBAD hb9
            obtain ⟨z1, z2⟩ := hb9
            by_cases hka : k = at_
            · have HA3 := HA2.out (by simp [hka])
              have HA4 := Lib.hid HA3
              have hki : (k : Int) = at_ := by omega
              clear HA3 HA2 HBAD hka
              go_wp2
              go_roundg (n - (k + 1))
              case measure => omega
              case rel => exact ⟨k + 1, by omega, by omega, by go_num, rfl, HA4⟩
            · have hki : ¬ (k : Int) = at_ := by omega
              by_cases hz9 : mx ≤ 2 * z
              · have HB2 := Lib.hid (HBAD.out (by simp [hka, hz9]))
                clear HA2 HBAD
                go_wp2
                refine bodyPost_ret (v := .tuple #[.int .i64 0, .int .i64 13]) ?_ rfl ⟨by unfold EdP; rw [HB2.out], HBW.out⟩
                simp [results, Try.results17, go_sem]
              · have HA4 := Lib.hid (HA2.out (by simp [hz9]))
                clear HA2 HBAD
                go_wp2
                go_roundg (n - (k + 1))
                case measure => omega
                case rel => exact ⟨k + 1, by omega, by omega, by go_num, rfl, HA4⟩
          · obtain rfl : n = k := by omega
            have hkz : ¬ (n : Int) < n := by omega
            have HE3 := Lib.hid (show EE = ((at_ : Int), 0) by
              rw [HE2.out, if_neg]
              intro h
              obtain ⟨j, hj, hj2⟩ := List.any_eq_true.1 h
              rw [HA.out j (List.mem_range.1 hj)] at hj2
              cases hj2)
            go_wp2
            refine bodyPost_ret (v := .tuple #[.int .i64 at_, .int .i64 0]) ?_ rfl ⟨by unfold EdP; rw [HE3.out], HBW.out⟩
            simp [results, Try.results17, go_sem]
  · have HE := Lib.hid (show edgeR ch seen (x, y) least = (0, errS ch seen (x, y)) by unfold edgeR; rw [if_pos h0])
    rw [HE.out]
    clear HE
    generalize errS ch seen (x, y) = er at HC h0 ⊢
    have hne : (er != 0) = true := by simpa using h0
    rw [← hn] at HC HV ⊢
    clear hn
    unfold EdP
    go_enter Try.func17, Try.ntmps17
    go_wp2_with (go_at_call 26; (with_reducible refine Calls.mono (HC.out _ (HV.out.mono HBW.out)) ?_); rintro e1 w1 ⟨rfl, hb1⟩; replace HBW := Lib.hid (HBW.out.trans hb1); replace KX := Lib.hid (KX.out.bw hb1); clear hb1; have k0 : w1.cell? ⟨w.heap.size, 0, none⟩ = some (.slice ad n cap) := KX.out.cell rfl; have k1 : w1.cell? ⟨w.heap.size, 1, none⟩ = some (.int .i64 seen) := KX.out.cell rfl; have k2 : w1.cell? ⟨w.heap.size, 2, none⟩ = some (.int .i64 x) := KX.out.cell rfl; have k3 : w1.cell? ⟨w.heap.size, 3, none⟩ = some (.int .i64 y) := KX.out.cell rfl)
    refine bodyPost_ret (v := .tuple #[.int .i64 0, .int .i64 er]) ?_ rfl ⟨rfl, HBW.out⟩
    simp [results, Try.results17, go_sem]
end Go.Proofs.Sky
