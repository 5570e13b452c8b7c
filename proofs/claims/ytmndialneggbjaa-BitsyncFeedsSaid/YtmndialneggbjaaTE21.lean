/-
  lemmas for the theorems of this claim. No conditions beyond those written in the statements.
-/
import Derived.Test.YtmndialneggbjaaTD21
import Derived.Test.YtmndialneggbjaaN21
import Derived.Lib.Hide
set_option linter.unusedVariables false
set_option linter.unusedSimpArgs false
set_option linter.unnecessarySimpa false
namespace Go.Proofs.Sky
open Go Go.RowKit Go.Shelf
set_option maxHeartbeats 4000000
set_option maxRecDepth 4000
theorem amx_step (ch : List Int) (k : Nat) : amx ch (k + 1 - 1) = if ch.getD (amx ch (k - 1)) 0 < ch.getD k 0 then k else amx ch (k - 1) := by
  cases k with
  | zero => simp [amx]
  | succ k => simp only [Nat.add_sub_cancel]; rfl
theorem rEdge_any (ch : List Int) (v : Value) (seen x y least : Int) (w : World) (hv : RdI w v ch) :
    Calls Try.prog 25 #[.agg #[v, .int .i64 seen, .int .i64 x, .int .i64 y], .int .i64 least] w fun e w' => EdP (edgeR ch seen (x, y) least).1 (edgeR ch seen (x, y) least).2 e ∧ Bw w w' := by
  have HV := Lib.hid hv
  obtain ⟨ad, cap, rfl⟩ := hv.form
  clear hv
  have HC := Lib.hid (fun W hW => rCheck_any ch (.slice ad ch.length cap) seen x y W hW)
  obtain ⟨n, hn⟩ : ∃ n, n = ch.length := ⟨_, rfl⟩
  have HN := Lib.hid hn
  have HBW := Lib.hid (Bw.alloc (Bw.refl w) (.cells #[.slice ad n cap, .int .i64 seen, .int .i64 x, .int .i64 y] 36))
  have KX := Lib.hid (Blk.new w 36 #[.slice ad n cap, .int .i64 seen, .int .i64 x, .int .i64 y])
  by_cases h0 : errS ch seen (x, y) = 0
  · have hz := errS_zero h0
    rw [h0] at HC
    by_cases hl : least < 1 ∨ 1000000 < least
    · have HE := Lib.hid (show edgeR ch seen (x, y) least = (0, 2) by unfold edgeR; rw [if_neg (by simpa using h0), if_pos hl])
      rw [HE.out]
      rw [← hn] at HC HV ⊢
      clear hn h0 hz HE
      unfold EdP
      by_cases q1 : least < 1
      · clear hl
        go_enter Try.func25, Try.ntmps25
        go_wp2_with (go_at_call 27; (with_reducible refine Calls.mono (HC.out _ (HV.out.mono HBW.out)) ?_); rintro e1 w1 ⟨rfl, hb1⟩; replace HBW := Lib.hid (HBW.out.trans hb1); replace KX := Lib.hid (KX.out.bw hb1); clear hb1; have k0 : w1.cell? ⟨w.heap.size, 0, none⟩ = some (.slice ad n cap) := KX.out.cell rfl; have k1 : w1.cell? ⟨w.heap.size, 1, none⟩ = some (.int .i64 seen) := KX.out.cell rfl; have k2 : w1.cell? ⟨w.heap.size, 2, none⟩ = some (.int .i64 x) := KX.out.cell rfl; have k3 : w1.cell? ⟨w.heap.size, 3, none⟩ = some (.int .i64 y) := KX.out.cell rfl)
        refine bodyPost_ret (v := .tuple #[.int .i64 0, .int .i64 2]) ?_ rfl ⟨rfl, HBW.out⟩
        simp [results, Try.results25, go_sem]
      · have q2 : 1000000 < least := by omega
        clear hl
        go_enter Try.func25, Try.ntmps25
        go_wp2_with (go_at_call 27; (with_reducible refine Calls.mono (HC.out _ (HV.out.mono HBW.out)) ?_); rintro e1 w1 ⟨rfl, hb1⟩; replace HBW := Lib.hid (HBW.out.trans hb1); replace KX := Lib.hid (KX.out.bw hb1); clear hb1; have k0 : w1.cell? ⟨w.heap.size, 0, none⟩ = some (.slice ad n cap) := KX.out.cell rfl; have k1 : w1.cell? ⟨w.heap.size, 1, none⟩ = some (.int .i64 seen) := KX.out.cell rfl; have k2 : w1.cell? ⟨w.heap.size, 2, none⟩ = some (.int .i64 x) := KX.out.cell rfl; have k3 : w1.cell? ⟨w.heap.size, 3, none⟩ = some (.int .i64 y) := KX.out.cell rfl)
        refine bodyPost_ret (v := .tuple #[.int .i64 0, .int .i64 2]) ?_ rfl ⟨rfl, HBW.out⟩
        simp [results, Try.results25, go_sem]
    · have q1 : ¬ least < 1 := fun h => hl (.inl h)
      have q2 : ¬ 1000000 < least := fun h => hl (.inr h)
      have HE := Lib.hid (show edgeR ch seen (x, y) least = if ch.getD (amx ch (ch.length - 1)) 0 < least then (0, 18) else if (List.range ch.length).any (fun i => i != amx ch (ch.length - 1) && decide (ch.getD (amx ch (ch.length - 1)) 0 ≤ 2 * ch.getD i 0)) then (0, 13) else ((amx ch (ch.length - 1) : Int), 0) by unfold edgeR; rw [if_neg (by simpa using h0), if_neg hl])
      generalize edgeR ch seen (x, y) least = EE at HE ⊢
      have hspec := amx_spec ch (ch.length - 1)
      have HB := Lib.hid hz.2.2.2
      obtain ⟨⟨n1, n2⟩, _⟩ := hz
      obtain ⟨at_, hat⟩ : ∃ at_, at_ = amx ch (ch.length - 1) := ⟨_, rfl⟩
      rw [← hat] at hspec HE
      rw [← hn] at HC HV n1 n2 hspec HE hat ⊢
      have HAT := Lib.hid hat
      have hatn : at_ < n := by have := hspec.1; omega
      clear hl h0 hspec hn hat
      obtain ⟨b, off, cc, hv1, hb1, hd1⟩ := HV.out.at (by have := HN.out; omega)
      rw [← HN.out] at hv1
      injection hv1 with i1 i2 i3; subst i1; clear i2 i3
      have HD := Lib.hid hd1
      clear hd1 hb1
      obtain ⟨mx, hmx⟩ : ∃ mx, mx = ch.getD at_ 0 := ⟨_, rfl⟩
      rw [← hmx] at HE
      have HMX := Lib.hid hmx
      have hmxb := HB.out at_
      rw [← hmx] at hmxb
      clear hmx
      have hai : (at_ : Int) < n := by omega
      go_enter Try.func25, Try.ntmps25
      go_wp2_with (go_at_call 27; (with_reducible refine Calls.mono (HC.out _ (HV.out.mono HBW.out)) ?_); rintro e1 w1 ⟨rfl, hb1⟩; replace HBW := Lib.hid (HBW.out.trans hb1); replace KX := Lib.hid (KX.out.bw hb1); clear hb1; have k0 : w1.cell? ⟨w.heap.size, 0, none⟩ = some (.slice (some ⟨b, off, none⟩) n cap) := KX.out.cell rfl; have k1 : w1.cell? ⟨w.heap.size, 1, none⟩ = some (.int .i64 seen) := KX.out.cell rfl; have k2 : w1.cell? ⟨w.heap.size, 2, none⟩ = some (.int .i64 x) := KX.out.cell rfl; have k3 : w1.cell? ⟨w.heap.size, 3, none⟩ = some (.int .i64 y) := KX.out.cell rfl)
      go_loopg [7, 8] 20 (fun gg s7 s8 wr => ∃ k : Nat, k ≤ n ∧ n - k ≤ gg ∧ s8 = .int .i64 k ∧ s7 = .int .i64 (amx ch (k - 1) : Nat) ∧ Hid (Bw w1 wr))
      case atStart => exact ⟨0, Nat.zero_le _, by omega, by go_num, by simp [amx], Lib.hid (Bw.refl _)⟩
      case round =>
        obtain ⟨k, hk, hgg, rfl, rfl, HW⟩ := hrel
        by_cases hlt : k < n
        · have hkz : (k : Int) < n := by omega
          have hle := (amx_spec ch (k - 1)).1
          have HS := Lib.hid (amx_step ch k)
          have d1 := (HBW.out.trans HW.out).cell' (HD.out k (by have := HN.out; omega))
          have d2 := (HBW.out.trans HW.out).cell' (HD.out (amx ch (k - 1)) (by have := HN.out; omega))
          have d0 := HW.out.cell' k0
          generalize amx ch (k - 1) = a at *
          generalize ch.getD k 0 = z at *
          generalize ch.getD a 0 = y9 at *
          have han : (a : Int) < n := by omega
          have e0 := fun p' : Ext wr => Ext.cell' d0 p'
          have e1 := fun p' : Ext wr => Ext.cell' d1 p'
          have e2 := fun p' : Ext wr => Ext.cell' d2 p'
          clear d1 d2
          by_cases hs : y9 < z
          · have HS2 := Lib.hid (show amx ch (k + 1 - 1) = k by rw [HS.out, if_pos hs])
            clear HS
            go_wp2
            (refine wp_region_quiet_ext (by kernel_rfl) (by kernel_rfl) ?_; (repeat (go_big_quiet_step ((fail)))); refine wpQuiet_nil ?_; rintro wq ⟨⟨_, hbq⟩, rfl⟩; obtain ⟨hccq, hffq⟩ := Bw.cells hbq; have hszq := Bw.size hbq)
            clear e0 e1 e2
            go_wp2
            go_roundg (n - (k + 1))
            case measure => omega
            case rel => exact ⟨k + 1, by omega, by omega, by go_num, by rw [HS2.out], Lib.hid (HW.out.trans hbq)⟩
          · have HS2 := Lib.hid (show amx ch (k + 1 - 1) = a by rw [HS.out, if_neg hs])
            clear HS
            go_wp2
            (refine wp_region_quiet_ext (by kernel_rfl) (by kernel_rfl) ?_; (repeat (go_big_quiet_step ((fail)))); refine wpQuiet_nil ?_; rintro wq ⟨⟨_, hbq⟩, rfl⟩; obtain ⟨hccq, hffq⟩ := Bw.cells hbq; have hszq := Bw.size hbq)
            clear e0 e1 e2
            go_wp2
            go_roundg (n - (k + 1))
            case measure => omega
            case rel => exact ⟨k + 1, by omega, by omega, by go_num, by rw [HS2.out], Lib.hid (HW.out.trans hbq)⟩
        · obtain rfl : n = k := by omega
          have hkz : ¬ (n : Int) < n := by omega
          rw [← HAT.out]
          obtain ⟨wa, rfl⟩ : ∃ wa, wa = wr := ⟨_, rfl⟩
          have m0 := HW.out.cell' k0
          have m1 := (HBW.out.trans HW.out).cell' (HD.out at_ (by have := HN.out; omega))
          rw [← HMX.out] at m1
          by_cases hle : mx < least
          · have HE2 := Lib.hid (show EE = (0, 18) by rw [HE.out, if_pos hle])
            go_wp2
            refine bodyPost_ret (v := .tuple #[.int .i64 0, .int .i64 18]) ?_ rfl ⟨by unfold EdP; rw [HE2.out], HBW.out.trans HW.out⟩
            simp [results, Try.results25, go_sem]
          · have HE2 := Lib.hid (show EE = if (List.range n).any (fun i => i != at_ && decide (mx ≤ 2 * ch.getD i 0)) then (0, 13) else ((at_ : Int), 0) by rw [HE.out, if_neg hle])
            clear HE
            go_wp2
            go_loopg [9] 20 (fun gg s9 wr => ∃ k : Nat, k ≤ n ∧ n - k ≤ gg ∧ s9 = .int .i64 k ∧ Hid (Bw wa wr) ∧ Hid (∀ j, j < k → (j != at_ && decide (mx ≤ 2 * ch.getD j 0)) = false))
            case atStart => exact ⟨0, Nat.zero_le _, by omega, by go_num, Lib.hid (Bw.refl _), Lib.hid (fun j hj => absurd hj (Nat.not_lt_zero _))⟩
            case round =>
              obtain ⟨k, hk, hgg2, rfl, HX, HA⟩ := hrel
              by_cases hlt : k < n
              · have hkz2 : (k : Int) < n := by omega
                have d := (HBW.out.trans (HW.out.trans HX.out)).cell' (HD.out k (by have := HN.out; omega))
                have d0 := HX.out.cell' m0
                have d1 := HX.out.cell' m1
                have hb9 := HB.out k
                have HA2 := Lib.hid (fun (h : (k != at_ && decide (mx ≤ 2 * ch.getD k 0)) = false) j (hj : j < k + 1) => (by
                  rcases Nat.lt_succ_iff_lt_or_eq.1 hj with h9 | rfl
                  · exact HA.out j h9
                  · exact h : (j != at_ && decide (mx ≤ 2 * ch.getD j 0)) = false))
                have HBAD := Lib.hid (fun (h : (k != at_ && decide (mx ≤ 2 * ch.getD k 0)) = true) => (by
                  rw [HE2.out, if_pos (List.any_eq_true.2 ⟨k, List.mem_range.2 hlt, h⟩)] : EE = (0, 13)))
                generalize ch.getD k 0 = z at d HA2 HBAD hb9
                obtain ⟨z1, z2⟩ := hb9
                have e0 := fun p' : Ext wr => Ext.cell' d0 p'
                have e1 := fun p' : Ext wr => Ext.cell' d1 p'
                have e2 := fun p' : Ext wr => Ext.cell' d p'
                clear d d1
                by_cases hka : k = at_
                · have HA3 := HA2.out (by simp [hka])
                  have HA4 := Lib.hid HA3
                  clear HA3 HA2 HBAD
                  go_wp2
                  have hki : (k : Int) = at_ := by omega
                  (refine wp_region_quiet_ext (by kernel_rfl) (by kernel_rfl) ?_; (repeat (go_big_quiet_step ((fail)))); refine wpQuiet_nil ?_; rintro wq ⟨⟨_, hbq⟩, rfl⟩; obtain ⟨hccq, hffq⟩ := Bw.cells hbq; have hszq := Bw.size hbq)
                  clear e0 e1 e2
                  go_wp2
                  go_roundg (n - (k + 1))
                  case measure => omega
                  case rel => exact ⟨k + 1, by omega, by omega, by go_num, Lib.hid (HX.out.trans hbq), HA4⟩
                · by_cases hz9 : mx ≤ 2 * z
                  · have HB2 := Lib.hid (HBAD.out (by simp [hka, hz9]))
                    clear HA2 HBAD
                    go_wp2
                    have hki : ¬ (k : Int) = at_ := by omega
                    have hkb : ((k : Int) != (at_ : Int)) = true := by simpa using hki
                    have hz10 : (mx + 1) / 2 ≤ z := by omega
                    (refine wp_region_quiet_ext (by kernel_rfl) (by kernel_rfl) ?_; (repeat (go_big_quiet_step ((fail)))); refine wpQuiet_nil ?_; rintro wq ⟨⟨_, hbq⟩, rfl⟩; obtain ⟨hccq, hffq⟩ := Bw.cells hbq; have hszq := Bw.size hbq)
                    clear e0 e1 e2
                    go_wp2
                    refine bodyPost_ret (v := .tuple #[.int .i64 0, .int .i64 13]) ?_ rfl ⟨by unfold EdP; rw [HB2.out], HBW.out.trans (HW.out.trans (HX.out.trans hbq))⟩
                    simp [results, Try.results25, go_sem]
                  · have HA4 := Lib.hid (HA2.out (by simp [hz9]))
                    clear HA2 HBAD
                    go_wp2
                    have hki : ¬ (k : Int) = at_ := by omega
                    have hkb : ((k : Int) != (at_ : Int)) = true := by simpa using hki
                    have hz10 : ¬ (mx + 1) / 2 ≤ z := by omega
                    (refine wp_region_quiet_ext (by kernel_rfl) (by kernel_rfl) ?_; (repeat (go_big_quiet_step ((fail)))); refine wpQuiet_nil ?_; rintro wq ⟨⟨_, hbq⟩, rfl⟩; obtain ⟨hccq, hffq⟩ := Bw.cells hbq; have hszq := Bw.size hbq)
                    clear e0 e1 e2
                    go_wp2
                    go_roundg (n - (k + 1))
                    case measure => omega
                    case rel => exact ⟨k + 1, by omega, by omega, by go_num, Lib.hid (HX.out.trans hbq), HA4⟩
              · obtain rfl : n = k := by omega
                have hkz2 : ¬ (n : Int) < n := by omega
                have d0 := HX.out.cell' m0
                have HE3 := Lib.hid (show EE = ((at_ : Int), 0) by
                  rw [HE2.out, if_neg]
                  intro h
                  obtain ⟨j, hj, hj2⟩ := List.any_eq_true.1 h
                  rw [HA.out j (List.mem_range.1 hj)] at hj2
                  cases hj2)
                go_wp2
                refine bodyPost_ret (v := .tuple #[.int .i64 at_, .int .i64 0]) ?_ rfl ⟨by unfold EdP; rw [HE3.out], HBW.out.trans (HW.out.trans HX.out)⟩
                simp [results, Try.results25, go_sem]
  · have HE := Lib.hid (show edgeR ch seen (x, y) least = (0, errS ch seen (x, y)) by unfold edgeR; rw [if_pos h0])
    rw [HE.out]
    clear HE
    generalize errS ch seen (x, y) = er at HC h0 ⊢
    have hne : (er != 0) = true := by simpa using h0
    rw [← hn] at HC HV ⊢
    clear hn
    unfold EdP
    go_enter Try.func25, Try.ntmps25
    go_wp2_with (go_at_call 27; (with_reducible refine Calls.mono (HC.out _ (HV.out.mono HBW.out)) ?_); rintro e1 w1 ⟨rfl, hb1⟩; replace HBW := Lib.hid (HBW.out.trans hb1); replace KX := Lib.hid (KX.out.bw hb1); clear hb1; have k0 : w1.cell? ⟨w.heap.size, 0, none⟩ = some (.slice ad n cap) := KX.out.cell rfl; have k1 : w1.cell? ⟨w.heap.size, 1, none⟩ = some (.int .i64 seen) := KX.out.cell rfl; have k2 : w1.cell? ⟨w.heap.size, 2, none⟩ = some (.int .i64 x) := KX.out.cell rfl; have k3 : w1.cell? ⟨w.heap.size, 3, none⟩ = some (.int .i64 y) := KX.out.cell rfl)
    refine bodyPost_ret (v := .tuple #[.int .i64 0, .int .i64 er]) ?_ rfl ⟨rfl, HBW.out⟩
    simp [results, Try.results25, go_sem]
end Go.Proofs.Sky
