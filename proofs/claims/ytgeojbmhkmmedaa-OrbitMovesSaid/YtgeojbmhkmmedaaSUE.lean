/-
  lemmas for the theorems of this claim. No conditions beyond those written in the statements.
-/
import Derived.Test.YtgeojbmhkmmedaaSUA
import Derived.Deep.Cut
import Derived.BigRegion
set_option linter.unusedVariables false
set_option linter.unusedSimpArgs false
set_option linter.unnecessarySimpa false
namespace Go.Proofs.Sky
open Go Go.RowKit Go.Shelf
set_option maxHeartbeats 4000000
set_option maxRecDepth 4000
theorem pv_add1 (f g h : Nat → Int) (k : Nat) (e : pv h k = pv f k + pv g k) : pv f (k + 1) + pv g (k + 1) = pv h k + (f k + g k) * 16777216 ^ k := by
  rw [pv, pv, Int.add_mul]; omega
theorem LIM80 : (100000000000000000000000000000000000000000000000000000000000000000000000000000000000000000000000000000000000000000000000000000000000000000000000000000000000000000000000000000000000000000000000000000000000000000000000000000000000000000000000000000000000000000000000000000000000000000000000000000000000000000000000000000000000000000000000000000000000000000000000000000000000000000000000000000000000000000000000000000000000000000000000000000000000000000000000000000000000000000000000000000000000000000000 : Int) < 16777216 ^ 80 := by decide
theorem wideAdd_any (va vb : Value) (A B : Int) (ba bb : Nat) (w : World) (ha : Wd w ba va A) (hb : Wd w bb vb B) (hba : A ≤ 100000000000000000000000000000000000000000000000000000000000000000000000000000000000000000000000000000000000000000000000000000000000000000000000000000000000000000000000000000000000000000000000000000000000000000000000000000000000000000000000000000000000000000000000000000000000000000000000000000000000000000000000000000000000000000000000000000000000000000000000000000000000000000000000000000000000000000000000000000000000000000000000000000000000000000000000000000000000000000000000000000000000000000000) (hbb : B ≤ 100000000000000000000000000000000000000000000000000000000000000000000000000000000000000000000000000000000000000000000000000000000000000000000000000000000000000000000000000000000000000000000000000000000000000000000000000000000000000000000000000000000000000000000000000000000000000000000000000000000000000000000000000000000000000000000000000000000000000000000000000000000000000000000000000000000000000000000000000000000000000000000000000000000000000000000000000000000000000000000000000000000000000000000) :
    Calls Try.prog 50 #[va, vb] w fun e w' => NumP31 w.heap.size (A + B) e w' ∧ Bw w w' := by
  obtain ⟨dsa, hRa, _, hDa, hTa, hNa⟩ := ha
  obtain ⟨aa, ca, rfl⟩ := hRa.form
  have HRa := Lib.hid hRa
  have HDa := Lib.hid hDa
  have HTa := Lib.hid hTa
  have HNa := Lib.hid hNa
  have hLa : dsa.length ≤ 80 := tr_len hTa hDa 80 (by rw [hNa]; exact Int.lt_of_le_of_lt hba (by decide))
  clear hRa hDa hTa hNa
  obtain ⟨dsb, hRb, _, hDb, hTb, hNb⟩ := hb
  obtain ⟨ab, cb, rfl⟩ := hRb.form
  have HRb := Lib.hid hRb
  have HDb := Lib.hid hDb
  have HTb := Lib.hid hTb
  have HNb := Lib.hid hNb
  have hLb : dsb.length ≤ 80 := tr_len hTb hDb 80 (by rw [hNb]; exact Int.lt_of_le_of_lt hbb (by decide))
  clear hRb hDb hTb hNb
  obtain ⟨la, hla⟩ : ∃ la, la = dsa.length := ⟨_, rfl⟩
  obtain ⟨lb, hlb⟩ : ∃ lb, lb = dsb.length := ⟨_, rfl⟩
  rw [← hla] at HRa hLa ⊢
  rw [← hlb] at HRb hLb ⊢
  have HLa := Lib.hid hla
  have HLb := Lib.hid hlb
  clear hla hlb
  have HDa0 := Lib.hid (show ∀ k, la ≤ k → dg dsa k = 0 from fun k h => dg_out dsa k (by have := HLa.out; omega))
  have HDb0 := Lib.hid (show ∀ k, lb ≤ k → dg dsb k = 0 from fun k h => dg_out dsb k (by have := HLb.out; omega))
  obtain ⟨BB, hBB⟩ : ∃ BB, w.heap.size = BB := ⟨_, rfl⟩
  have HB := Lib.hid hBB
  rw [hBB]
  clear hBB
  have TM := Lib.hid (fun (os : List Int) (a : Option Addr) (c : Nat) (W : World) => trim_any os a c BB W)
  obtain ⟨M, hM⟩ : ∃ M, M = max la lb := ⟨_, rfl⟩
  have hMa : la ≤ M ∧ lb ≤ M ∧ (M = la ∨ M = lb) ∧ M ≤ 80 := by omega
  clear hM
  go_enter Try.func50, Try.ntmps50
  go_wp2
  go_loopg [5, 6, 7] (82) (fun gg s5 s6 s7 wr => ∃ (i : Nat) (c : Int) (os : List Int), (i ≤ M ∨ (i = M + 1 ∧ c = 0)) ∧ M + 1 - i ≤ gg ∧ s7 = .int .i64 i ∧ s6 = .int .i64 c ∧ 0 ≤ c ∧ c ≤ 1 ∧ os.length = i ∧ Hid (Dg (dg os)) ∧ Hid (pv (dg os) i + c * 16777216 ^ i = pv (dg dsa) i + pv (dg dsb) i) ∧ Hid (Bw w wr) ∧ Hid (wr.ownsRow BB 3 1 s5 os.length (os.map (Value.int .i64))))
  case atStart => exact ⟨0, 0, [], by omega, by omega, rfl, rfl, by omega, by omega, rfl, Lib.hid (fun i => by simp [dg]), Lib.hid (by simp [pv]), Lib.hid (Bw.refl _), Lib.hid (World.ownsRow_nil _ _ _ _)⟩
  case round =>
    obtain ⟨i, c, os, hi, hgg, rfl, rfl, hc0, hc1, hos, HD, HP, HW, O1⟩ := hrel
    have hda := HDa.out i
    have hdb := HDb.out i
    have HCS := Lib.hid (fun x h => carry_step (f := dg (os ++ [x])) i c (pv (dg dsa) i + pv (dg dsb) i) (pv (dg dsa) (i + 1) + pv (dg dsb) (i + 1)) (dg dsa i + dg dsb i) (by rw [(pv_snoc os x i hos).1]; exact HP.out) (by rw [(pv_snoc os x i hos).2]; exact h) (by rw [pv, pv, Int.add_mul]; omega))
    have HSN := Lib.hid (fun x (h0 : 0 ≤ x) (h1 : x < 16777216) => HD.out.snoc (x := x) h0 h1)
    by_cases ia : i < la
    · by_cases ib : i < lb
      · have hza : (i : Int) < la := by omega
        obtain ⟨ba, oa, cca, hv1, _, hda9⟩ := (HRa.out.mono HW.out).at (by have := HLa.out; omega)
        injection hv1 with i1 i2 i3; subst i1; clear i2 i3
        have da := hda9 i (by have := HLa.out; omega)
        clear hda9
        have hzb : (i : Int) < lb := by omega
        obtain ⟨bb, ob, ccb, hv1, _, hdb9⟩ := (HRb.out.mono HW.out).at (by have := HLb.out; omega)
        injection hv1 with i1 i2 i3; subst i1; clear i2 i3
        have db := hdb9 i (by have := HLb.out; omega)
        clear hdb9
        rw [show dg dsa i = dsa.getD i 0 from rfl] at HCS hda
        generalize dsa.getD i 0 = za at *
        rw [show dg dsb i = dsb.getD i 0 from rfl] at HCS hdb
        generalize dsb.getD i 0 = zb at *
        obtain ⟨X, hX⟩ : ∃ X, X = c + za + zb := ⟨_, rfl⟩
        have hA := and24 X
        rw [show c + (za + zb) = X by omega] at HCS
        have HP2 := Lib.hid (HCS.out (X % 16777216) rfl)
        have HD2 := Lib.hid (HSN.out (X % 16777216) (by omega) (by omega))
        have hXb : 0 ≤ X ∧ X ≤ 33554431 := by omega
        have HX := Lib.hid hX
        rw [hX] at hA
        clear hX HCS HSN HD HP
        go_wp2_with (at_builtin; have hba := Bw.alloc (Bw.refl wr) (.cells #[.int .i64 ((c + za + zb) % 16777216)] 3); replace O1 := Lib.hid (own_bw O1.out hba); replace HW := Lib.hid (HW.out.trans hba); clear hba; refine wpList_append_int1 rfl (.tmp 44) (.tmp 47) _ rfl BB 3 Try.underlying60 infoIntS _ os ((c + za + zb) % 16777216) rfl O1.out _ rfl (by simp [go_sem]) (by omega) (by have := HW.out.size; have := HB.out; simp only [World.size_alloc] at *; omega) ?_; intro v8 w8 hown hgr; replace HW := Lib.hid (bw_grownS HB.out HW.out O1.out hgr); replace O1 := Lib.hid hown; clear hown hgr; (try clear da); (try clear db))
        go_roundg (M - i)
        case measure => omega
        case rel =>
          rw [← HX.out] at O1
          exact ⟨i + 1, X / 16777216, os ++ [X % 16777216], by have := HX.out; omega, by omega, by go_num, by rw [HX.out], by omega, by omega, by simp; omega, HD2, HP2, HW, O1⟩
      · have hza : (i : Int) < la := by omega
        obtain ⟨ba, oa, cca, hv1, _, hda9⟩ := (HRa.out.mono HW.out).at (by have := HLa.out; omega)
        injection hv1 with i1 i2 i3; subst i1; clear i2 i3
        have da := hda9 i (by have := HLa.out; omega)
        clear hda9
        have hzb : ¬ (i : Int) < lb := by omega
        have hb0 := HDb0.out i (by omega)
        rw [show dg dsa i = dsa.getD i 0 from rfl] at HCS hda
        generalize dsa.getD i 0 = za at *
        rw [hb0] at HCS hdb
        clear hb0
        obtain ⟨X, hX⟩ : ∃ X, X = c + za := ⟨_, rfl⟩
        have hA := and24 X
        rw [show c + (za + 0) = X by omega] at HCS
        have HP2 := Lib.hid (HCS.out (X % 16777216) rfl)
        have HD2 := Lib.hid (HSN.out (X % 16777216) (by omega) (by omega))
        have hXb : 0 ≤ X ∧ X ≤ 33554431 := by omega
        have HX := Lib.hid hX
        rw [hX] at hA
        clear hX HCS HSN HD HP
        go_wp2_with (at_builtin; have hba := Bw.alloc (Bw.refl wr) (.cells #[.int .i64 ((c + za) % 16777216)] 3); replace O1 := Lib.hid (own_bw O1.out hba); replace HW := Lib.hid (HW.out.trans hba); clear hba; refine wpList_append_int1 rfl (.tmp 44) (.tmp 47) _ rfl BB 3 Try.underlying60 infoIntS _ os ((c + za) % 16777216) rfl O1.out _ rfl (by simp [go_sem]) (by omega) (by have := HW.out.size; have := HB.out; simp only [World.size_alloc] at *; omega) ?_; intro v8 w8 hown hgr; replace HW := Lib.hid (bw_grownS HB.out HW.out O1.out hgr); replace O1 := Lib.hid hown; clear hown hgr; (try clear da); (try clear db))
        go_roundg (M - i)
        case measure => omega
        case rel =>
          rw [← HX.out] at O1
          exact ⟨i + 1, X / 16777216, os ++ [X % 16777216], by have := HX.out; omega, by omega, by go_num, by rw [HX.out], by omega, by omega, by simp; omega, HD2, HP2, HW, O1⟩
    · by_cases ib : i < lb
      · have hza : ¬ (i : Int) < la := by omega
        have hzb : (i : Int) < lb := by omega
        obtain ⟨bb, ob, ccb, hv1, _, hdb9⟩ := (HRb.out.mono HW.out).at (by have := HLb.out; omega)
        injection hv1 with i1 i2 i3; subst i1; clear i2 i3
        have db := hdb9 i (by have := HLb.out; omega)
        clear hdb9
        have ha0 := HDa0.out i (by omega)
        rw [ha0] at HCS hda
        clear ha0
        rw [show dg dsb i = dsb.getD i 0 from rfl] at HCS hdb
        generalize dsb.getD i 0 = zb at *
        obtain ⟨X, hX⟩ : ∃ X, X = c + zb := ⟨_, rfl⟩
        have hA := and24 X
        rw [show c + (0 + zb) = X by omega] at HCS
        have HP2 := Lib.hid (HCS.out (X % 16777216) rfl)
        have HD2 := Lib.hid (HSN.out (X % 16777216) (by omega) (by omega))
        have hXb : 0 ≤ X ∧ X ≤ 33554431 := by omega
        have HX := Lib.hid hX
        rw [hX] at hA
        clear hX HCS HSN HD HP
        go_wp2_with (at_builtin; have hba := Bw.alloc (Bw.refl wr) (.cells #[.int .i64 ((c + zb) % 16777216)] 3); replace O1 := Lib.hid (own_bw O1.out hba); replace HW := Lib.hid (HW.out.trans hba); clear hba; refine wpList_append_int1 rfl (.tmp 44) (.tmp 47) _ rfl BB 3 Try.underlying60 infoIntS _ os ((c + zb) % 16777216) rfl O1.out _ rfl (by simp [go_sem]) (by omega) (by have := HW.out.size; have := HB.out; simp only [World.size_alloc] at *; omega) ?_; intro v8 w8 hown hgr; replace HW := Lib.hid (bw_grownS HB.out HW.out O1.out hgr); replace O1 := Lib.hid hown; clear hown hgr; (try clear da); (try clear db))
        go_roundg (M - i)
        case measure => omega
        case rel =>
          rw [← HX.out] at O1
          exact ⟨i + 1, X / 16777216, os ++ [X % 16777216], by have := HX.out; omega, by omega, by go_num, by rw [HX.out], by omega, by omega, by simp; omega, HD2, HP2, HW, O1⟩
      · by_cases hcz : 0 < c
        · have hza : ¬ (i : Int) < la := by omega
          have hzb : ¬ (i : Int) < lb := by omega
          have ha0 := HDa0.out i (by omega)
          have hb0 := HDb0.out i (by omega)
          rw [ha0] at HCS hda
          clear ha0
          rw [hb0] at HCS hdb
          clear hb0
          obtain ⟨X, hX⟩ : ∃ X, X = c := ⟨_, rfl⟩
          have hA := and24 X
          rw [show c + (0 + 0) = X by omega] at HCS
          have HP2 := Lib.hid (HCS.out (X % 16777216) rfl)
          have HD2 := Lib.hid (HSN.out (X % 16777216) (by omega) (by omega))
          have hXb : 0 ≤ X ∧ X ≤ 33554431 := by omega
          have HX := Lib.hid hX
          rw [hX] at hA
          clear hX HCS HSN HD HP
          go_wp2_with (at_builtin; have hba := Bw.alloc (Bw.refl wr) (.cells #[.int .i64 ((c) % 16777216)] 3); replace O1 := Lib.hid (own_bw O1.out hba); replace HW := Lib.hid (HW.out.trans hba); clear hba; refine wpList_append_int1 rfl (.tmp 44) (.tmp 47) _ rfl BB 3 Try.underlying60 infoIntS _ os ((c) % 16777216) rfl O1.out _ rfl (by simp [go_sem]) (by omega) (by have := HW.out.size; have := HB.out; simp only [World.size_alloc] at *; omega) ?_; intro v8 w8 hown hgr; replace HW := Lib.hid (bw_grownS HB.out HW.out O1.out hgr); replace O1 := Lib.hid hown; clear hown hgr; (try clear da); (try clear db))
          go_roundg (M - i)
          case measure => omega
          case rel =>
            rw [← HX.out] at O1
            exact ⟨i + 1, X / 16777216, os ++ [X % 16777216], by have := HX.out; omega, by omega, by go_num, by rw [HX.out], by omega, by omega, by simp; omega, HD2, HP2, HW, O1⟩
        · obtain rfl : c = 0 := by omega
          have hza : ¬ (i : Int) < la := by omega
          have hzb : ¬ (i : Int) < lb := by omega
          have HFN := Lib.hid (And.intro (own_rd O1.out (by omega)) (own_caps O1.out))
          obtain ⟨a5, c5, hv5⟩ := own_form2 O1.out
          subst hv5
          have HDV := Lib.hid (show dv os = A + B by
            rw [← HNa.out, ← HNb.out]
            have h9 := HP.out
            rw [Int.zero_mul, Int.add_zero, dv_at dsa i (by have := HLa.out; omega), dv_at dsb i (by have := HLb.out; omega)] at h9
            rw [← h9]; unfold dv; rw [hos])
          clear HCS HSN hda hdb O1 HP hos
          go_wp2_with (go_at_call 60; (with_reducible refine Calls.mono (TM.out os a5 c5 _ HFN.out.1.1 (HFN.out.2 _ _ _ rfl) HFN.out.1.2 HD.out _ HDV.out) ?_); rintro e1 w1 ⟨⟨v1, rfl, hn1⟩, hb1⟩)
          go_ret
          exact ⟨⟨_, rfl, hn1⟩, HW.out.trans hb1⟩
theorem wideSub_any (va vb : Value) (A B : Int) (ba bb : Nat) (w : World) (ha : Wd w ba va A) (hb : Wd w bb vb B) (hba : A ≤ 100000000000000000000000000000000000000000000000000000000000000000000000000000000000000000000000000000000000000000000000000000000000000000000000000000000000000000000000000000000000000000000000000000000000000000000000000000000000000000000000000000000000000000000000000000000000000000000000000000000000000000000000000000000000000000000000000000000000000000000000000000000000000000000000000000000000000000000000000000000000000000000000000000000000000000000000000000000000000000000000000000000000000000000) (hbb : B ≤ 100000000000000000000000000000000000000000000000000000000000000000000000000000000000000000000000000000000000000000000000000000000000000000000000000000000000000000000000000000000000000000000000000000000000000000000000000000000000000000000000000000000000000000000000000000000000000000000000000000000000000000000000000000000000000000000000000000000000000000000000000000000000000000000000000000000000000000000000000000000000000000000000000000000000000000000000000000000000000000000000000000000000000000000) (hle : B ≤ A) :
    Calls Try.prog 52 #[va, vb] w fun e w' => NumP31 w.heap.size (A - B) e w' ∧ Bw w w' := by
  obtain ⟨dsa, hRa, _, hDa, hTa, hNa⟩ := ha
  obtain ⟨aa, ca, rfl⟩ := hRa.form
  have HRa := Lib.hid hRa
  have HDa := Lib.hid hDa
  have HTa := Lib.hid hTa
  have HNa := Lib.hid hNa
  have hLa : dsa.length ≤ 80 := tr_len hTa hDa 80 (by rw [hNa]; exact Int.lt_of_le_of_lt hba (by decide))
  clear hRa hDa hTa hNa
  obtain ⟨dsb, hRb, _, hDb, hTb, hNb⟩ := hb
  obtain ⟨ab, cb, rfl⟩ := hRb.form
  have HRb := Lib.hid hRb
  have HDb := Lib.hid hDb
  have HTb := Lib.hid hTb
  have HNb := Lib.hid hNb
  have hLb : dsb.length ≤ 80 := tr_len hTb hDb 80 (by rw [hNb]; exact Int.lt_of_le_of_lt hbb (by decide))
  clear hRb hDb hTb hNb
  have hlab : dsb.length ≤ dsa.length := by
    rcases Nat.lt_or_ge dsa.length dsb.length with h | h
    · have h9 := len_lt HDa.out HDb.out HTb.out h
      have h1 := HNa.out
      have h2 := HNb.out
      omega
    · exact h
  obtain ⟨la, hla⟩ : ∃ la, la = dsa.length := ⟨_, rfl⟩
  obtain ⟨lb, hlb⟩ : ∃ lb, lb = dsb.length := ⟨_, rfl⟩
  rw [← hla] at HRa hLa ⊢
  rw [← hlb] at HRb hLb ⊢
  rw [← hla, ← hlb] at hlab
  have HLa := Lib.hid hla
  have HLb := Lib.hid hlb
  clear hla hlb
  have HDa0 := Lib.hid (show ∀ k, la ≤ k → dg dsa k = 0 from fun k h => dg_out dsa k (by have := HLa.out; omega))
  have HDb0 := Lib.hid (show ∀ k, lb ≤ k → dg dsb k = 0 from fun k h => dg_out dsb k (by have := HLb.out; omega))
  obtain ⟨BB, hBB⟩ : ∃ BB, w.heap.size = BB := ⟨_, rfl⟩
  have HB := Lib.hid hBB
  rw [hBB]
  clear hBB
  have TM := Lib.hid (fun (os : List Int) (a : Option Addr) (c : Nat) (W : World) => trim_any os a c BB W)
  go_enter Try.func52, Try.ntmps52
  go_wp2
  go_loopg [5, 6, 7] (la) (fun gg s5 s6 s7 wr => ∃ (i : Nat) (c : Int) (os : List Int), i ≤ la ∧ la - i ≤ gg ∧ s7 = .int .i64 i ∧ s6 = .int .i64 c ∧ -1 ≤ c ∧ c ≤ 0 ∧ os.length = i ∧ Hid (Dg (dg os)) ∧ Hid (pv (dg os) i + c * 16777216 ^ i = pv (dg dsa) i - pv (dg dsb) i) ∧ Hid (Bw w wr) ∧ Hid (wr.ownsRow BB 3 1 s5 os.length (os.map (Value.int .i64))))
  case atStart => exact ⟨0, 0, [], by omega, by omega, rfl, rfl, by omega, by omega, rfl, Lib.hid (fun i => by simp [dg]), Lib.hid (by simp [pv]), Lib.hid (Bw.refl _), Lib.hid (World.ownsRow_nil _ _ _ _)⟩
  case round =>
    obtain ⟨i, c, os, hi, hgg, rfl, rfl, hc0, hc1, hos, HD, HP, HW, O1⟩ := hrel
    have hda := HDa.out i
    have hdb := HDb.out i
    have HCS := Lib.hid (fun x h => carry_step (f := dg (os ++ [x])) i c (pv (dg dsa) i - pv (dg dsb) i) (pv (dg dsa) (i + 1) - pv (dg dsb) (i + 1)) (dg dsa i - dg dsb i) (by rw [(pv_snoc os x i hos).1]; exact HP.out) (by rw [(pv_snoc os x i hos).2]; exact h) (by rw [pv, pv, Int.sub_mul]; omega))
    have HSN := Lib.hid (fun x (h0 : 0 ≤ x) (h1 : x < 16777216) => HD.out.snoc (x := x) h0 h1)
    by_cases ia : i < la
    · by_cases ib : i < lb
      · have hza : (i : Int) < la := by omega
        obtain ⟨ba, oa, cca, hv1, _, hda9⟩ := (HRa.out.mono HW.out).at (by have := HLa.out; omega)
        injection hv1 with i1 i2 i3; subst i1; clear i2 i3
        have da := hda9 i (by have := HLa.out; omega)
        clear hda9
        have hzb : (i : Int) < lb := by omega
        obtain ⟨bb, ob, ccb, hv1, _, hdb9⟩ := (HRb.out.mono HW.out).at (by have := HLb.out; omega)
        injection hv1 with i1 i2 i3; subst i1; clear i2 i3
        have db := hdb9 i (by have := HLb.out; omega)
        clear hdb9
        rw [show dg dsa i = dsa.getD i 0 from rfl] at HCS hda
        generalize dsa.getD i 0 = za at *
        rw [show dg dsb i = dsb.getD i 0 from rfl] at HCS hdb
        generalize dsb.getD i 0 = zb at *
        obtain ⟨X, hX⟩ : ∃ X, X = c + za - zb := ⟨_, rfl⟩
        have hA := and24 X
        rw [show c + (za - zb) = X by omega] at HCS
        have HP2 := Lib.hid (HCS.out (X % 16777216) rfl)
        have HD2 := Lib.hid (HSN.out (X % 16777216) (by omega) (by omega))
        have hXb : -16777216 ≤ X ∧ X < 16777216 := by omega
        have HX := Lib.hid hX
        rw [hX] at hA
        clear hX HCS HSN HD HP
        go_wp2_with (at_builtin; have hba := Bw.alloc (Bw.refl wr) (.cells #[.int .i64 ((c + za - zb) % 16777216)] 3); replace O1 := Lib.hid (own_bw O1.out hba); replace HW := Lib.hid (HW.out.trans hba); clear hba; refine wpList_append_int1 rfl (.tmp 30) (.tmp 33) _ rfl BB 3 Try.underlying60 infoIntS _ os ((c + za - zb) % 16777216) rfl O1.out _ rfl (by simp [go_sem]) (by omega) (by have := HW.out.size; have := HB.out; simp only [World.size_alloc] at *; omega) ?_; intro v8 w8 hown hgr; replace HW := Lib.hid (bw_grownS HB.out HW.out O1.out hgr); replace O1 := Lib.hid hown; clear hown hgr; (try clear da); (try clear db))
        go_roundg (la - (i + 1))
        case measure => omega
        case rel =>
          rw [← HX.out] at O1
          exact ⟨i + 1, X / 16777216, os ++ [X % 16777216], by omega, by omega, by go_num, by rw [HX.out], by omega, by omega, by simp; omega, HD2, HP2, HW, O1⟩
      · have hza : (i : Int) < la := by omega
        obtain ⟨ba, oa, cca, hv1, _, hda9⟩ := (HRa.out.mono HW.out).at (by have := HLa.out; omega)
        injection hv1 with i1 i2 i3; subst i1; clear i2 i3
        have da := hda9 i (by have := HLa.out; omega)
        clear hda9
        have hzb : ¬ (i : Int) < lb := by omega
        have hb0 := HDb0.out i (by omega)
        rw [show dg dsa i = dsa.getD i 0 from rfl] at HCS hda
        generalize dsa.getD i 0 = za at *
        rw [hb0] at HCS hdb
        clear hb0
        obtain ⟨X, hX⟩ : ∃ X, X = c + za := ⟨_, rfl⟩
        have hA := and24 X
        rw [show c + (za - 0) = X by omega] at HCS
        have HP2 := Lib.hid (HCS.out (X % 16777216) rfl)
        have HD2 := Lib.hid (HSN.out (X % 16777216) (by omega) (by omega))
        have hXb : -16777216 ≤ X ∧ X < 16777216 := by omega
        have HX := Lib.hid hX
        rw [hX] at hA
        clear hX HCS HSN HD HP
        go_wp2_with (at_builtin; have hba := Bw.alloc (Bw.refl wr) (.cells #[.int .i64 ((c + za) % 16777216)] 3); replace O1 := Lib.hid (own_bw O1.out hba); replace HW := Lib.hid (HW.out.trans hba); clear hba; refine wpList_append_int1 rfl (.tmp 30) (.tmp 33) _ rfl BB 3 Try.underlying60 infoIntS _ os ((c + za) % 16777216) rfl O1.out _ rfl (by simp [go_sem]) (by omega) (by have := HW.out.size; have := HB.out; simp only [World.size_alloc] at *; omega) ?_; intro v8 w8 hown hgr; replace HW := Lib.hid (bw_grownS HB.out HW.out O1.out hgr); replace O1 := Lib.hid hown; clear hown hgr; (try clear da); (try clear db))
        go_roundg (la - (i + 1))
        case measure => omega
        case rel =>
          rw [← HX.out] at O1
          exact ⟨i + 1, X / 16777216, os ++ [X % 16777216], by omega, by omega, by go_num, by rw [HX.out], by omega, by omega, by simp; omega, HD2, HP2, HW, O1⟩
    · obtain rfl : i = la := by omega
      have hza : ¬ (i : Int) < i := by omega
      have HFN := Lib.hid (And.intro (own_rd O1.out (by omega)) (own_caps O1.out))
      obtain ⟨a5, c5, hv5⟩ := own_form2 O1.out
      subst hv5
      have HDV := Lib.hid (show dv os = A - B by
        have h9 := HP.out
        rw [dv_at dsa i (by have := HLa.out; omega), dv_at dsb i (by have := HLb.out; omega), HNa.out, HNb.out] at h9
        have h8 := pv_bd HD.out i
        have h7 : c = 0 := by
          rcases Int.lt_or_le c 0 with h | h
          · obtain rfl : c = -1 := by omega
            rw [Int.neg_mul, Int.one_mul] at h9
            omega
          · omega
        subst h7
        rw [← hos] at h9
        unfold dv; omega)
      clear HCS HSN hda hdb O1 HP hos
      go_wp2_with (go_at_call 60; (with_reducible refine Calls.mono (TM.out os a5 c5 _ HFN.out.1.1 (HFN.out.2 _ _ _ rfl) HFN.out.1.2 HD.out _ HDV.out) ?_); rintro e1 w1 ⟨⟨v1, rfl, hn1⟩, hb1⟩)
      go_ret
      exact ⟨⟨_, rfl, hn1⟩, HW.out.trans hb1⟩
end Go.Proofs.Sky

namespace Go.Proofs.Sky
open Go Go.RowKit Go.Shelf
set_option maxHeartbeats 4000000
set_option maxRecDepth 4000
theorem num_at {w w' : World} {a : Option Addr} {l c : Nat} {zs : List Int} (h : RdI w (.slice a l c) zs) (hb : Bw w w') (hl : l = zs.length) (k : Nat) (hk : k < l) : ∃ b o, a = some ⟨b, o, none⟩ ∧ w'.cell? ⟨b, o + k, none⟩ = some (.int .i64 (dg zs k)) := by
  obtain ⟨b, o, cc, hv, _, hd⟩ := (h.mono hb).at (by omega)
  injection hv with i1 i2 i3
  exact ⟨b, o, i1, hd k (by omega)⟩
theorem wideLess_any (va vb : Value) (A B : Int) (ba bb : Nat) (w : World) (ha : Wd w ba va A) (hb : Wd w bb vb B) (hba : A ≤ 100000000000000000000000000000000000000000000000000000000000000000000000000000000000000000000000000000000000000000000000000000000000000000000000000000000000000000000000000000000000000000000000000000000000000000000000000000000000000000000000000000000000000000000000000000000000000000000000000000000000000000000000000000000000000000000000000000000000000000000000000000000000000000000000000000000000000000000000000000000000000000000000000000000000000000000000000000000000000000000000000000000000000000000) (hbb : B ≤ 100000000000000000000000000000000000000000000000000000000000000000000000000000000000000000000000000000000000000000000000000000000000000000000000000000000000000000000000000000000000000000000000000000000000000000000000000000000000000000000000000000000000000000000000000000000000000000000000000000000000000000000000000000000000000000000000000000000000000000000000000000000000000000000000000000000000000000000000000000000000000000000000000000000000000000000000000000000000000000000000000000000000000000000) :
    Calls Try.prog 51 #[va, vb] w fun e w' => e = .returned (.bool (decide (A < B))) ∧ Bw w w' := by
  obtain ⟨dsa, hRa, _, hDa, hTa, hNa⟩ := ha
  obtain ⟨aa, ca, rfl⟩ := hRa.form
  have HRa := Lib.hid hRa
  have HDa := Lib.hid hDa
  have HTa := Lib.hid hTa
  have HNa := Lib.hid hNa
  have hLa : dsa.length ≤ 80 := tr_len hTa hDa 80 (by rw [hNa]; exact Int.lt_of_le_of_lt hba (by decide))
  clear hRa hDa hTa hNa
  obtain ⟨la, hla⟩ : ∃ la, la = dsa.length := ⟨_, rfl⟩
  rw [← hla] at HRa hLa ⊢
  have HLa := Lib.hid hla
  clear hla
  obtain ⟨dsb, hRb, _, hDb, hTb, hNb⟩ := hb
  obtain ⟨ab, cb, rfl⟩ := hRb.form
  have HRb := Lib.hid hRb
  have HDb := Lib.hid hDb
  have HTb := Lib.hid hTb
  have HNb := Lib.hid hNb
  have hLb : dsb.length ≤ 80 := tr_len hTb hDb 80 (by rw [hNb]; exact Int.lt_of_le_of_lt hbb (by decide))
  clear hRb hDb hTb hNb
  obtain ⟨lb, hlb⟩ : ∃ lb, lb = dsb.length := ⟨_, rfl⟩
  rw [← hlb] at HRb hLb ⊢
  have HLb := Lib.hid hlb
  clear hlb
  obtain ⟨D, hD⟩ : ∃ D, D = decide (A < B) := ⟨_, rfl⟩
  rw [← hD]
  have HD := Lib.hid hD
  clear hD
  rcases Nat.lt_trichotomy la lb with hlt | heq | hgt
  · have h9 := len_lt HDa.out HDb.out HTb.out (by have := HLa.out; have := HLb.out; omega)
    have HE := Lib.hid (show true = D by rw [HD.out]; symm; rw [decide_eq_true_iff]; have := HNa.out; have := HNb.out; omega)
    have q1 : ((la : Int) != lb) = true := by simp; omega
    have q2 : (la : Int) < lb := by omega
    clear h9
    go_enter Try.func51, Try.ntmps51
    go_wp2
    go_ret
    exact ⟨ret_bool HE.out, Bw.refl _⟩
  · subst heq
    go_enter Try.func51, Try.ntmps51
    go_wp2
    go_loopg [5] la (fun gg s5 wr => ∃ r : Nat, r ≤ la ∧ r ≤ gg ∧ s5 = .int .i64 ((r : Int) - 1) ∧ Hid (Bw w wr) ∧ Hid (∀ j, r ≤ j → dg dsa j = dg dsb j))
    case atStart => exact ⟨la, Nat.le_refl _, Nat.le_refl _, rfl, Lib.hid (Bw.refl _), Lib.hid (fun j hj => by rw [dg_out _ _ (by have := HLa.out; omega), dg_out _ _ (by have := HLb.out; omega)])⟩
    case round =>
      obtain ⟨r, hr, hgg, rfl, HW, HI⟩ := hrel
      rcases Nat.eq_zero_or_pos r with h0 | h0
      · subst h0
        have hneg : ¬ (0 : Int) ≤ ((0 : Nat) : Int) - 1 := by omega
        have HE := Lib.hid (show false = D by
          rw [HD.out]; symm; rw [decide_eq_false_iff_not]
          have h1 := HNa.out
          have h2 := HNb.out
          have h3 : dv dsa = dv dsb := by unfold dv; rw [← HLa.out, ← HLb.out]; exact pv_congr la (fun i _ => HI.out i (Nat.zero_le _))
          omega)
        go_wp2
        go_ret
        exact ⟨ret_bool HE.out, HW.out⟩
      · obtain ⟨m, rfl⟩ : ∃ m, r = m + 1 := ⟨r - 1, by omega⟩
        have hmz : ((m + 1 : Nat) : Int) - 1 = (m : Int) := by omega
        rw [hmz]
        clear hmz h0
        have hm0 : (0 : Int) ≤ m := by omega
        have hml : (m : Int) < la := by omega
        obtain ⟨b1, o1, rfl, d1⟩ := num_at HRa.out HW.out HLa.out m (by omega)
        obtain ⟨b2, o2, rfl, d2⟩ := num_at HRb.out HW.out HLb.out m (by omega)
        have HE2 := Lib.hid (show dg dsa m = dg dsb m → ∀ j, m ≤ j → dg dsa j = dg dsb j from fun h j hj => by
          rcases Nat.lt_or_ge m j with h1 | h1
          · exact HI.out j (by omega)
          · obtain rfl : j = m := by omega
            exact h)
        have HLT := Lib.hid (show dg dsa m < dg dsb m → true = D from fun h => by
          rw [HD.out]; symm; rw [decide_eq_true_iff, ← HNa.out, ← HNb.out]
          unfold dv; rw [← HLa.out, ← HLb.out]
          exact top_lt HDa.out HDb.out m la (by omega) (fun i hi _ => HI.out i (by omega)) h)
        have HGT := Lib.hid (show dg dsb m < dg dsa m → false = D from fun h => by
          rw [HD.out]; symm; rw [decide_eq_false_iff_not, ← HNa.out, ← HNb.out]
          unfold dv; rw [← HLa.out, ← HLb.out]
          have := top_lt HDb.out HDa.out m la (by omega) (fun i hi _ => (HI.out i (by omega)).symm) h
          omega)
        clear HI
        generalize dg dsa m = x at *
        generalize dg dsb m = y at *
        have dd1 := (Bw.drew (Bw.refl wr)).cell' d1
        have dd2 := (Bw.drew (Bw.refl wr)).cell' d2
        by_cases hxy : x = y
        · subst hxy
          have HE3 := Lib.hid (HE2.out rfl)
          clear HE2 HLT HGT
          go_wp2
          go_region
          go_wp2
          go_roundg m
          case measure => omega
          case rel => exact ⟨m, by omega, by omega, by go_num, Lib.hid (HW.out.trans (Bw.drew (Bw.refl _))), HE3⟩
        · have hne : (x != y) = true := by simpa using hxy
          have HF := Lib.hid (show decide (x < y) = D by
            rcases Int.lt_or_le x y with h | h
            · rw [← HLT.out h]; simpa using h
            · rw [← HGT.out (by omega)]; simpa using h)
          clear HE2 HLT HGT hxy
          go_wp2
          go_region
          go_wp2
          go_region
          go_wp2
          go_ret
          exact ⟨ret_bool HF.out, HW.out.trans (Bw.drew (Bw.drew (Bw.refl _)))⟩
  · have h9 := len_lt HDb.out HDa.out HTa.out (by have := HLa.out; have := HLb.out; omega)
    have HE := Lib.hid (show false = D by rw [HD.out]; symm; rw [decide_eq_false_iff_not]; have := HNa.out; have := HNb.out; omega)
    have q1 : ((la : Int) != lb) = true := by simp; omega
    have q2 : ¬ (la : Int) < lb := by omega
    clear h9
    go_enter Try.func51, Try.ntmps51
    go_wp2
    go_ret
    exact ⟨ret_bool HE.out, Bw.refl _⟩
theorem wideInt_any (va : Value) (A : Int) (ba : Nat) (w : World) (ha : Wd w ba va A) (hA : A < 4611686018427387904) :
    Calls Try.prog 54 #[va] w fun e w' => e = .returned (.int .i64 A) ∧ Bw w w' := by
  have hba : A ≤ 100000000000000000000000000000000000000000000000000000000000000000000000000000000000000000000000000000000000000000000000000000000000000000000000000000000000000000000000000000000000000000000000000000000000000000000000000000000000000000000000000000000000000000000000000000000000000000000000000000000000000000000000000000000000000000000000000000000000000000000000000000000000000000000000000000000000000000000000000000000000000000000000000000000000000000000000000000000000000000000000000000000000000000000 := Int.le_trans (Int.le_of_lt hA) (by decide)
  obtain ⟨dsa, hRa, _, hDa, hTa, hNa⟩ := ha
  obtain ⟨aa, ca, rfl⟩ := hRa.form
  have HRa := Lib.hid hRa
  have HDa := Lib.hid hDa
  have HTa := Lib.hid hTa
  have HNa := Lib.hid hNa
  have hLa : dsa.length ≤ 80 := tr_len hTa hDa 80 (by rw [hNa]; exact Int.lt_of_le_of_lt hba (by decide))
  clear hRa hDa hTa hNa
  obtain ⟨la, hla⟩ : ∃ la, la = dsa.length := ⟨_, rfl⟩
  rw [← hla] at HRa hLa ⊢
  have HLa := Lib.hid hla
  clear hla
  clear hba
  go_enter Try.func54, Try.ntmps54
  go_wp2
  go_loopg [3, 4] la (fun gg s3 s4 wr => ∃ (r : Nat) (m : Int), r ≤ la ∧ r ≤ gg ∧ s4 = .int .i64 ((r : Int) - 1) ∧ s3 = .int .i64 m ∧ 0 ≤ m ∧ Hid (m * 16777216 ^ r + pv (dg dsa) r = A) ∧ wr = w)
  case atStart => exact ⟨la, 0, Nat.le_refl _, Nat.le_refl _, rfl, rfl, by omega, Lib.hid (by rw [Int.zero_mul, Int.zero_add, dv_at dsa la (by have := HLa.out; omega)]; exact HNa.out), rfl⟩
  case round =>
    obtain ⟨r, m, hr, hgg, rfl, rfl, hm, HI, hwr⟩ := hrel
    replace hwr := hwr.symm
    subst hwr
    rcases Nat.eq_zero_or_pos r with h0 | h0
    · subst h0
      have hneg : ¬ (0 : Int) ≤ ((0 : Nat) : Int) - 1 := by omega
      have HE := Lib.hid (show m = A by have := HI.out; simpa [pv] using this)
      go_wp2
      go_ret
      exact ⟨ret_int HE.out, Bw.refl _⟩
    · obtain ⟨k, rfl⟩ : ∃ k, r = k + 1 := ⟨r - 1, by omega⟩
      have hmz : ((k + 1 : Nat) : Int) - 1 = (k : Int) := by omega
      rw [hmz]
      clear hmz h0
      have hm0 : (0 : Int) ≤ k := by omega
      have hml : (k : Int) < la := by omega
      obtain ⟨b1, o1, rfl, d1⟩ := num_at HRa.out (Bw.refl _) HLa.out k (by omega)
      have hdk := HDa.out k
      have HI2 := Lib.hid (show (m * 16777216 + dg dsa k) * 16777216 ^ k + pv (dg dsa) k = A by
        have h9 := HI.out
        rw [pv, Int.pow_succ, Int.mul_comm (16777216 ^ k) 16777216, ← Int.mul_assoc] at h9
        rw [Int.add_mul]; omega)
      have hbd : m * 16777216 + dg dsa k ≤ A := by
        have h1 := HI2.out
        have h2 := (pv_bd HDa.out k).1
        have h3 : (m * 16777216 + dg dsa k) * 1 ≤ (m * 16777216 + dg dsa k) * 16777216 ^ k := Int.mul_le_mul_of_nonneg_left (pw24_pos k) (by omega)
        omega
      clear HI
      generalize dg dsa k = x at *
      have hm2 : m * 2 ^ 24 = m * 16777216 := rfl
      go_wp2
      go_roundg k
      case measure => omega
      case rel => exact ⟨k, m * 16777216 + x, by omega, by omega, by go_num, by go_num, by omega, HI2, rfl⟩
end Go.Proofs.Sky

namespace Go.Proofs.Sky
open Go Go.RowKit Go.Shelf
set_option maxHeartbeats 4000000
set_option maxRecDepth 4000
def cI (zs : List Int) : Array Value := (zs.map (Value.int .i64)).toArray
theorem cI_at (zs : List Int) (j : Nat) (h : j < zs.length) : (cI zs)[j]? = some (.int .i64 (dg zs j)) := by
  unfold cI dg
  rw [List.getElem?_toArray, List.getElem?_map, List.getElem?_eq_getElem h, List.getD_eq_getElem?_getD, List.getElem?_eq_getElem h]; rfl
theorem cI_set (zs : List Int) (j : Nat) (x : Int) : (cI zs).setIfInBounds j (.int .i64 x) = cI (zs.set j x) := by
  unfold cI
  rw [List.setIfInBounds_toArray, List.map_set]
theorem madeS (n : Nat) : madeCells #[.int .i64 0] (n * 1) = cI (List.replicate n 0) := by
  apply Array.toList_inj.1
  unfold cI
  rw [List.map_replicate]
  apply List.ext_getElem?
  intro j
  by_cases hj : j < n
  · simp [madeCells, hj, Nat.mod_one]
  · simp [madeCells, hj]
theorem makeNum (n : Nat) (hn : n ≤ 1048576) (w : World) : (Instr.makeSlice 60 (.int .i64 n) (.int .i64 n)).run Try.prog w = .ok (.slice (some ⟨w.heap.size, 0, none⟩) n n) (w.alloc (.cells (cI (List.replicate n 0)) 3)) := by
  obtain ⟨i, hi, hzz⟩ := Option.map_eq_some_iff.1 infoIntS
  simp only [Prod.mk.injEq] at hzz
  obtain ⟨hz, hs, hb⟩ := hzz
  have h := run_make (P := Try.prog) w 60 3 i _ Try.underlying60 hi hz .i64 .i64 n n (by omega) (by omega) (by rw [hb]; omega) (by omega)
  rw [← madeS]
  simpa [hs, Value.cells] using h
theorem rdI_blk {w : World} {g : Nat} {T : TypeId} {zs : List Int} {n : Nat} (h : Blk w g T (cI zs)) (hn : n = zs.length) (hl : n ≤ 1048576) : RdI w (.slice (some ⟨g, 0, none⟩) n n) zs := by
  refine ⟨by omega, _, _, by rw [hn], ?_⟩
  right
  exact ⟨g, 0, rfl, h.lt, fun i hi => by rw [Nat.zero_add]; exact h.cell (cI_at zs i hi)⟩
theorem dg_set (zs : List Int) (j : Nat) (x : Int) (i : Nat) (hj : j < zs.length) : dg (zs.set j x) i = if i = j then x else dg zs i := by
  unfold dg
  rw [List.getD_eq_getElem?_getD, List.getD_eq_getElem?_getD, List.getElem?_set]
  by_cases h : i = j
  · subst h; simp [hj]
  · rw [if_neg (by omega), if_neg h]
theorem dg_rep (n i : Nat) : dg (List.replicate n 0) i = 0 := by
  unfold dg; rw [List.getD_eq_getElem?_getD, List.getElem?_replicate]; split <;> rfl
theorem pv_set (zs : List Int) (j : Nat) (x : Int) (hj : j < zs.length) (M : Nat) (hM : j < M) : pv (dg (zs.set j x)) M = pv (dg zs) M + (x - dg zs j) * 16777216 ^ j := by
  have h1 : pv (dg (zs.set j x)) j = pv (dg zs) j := pv_congr j (fun i hi => by rw [dg_set _ _ _ _ hj, if_neg (by omega)])
  have h2 := pv_top (f := dg (zs.set j x)) (g := dg zs) (j + 1) M (by omega) (fun i h3 _ => by rw [dg_set _ _ _ _ hj, if_neg (by omega)])
  have e1 : pv (dg (zs.set j x)) (j + 1) = pv (dg (zs.set j x)) j + dg (zs.set j x) j * 16777216 ^ j := rfl
  have e2 : pv (dg zs) (j + 1) = pv (dg zs) j + dg zs j * 16777216 ^ j := rfl
  rw [dg_set _ _ _ _ hj, if_pos rfl] at e1
  rw [Int.sub_mul]
  omega
theorem Dg.set {zs : List Int} (h : Dg (dg zs)) (j : Nat) (x : Int) (hj : j < zs.length) (h0 : 0 ≤ x) (h1 : x < 16777216) : Dg (dg (zs.set j x)) := by
  intro i
  rw [dg_set _ _ _ _ hj]
  split
  · omega
  · exact h i
theorem div_lt (r a d : Int) (hd : 1 ≤ d) (h0 : 0 ≤ r) (h1 : r < d) (ha : 0 ≤ a) (hb : a < 16777216) : 0 ≤ (r * 16777216 + a) / d ∧ (r * 16777216 + a) / d < 16777216 := by
  refine ⟨Int.ediv_nonneg (by omega) (by omega), ?_⟩
  rw [Int.ediv_lt_iff_lt_mul (by omega)]
  omega
theorem wideDiv_any (va : Value) (A d : Int) (ba : Nat) (w : World) (ha : Wd w ba va A) (hba : A ≤ 100000000000000000000000000000000000000000000000000000000000000000000000000000000000000000000000000000000000000000000000000000000000000000000000000000000000000000000000000000000000000000000000000000000000000000000000000000000000000000000000000000000000000000000000000000000000000000000000000000000000000000000000000000000000000000000000000000000000000000000000000000000000000000000000000000000000000000000000000000000000000000000000000000000000000000000000000000000000000000000000000000000000000000000) (hd1 : 1 ≤ d) (hd2 : d < 2147483648) :
    Calls Try.prog 53 #[va, .int .i64 d] w fun e w' => NumP31 w.heap.size (A / d) e w' ∧ Bw w w' := by
  obtain ⟨dsa, hRa, _, hDa, hTa, hNa⟩ := ha
  obtain ⟨aa, ca, rfl⟩ := hRa.form
  have HRa := Lib.hid hRa
  have HDa := Lib.hid hDa
  have HTa := Lib.hid hTa
  have HNa := Lib.hid hNa
  have hLa : dsa.length ≤ 80 := tr_len hTa hDa 80 (by rw [hNa]; exact Int.lt_of_le_of_lt hba (by decide))
  clear hRa hDa hTa hNa
  obtain ⟨la, hla⟩ : ∃ la, la = dsa.length := ⟨_, rfl⟩
  rw [← hla] at HRa hLa ⊢
  have HLa := Lib.hid hla
  clear hla
  have hmk := fun w => makeNum la (by omega) w
  obtain ⟨BB, hBB⟩ : ∃ BB, w.heap.size = BB := ⟨_, rfl⟩
  have HB := Lib.hid hBB
  have TM := Lib.hid (fun (os : List Int) (a : Option Addr) (c : Nat) (W : World) => trim_any os a c BB W)
  have BX := Lib.hid (Blk.new w 3 (cI (List.replicate la 0)))
  have HW := Lib.hid (Bw.alloc (Bw.refl w) (.cells (cI (List.replicate la 0)) 3))
  rw [hBB] at BX ⊢
  go_enter Try.func53, Try.ntmps53
  go_upto_region 2 with fail
  obtain ⟨W0, hW0⟩ : ∃ W0, w.alloc (.cells (cI (List.replicate la 0)) 3) = W0 := ⟨_, rfl⟩
  rw [hW0] at BX HW ⊢
  clear hW0 hmk hBB
  go_wp2
  go_loopg [6, 7] la (fun gg s6 s7 wr => ∃ (r : Nat) (m : Int) (bs : List Int), r ≤ la ∧ r ≤ gg ∧ s7 = .int .i64 ((r : Int) - 1) ∧ s6 = .int .i64 m ∧ 0 ≤ m ∧ m < d ∧ bs.length = la ∧ Hid (Dg (dg bs)) ∧ Hid (pv (dg dsa) la - pv (dg dsa) r = d * (pv (dg bs) la - pv (dg bs) r) + m * 16777216 ^ r) ∧ Hid (Bw w wr) ∧ Hid (Blk wr BB 3 (cI bs)))
  case atStart => exact ⟨la, 0, List.replicate la 0, Nat.le_refl _, Nat.le_refl _, rfl, rfl, by omega, by omega, by simp, Lib.hid (fun i => by rw [dg_rep]; omega), Lib.hid (by simp), HW, BX⟩
  case round =>
    clear HW BX
    obtain ⟨r, m, os, hr, hgg, rfl, rfl, hm0, hmd, hos, HD, HP, HW, BX⟩ := hrel
    rcases Nat.eq_zero_or_pos r with h0 | h0
    · subst h0
      have hneg : ¬ (0 : Int) ≤ ((0 : Nat) : Int) - 1 := by omega
      have HDV := Lib.hid (show dv os = A / d by
        have h9 := HP.out
        rw [dv_at dsa la (by have := HLa.out; omega), HNa.out] at h9
        simp only [pv, Int.sub_zero, Int.pow_zero, Int.mul_one] at h9
        have e : pv (dg os) la = dv os := by unfold dv; rw [hos]
        rw [e] at h9
        rw [h9, Int.add_comm, Int.add_mul_ediv_left _ _ (by omega), Int.ediv_eq_zero_of_lt hm0 hmd, Int.zero_add])
      have hR := rdI_blk BX.out hos.symm (by omega)
      rw [← hos] at hR
      have HR := Lib.hid hR
      have hla : la = os.length := hos.symm
      subst hla
      clear hR hos
      go_wp2_with (go_at_call 60; (with_reducible refine Calls.mono (TM.out os _ os.length _ HR.out (by omega) (Fresh.at (Nat.le_refl _)) HD.out _ HDV.out) ?_); rintro e1 w1 ⟨⟨v1, rfl, hn1⟩, hb1⟩)
      go_ret
      exact ⟨⟨_, rfl, hn1⟩, HW.out.trans hb1⟩
    · obtain ⟨k, rfl⟩ : ∃ k, r = k + 1 := ⟨r - 1, by omega⟩
      have hmz : ((k + 1 : Nat) : Int) - 1 = (k : Int) := by omega
      rw [hmz]
      clear hmz h0
      have hk0 : (0 : Int) ≤ k := by omega
      have hkl : (k : Int) < la := by omega
      obtain ⟨b1, o1, rfl, d1⟩ := num_at HRa.out HW.out HLa.out k (by omega)
      have hdk := HDa.out k
      have hq := div_lt m (dg dsa k) d hd1 hm0 hmd hdk.1 hdk.2
      have hq2 := Int.emod_nonneg (m * 16777216 + dg dsa k) (show d ≠ 0 by omega)
      have hq3 := Int.emod_lt_of_pos (m * 16777216 + dg dsa k) (show 0 < d by omega)
      have HE := Lib.hid (Int.mul_ediv_add_emod (m * 16777216 + dg dsa k) d)
      have HST := Lib.hid (show ∀ x, 0 ≤ x → x < 16777216 → ∀ y, d * x + y = m * 16777216 + dg dsa k → pv (dg dsa) la - pv (dg dsa) k = d * (pv (dg (os.set k x)) la - pv (dg (os.set k x)) k) + y * 16777216 ^ k from fun x _ _ y hxy => by
        have h9 := HP.out
        have hk : k < os.length := by omega
        have h1 : pv (dg (os.set k x)) k = pv (dg os) k := pv_congr k (fun i hi => by rw [dg_set _ _ _ _ hk, if_neg (by omega)])
        have h2 := pv_top (f := dg (os.set k x)) (g := dg os) (k + 1) la (by omega) (fun i h3 _ => by rw [dg_set _ _ _ _ hk, if_neg (by omega)])
        have e1 : pv (dg (os.set k x)) (k + 1) = pv (dg (os.set k x)) k + dg (os.set k x) k * 16777216 ^ k := rfl
        rw [dg_set _ _ _ _ hk, if_pos rfl] at e1
        have e2 : pv (dg dsa) (k + 1) = pv (dg dsa) k + dg dsa k * 16777216 ^ k := rfl
        have e3 : pv (dg (os.set k x)) la - pv (dg (os.set k x)) k = (pv (dg os) la - pv (dg os) (k + 1)) + x * 16777216 ^ k := by omega
        rw [e3, Int.mul_add, ← Int.mul_assoc]
        have e4 : (d * x + y) * 16777216 ^ k = (m * 16777216 + dg dsa k) * 16777216 ^ k := by rw [hxy]
        rw [Int.add_mul, Int.add_mul] at e4
        rw [Int.pow_succ, Int.mul_comm (16777216 ^ k) 16777216, ← Int.mul_assoc m] at h9
        omega)
      clear HP
      generalize dg dsa k = x at *
      have hm2 : m * 2 ^ 24 = m * 16777216 := rfl
      have z1 := BX.out.cell (cI_at os k (by omega))
      have z2 := BX.out.frozen k
      have hdne : d ≠ 0 := by omega
      have htd : (m * 16777216 + x).tdiv d = (m * 16777216 + x) / d := Int.tdiv_eq_ediv_of_nonneg (by omega)
      have htm : (m * 16777216 + x).tmod d = (m * 16777216 + x) % d := Int.tmod_eq_emod_of_nonneg (by omega)
      have HT1 := Lib.hid htd
      have HT2 := Lib.hid htm
      go_wp2
      go_roundg k
      case measure => omega
      case rel =>
        refine ⟨k, (m * 16777216 + x) % d, os.set k ((m * 16777216 + x) / d), by omega, by omega, by go_num, ?_, hq2, hq3, by simp; omega, Lib.hid (HD.out.set k _ (by omega) hq.1 hq.2), Lib.hid (HST.out _ hq.1 hq.2 _ HE.out), Lib.hid (Bw.setCell HW.out (by have := HB.out; simp; omega) _), Lib.hid ?_⟩
        · first | rfl | rw [HT2.out] | simp [HT2.out]
        · rw [← cI_set]; first | exact BX.out.set k _ | (rw [← HT1.out]; exact BX.out.set k _)
end Go.Proofs.Sky

namespace Go.Proofs.Sky
open Go Go.RowKit Go.Shelf
set_option maxHeartbeats 4000000
set_option maxRecDepth 4000
theorem mul_dg {x y : Int} (hx : 0 ≤ x ∧ x < 16777216) (hy : 0 ≤ y ∧ y < 16777216) : 0 ≤ x * y ∧ x * y ≤ 281474943156225 := by
  refine ⟨Int.mul_nonneg hx.1 hy.1, ?_⟩
  have h1 : x * y ≤ 16777215 * y := Int.mul_le_mul_of_nonneg_right (by omega) hy.1
  omega
theorem wideMul_any (va vb : Value) (A B : Int) (ba bb : Nat) (w : World) (ha : Wd w ba va A) (hb : Wd w bb vb B) (hba : A ≤ 100000000000000000000000000000000000000000000000000000000000000000000000000000000000000000000000000000000000000000000000000000000000000000000000000000000000000000000000000000000000000000000000000000000000000000000000000000000000000000000000000000000000000000000000000000000000000000000000000000000000000000000000000000000000000000000000000000000000000000000000000000000000000000000000000000000000000000000000000000000000000000000000000000000000000000000000000000000000000000000000000000000000000000000) (hbb : B ≤ 100000000000000000000000000000000000000000000000000000000000000000000000000000000000000000000000000000000000000000000000000000000000000000000000000000000000000000000000000000000000000000000000000000000000000000000000000000000000000000000000000000000000000000000000000000000000000000000000000000000000000000000000000000000000000000000000000000000000000000000000000000000000000000000000000000000000000000000000000000000000000000000000000000000000000000000000000000000000000000000000000000000000000000000) :
    Calls Try.prog 49 #[va, vb] w fun e w' => NumP31 w.heap.size (A * B) e w' ∧ Bw w w' := by
  obtain ⟨dsa, hRa, _, hDa, hTa, hNa⟩ := ha
  obtain ⟨aa, ca, rfl⟩ := hRa.form
  have HRa := Lib.hid hRa
  have HDa := Lib.hid hDa
  have HTa := Lib.hid hTa
  have HNa := Lib.hid hNa
  have hLa : dsa.length ≤ 80 := tr_len hTa hDa 80 (by rw [hNa]; exact Int.lt_of_le_of_lt hba (by decide))
  clear hRa hDa hTa hNa
  obtain ⟨la, hla⟩ : ∃ la, la = dsa.length := ⟨_, rfl⟩
  rw [← hla] at HRa hLa ⊢
  have HLa := Lib.hid hla
  clear hla
  obtain ⟨dsb, hRb, _, hDb, hTb, hNb⟩ := hb
  obtain ⟨ab, cb, rfl⟩ := hRb.form
  have HRb := Lib.hid hRb
  have HDb := Lib.hid hDb
  have HTb := Lib.hid hTb
  have HNb := Lib.hid hNb
  have hLb : dsb.length ≤ 80 := tr_len hTb hDb 80 (by rw [hNb]; exact Int.lt_of_le_of_lt hbb (by decide))
  clear hRb hDb hTb hNb
  obtain ⟨lb, hlb⟩ : ∃ lb, lb = dsb.length := ⟨_, rfl⟩
  rw [← hlb] at HRb hLb ⊢
  have HLb := Lib.hid hlb
  clear hlb
  obtain ⟨M, hM⟩ : ∃ M, M = la + lb + 1 := ⟨_, rfl⟩
  have hmk : ∀ w, (Instr.makeSlice 60 (.int .i64 ((la : Int) + lb + 1)) (.int .i64 ((la : Int) + lb + 1))).run Try.prog w = .ok (.slice (some ⟨w.heap.size, 0, none⟩) M M) (w.alloc (.cells (cI (List.replicate M 0)) 3)) := fun w => by
    have h9 := makeNum M (by omega) w
    rw [show ((M : Nat) : Int) = (la : Int) + lb + 1 by omega] at h9
    exact h9
  have HM := Lib.hid hM
  clear hM
  obtain ⟨BB, hBB⟩ : ∃ BB, w.heap.size = BB := ⟨_, rfl⟩
  have HB := Lib.hid hBB
  have TM := Lib.hid (fun (os : List Int) (a : Option Addr) (c : Nat) (W : World) => trim_any os a c BB W)
  have BX := Lib.hid (Blk.new w 3 (cI (List.replicate M 0)))
  have HW := Lib.hid (Bw.alloc (Bw.refl w) (.cells (cI (List.replicate M 0)) 3))
  rw [hBB] at BX ⊢
  go_enter Try.func49, Try.ntmps49
  go_upto_region 2 with fail
  obtain ⟨W0, hW0⟩ : ∃ W0, w.alloc (.cells (cI (List.replicate M 0)) 3) = W0 := ⟨_, rfl⟩
  rw [hW0] at BX HW ⊢
  clear hW0 hmk hBB
  go_wp2
  go_loopg [6] la (fun gg s6 wr => ∃ (i : Nat) (os : List Int), i ≤ la ∧ la - i ≤ gg ∧ s6 = .int .i64 i ∧ os.length = M ∧ Hid (Dg (dg os)) ∧ Hid (pv (dg os) M = pv (dg dsa) i * B) ∧ Hid (∀ j, i + lb ≤ j → dg os j = 0) ∧ Hid (Bw w wr) ∧ Hid (Blk wr BB 3 (cI os)))
  case atStart => exact ⟨0, List.replicate M 0, by omega, by omega, rfl, by simp, Lib.hid (fun i => by rw [dg_rep]; omega), Lib.hid (by rw [pv_congr (g := fun _ => 0) M (fun i _ => dg_rep M i)]; simp only [pv, Int.zero_mul]; rw [pv_zero (f := fun _ => (0 : Int)) 0 M (Nat.zero_le _) (fun _ _ _ => rfl)]; rfl), Lib.hid (fun j _ => dg_rep M j), HW, BX⟩
  case round =>
    clear HW BX
    obtain ⟨i, os, hi, hgg, rfl, hos, HD, HP, HZ, HW, BX⟩ := hrel
    obtain ⟨wa, rfl⟩ : ∃ wa, wa = wr := ⟨_, rfl⟩
    by_cases hil : i < la
    · have hiz : (i : Int) < la := by omega
      have hxa := HDa.out i
      have HP0 := Lib.hid HP.out
      go_wp2
      go_loopg [7, 8] (lb + 1) (fun gg s7 s8 wx => ∃ (k : Nat) (c : Int) (bs : List Int), (k ≤ lb ∨ (k = lb + 1 ∧ c = 0)) ∧ lb + 1 - k ≤ gg ∧ s8 = .int .i64 k ∧ s7 = .int .i64 c ∧ 0 ≤ c ∧ c < 16777216 ∧ bs.length = M ∧ Hid (Dg (dg bs)) ∧ Hid (pv (dg bs) M + c * 16777216 ^ (i + k) = pv (dg os) M + dg dsa i * 16777216 ^ i * pv (dg dsb) k) ∧ Hid (∀ j, i + k ≤ j → dg bs j = dg os j) ∧ Hid (Bw w wx) ∧ Hid (Blk wx BB 3 (cI bs)))
      case atStart => exact ⟨0, 0, os, by omega, by omega, rfl, rfl, by omega, by omega, hos, HD, Lib.hid (by simp [pv]), Lib.hid (fun _ _ => rfl), HW, BX⟩
      case round =>
        clear HW BX HD
        obtain ⟨k, c, bs, hk, hgg2, rfl, rfl, hc0, hc1, hbs, HD, HQ, HE, HW, BX⟩ := hrel
        obtain ⟨wx, rfl⟩ : ∃ wx, wx = wr := ⟨_, rfl⟩
        have hxo := HD.out (i + k)
        have hxb := HDb.out k
        have hikM : i + k < M ∨ (k = lb + 1 ∧ c = 0) := by have := HM.out; omega
        have HST := Lib.hid (show ∀ x, 0 ≤ x → x < 16777216 → ∀ y, i + k < M → x + 16777216 * y = c + dg bs (i + k) + dg dsa i * dg dsb k → pv (dg (bs.set (i + k) x)) M + y * 16777216 ^ (i + (k + 1)) = pv (dg os) M + dg dsa i * 16777216 ^ i * pv (dg dsb) (k + 1) from fun x _ _ y hik hxy => by
          have h9 := HQ.out
          rw [pv_set bs (i + k) x (by omega) M hik]
          have e2 : pv (dg dsb) (k + 1) = pv (dg dsb) k + dg dsb k * 16777216 ^ k := rfl
          rw [e2, Int.mul_add]
          have e3 : dg dsa i * 16777216 ^ i * (dg dsb k * 16777216 ^ k) = dg dsa i * dg dsb k * 16777216 ^ (i + k) := by
            rw [Int.pow_add, Int.mul_assoc, Int.mul_assoc]
            congr 1
            rw [← Int.mul_assoc, Int.mul_comm (16777216 ^ i) (dg dsb k), Int.mul_assoc]
          rw [e3]
          have e4 : (x + 16777216 * y) * 16777216 ^ (i + k) = (c + dg bs (i + k) + dg dsa i * dg dsb k) * 16777216 ^ (i + k) := by rw [hxy]
          rw [Int.add_mul, Int.add_mul, Int.add_mul] at e4
          have e5 : y * 16777216 ^ (i + (k + 1)) = 16777216 * y * 16777216 ^ (i + k) := by
            rw [show i + (k + 1) = (i + k) + 1 by omega, Int.pow_succ, Int.mul_comm (16777216 ^ (i + k)) 16777216, ← Int.mul_assoc, Int.mul_comm y 16777216]
          rw [e5, Int.sub_mul]
          omega)
        have HEN := Lib.hid (show ∀ x, i + k < M → ∀ j, i + (k + 1) ≤ j → dg (bs.set (i + k) x) j = dg os j from fun x hik j hj => by
          rw [dg_set _ _ _ _ (by omega), if_neg (by omega)]; exact HE.out j (by omega))
        have hp := mul_dg hxa hxb
        by_cases hkl : k < lb
        · have hkz : (k : Int) < lb := by omega
          have hik : i + k < M := by have := HM.out; omega
          have hikz : (i : Int) + k < M := by omega
          have hikn : ((i : Int) + k).toNat = i + k := by omega
          obtain ⟨b1, o1, rfl, d1⟩ := num_at HRa.out HW.out HLa.out i hil
          obtain ⟨b2, o2, rfl, d2⟩ := num_at HRb.out HW.out HLb.out k hkl
          have dd1 := (Bw.drew (Bw.refl wx)).cell' d1
          have dd2 := (Bw.drew (Bw.refl wx)).cell' d2
          have z1 := BX.out.cell (cI_at bs (i + k) (by omega))
          have BD := Lib.hid (BX.out.bw (Bw.drew (Bw.refl wx)))
          have z2 := BD.out.cell (cI_at bs (i + k) (by omega))
          have z3 := BD.out.frozen (i + k)
          have HBS := Lib.hid hbs
          clear hbs
          generalize hxx : dg dsa i = xa at *
          generalize dg dsb k = xb at *
          generalize dg bs (i + k) = xo at *
          obtain ⟨P, hP⟩ : ∃ P, P = xa * xb := ⟨_, rfl⟩
          obtain ⟨X, hX⟩ : ∃ X, X = c + xo + P := ⟨_, rfl⟩
          have hXb : 0 ≤ X ∧ X < 281474976710656 := by omega
          have HS1 := Lib.hid (HST.out (X % 16777216) (by omega) (by omega) (X / 16777216) hik (by rw [← hP]; omega))
          have HD1 := Lib.hid (HD.out.set (i + k) (X % 16777216) (by have := HBS.out; omega) (by omega) (by omega))
          have HE1 := Lib.hid (HEN.out (X % 16777216) hik)
          have hA := and24 (c + xo + xa * xb)
          have HX := Lib.hid (show X = c + xo + xa * xb by rw [hX, hP])
          have hb1 : 0 ≤ c + xo + xa * xb ∧ c + xo + xa * xb < 281474976710656 := by rw [← hP]; omega
          have HXX := Lib.hid hxx
          clear hxx hP hX HST HEN HD HQ HE HP
          go_wp2
          go_region
          go_wp2
          go_roundg (lb + 1 - (k + 1))
          case measure => omega
          case rel =>
            refine ⟨k + 1, X / 16777216, bs.set (i + k) (X % 16777216), by omega, by omega, by go_num, ?_, by omega, by omega, by simp; exact HBS.out, HD1, HS1, HE1, Lib.hid (Bw.setCell (HW.out.trans (Bw.drew (Bw.refl _))) (by have := HB.out; simp; omega) _), Lib.hid ?_⟩
            · rw [HX.out]
            · rw [← cI_set, HX.out]; exact BD.out.set (i + k) _
        · have hkz : ¬ (k : Int) < lb := by omega
          have hb0 : dg dsb k = 0 := dg_out dsb k (by have := HLb.out; omega)
          by_cases hcz : 0 < c
          · have hik : i + k < M := by omega
            have hikz : (i : Int) + k < M := by omega
            have hikn : ((i : Int) + k).toNat = i + k := by omega
            have hkk : k = lb := by omega
            have hz0 : dg bs (i + k) = 0 := by rw [HE.out (i + k) (Nat.le_refl _)]; exact HZ.out _ (by omega)
            have z1 := BX.out.cell (cI_at bs (i + k) (by omega))
            have z3 := BX.out.frozen (i + k)
            have HBS := Lib.hid hbs
            clear hbs
            have HS1 := Lib.hid (HST.out c hc0 hc1 0 hik (by rw [hb0, hz0]; omega))
            have HD1 := Lib.hid (HD.out.set (i + k) c (by have := HBS.out; omega) hc0 hc1)
            have HE1 := Lib.hid (HEN.out c hik)
            rw [hz0] at z1
            have HKK := Lib.hid hkk
            have hA := and24 c
            have hA2 : c % 16777216 = c := by omega
            have hA3 : c / 16777216 = 0 := by omega
            clear HST HEN HD HQ HE HP hb0 hz0 hkk hp hxo hxb
            go_wp2
            go_roundg (lb + 1 - (k + 1))
            case measure => omega
            case rel =>
              refine ⟨k + 1, 0, bs.set (i + k) c, by have := HKK.out; omega, by omega, by go_num, by first | rfl | rw [hA3] | simp [hA3], by omega, by omega, by simp; exact HBS.out, HD1, HS1, HE1, Lib.hid (Bw.setCell HW.out (by have := HB.out; simp; omega) _), Lib.hid ?_⟩
              rw [← cI_set]; first | exact BX.out.set (i + k) _ | (rw [← hA2]; exact BX.out.set (i + k) _)
          · obtain rfl : c = 0 := by omega
            have hcz2 : ¬ (0 : Int) < 0 := by omega
            have HQ2 := Lib.hid (show pv (dg bs) M = pv (dg dsa) (i + 1) * B by
              have h9 := HQ.out
              rw [Int.zero_mul, Int.add_zero, HP0.out, dv_at dsb k (by have := HLb.out; omega), HNb.out] at h9
              rw [h9, pv, Int.add_mul])
            have HZ2 := Lib.hid (show ∀ j, i + 1 + lb ≤ j → dg bs j = 0 from fun j hj => by
              rw [HE.out j (by omega)]; exact HZ.out j (by omega))
            clear HST HEN HQ HE HP hb0 hp hxo hxb
            go_wp2
            go_roundg (la - (i + 1))
            case measure => omega
            case rel => exact ⟨i + 1, bs, by omega, by omega, by go_num, hbs, HD, HQ2, HZ2, HW, BX⟩
    · obtain rfl : i = la := by omega
      have hiz : ¬ (i : Int) < i := by omega
      have HDV := Lib.hid (show dv os = A * B by
        unfold dv
        rw [hos, HP.out, dv_at dsa i (by have := HLa.out; omega), HNa.out])
      have hR := rdI_blk BX.out hos.symm (by have := HM.out; omega)
      have HM2 := Lib.hid (show os.length ≤ 1000 by have := HM.out; omega)
      rw [← hos] at hR
      have HR := Lib.hid hR
      clear hR HP HZ HM
      subst hos
      go_wp2_with (go_at_call 60; (with_reducible refine Calls.mono (TM.out os _ os.length _ HR.out (by have := HM2.out; omega) (Fresh.at (Nat.le_refl _)) HD.out _ HDV.out) ?_); rintro e1 w1 ⟨⟨v1, rfl, hn1⟩, hb1⟩)
      go_ret
      exact ⟨⟨_, rfl, hn1⟩, HW.out.trans hb1⟩
end Go.Proofs.Sky
