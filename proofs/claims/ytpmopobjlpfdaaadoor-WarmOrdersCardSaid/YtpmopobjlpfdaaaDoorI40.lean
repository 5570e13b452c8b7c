/-
  lemmas for the theorems of this claim. No conditions beyond those written in the statements.
-/
import Derived.Test.YtpmopobjlpfdaaaDoorHR40
import Derived.Lib.SliceRun
import Derived.Deep.CutBlock
set_option linter.unusedVariables false
set_option linter.unusedSimpArgs false
set_option linter.unnecessarySimpa false
namespace Go.Proofs.Sky
open Go Go.RowKit Go.Shelf
attribute [local go_sem] Oper.semAt_some
set_option maxHeartbeats 4000000
set_option maxRecDepth 8000
/-! chapter 40: Clone of a row of pages -/
def OwH (base : Nat) (ps : List (Nat → Int)) (e : Ending) (w' : World) : Prop := ∃ v', e = .returned v' ∧ w'.ownsRow base 23 6 v' ps.length (flatH ps)
theorem own_emptyH (w : World) (T : TypeId) : (w.alloc (.cells #[] T)).ownsRow w.heap.size T 6 (.slice (some ⟨w.heap.size, 0, none⟩) 0 0) 0 [] :=
  ⟨rfl, .inr ⟨w.heap.size, 0, #[], rfl, Nat.le_refl _, Blk.new w T #[], Nat.le_refl _, Nat.zero_le _, rfl, rfl⟩⟩
theorem cloneHn_any (ps : List (Nat → Int)) (hs : ps.length ≤ 1000) (v : Value) (w : World) (hv : RdH w v ps) : Calls Tryd.prog 29 #[v] w fun e w' => OwH w.heap.size ps e w' ∧ Bw w w' := by
  obtain ⟨_, a, c, rfl, h4⟩ := hv
  have q22 : ∀ (w : World) (a : Option Addr) (n c n' c' : Nat), (binOp .eql 36 (.slice a n c) (.slice none n' c')).run Tryd.prog w = .ok (.bool a.isNone) w := fun w a n c n' c' => Lib.run_eql_slice_nil w _ _ a n c n' c' Tryd.underlying36
  cases a with
  | none =>
    obtain rfl : ps = [] := by rcases h4 with h | ⟨_, _, h, _⟩; exact h; cases h
    go_enter Tryd.func29, Tryd.ntmps29
    go_wp2
    go_ret
    exact ⟨⟨_, rfl, World.ownsRow_nil _ _ _ _⟩, Bw.refl _⟩
  | some ad =>
    have OE := Lib.hid (own_emptyH w 23)
    have HW := Lib.hid (Bw.alloc (Bw.refl w) (.cells #[] 23))
    rcases h4 with rfl | ⟨b, o, e1, _, hz⟩
    · go_enter Tryd.func29, Tryd.ntmps29
      go_wp2_with (at_builtin; refine wpList_append_noneH rfl (.tmp 5) (.tmp 6) _ rfl w.heap.size Tryd.underlying36 _ [] rfl OE.out ad c rfl (by simp) (by simp only [World.size_alloc]; omega) ?_; intro v8 w8 hown hgr hni; replace HW := Lib.hid (bw_grownN rfl HW.out OE.out hgr); have O1 := Lib.hid hown; clear hown hgr hni)
      go_ret
      exact ⟨⟨_, rfl, O1.out⟩, HW.out⟩
    injection e1 with e1
    subst e1
    have HZ := Lib.hid (fun i x hi => rg_bw9 (hz i x hi) (Bw.alloc (Bw.refl w) (.cells #[] 23)))
    clear hz
    go_enter Tryd.func29, Tryd.ntmps29
    go_wp2_with (at_builtin; refine wpList_append_hns rfl (.tmp 5) (.tmp 6) _ rfl w.heap.size Tryd.underlying36 _ [] ps rfl OE.out b o c rfl HZ.out (by simp; omega) (by simp only [World.size_alloc]; omega) ?_; intro v8 w8 hown hgr hni; replace HW := Lib.hid (bw_grownN rfl HW.out OE.out hgr); have O1 := Lib.hid hown; clear hown hgr hni)
    go_ret
    exact ⟨⟨_, rfl, O1.out⟩, HW.out⟩
end Go.Proofs.Sky

namespace Go.Proofs.Sky
open Go Go.RowKit Go.Shelf
attribute [local go_sem] Oper.semAt_some
set_option maxHeartbeats 4000000
set_option maxRecDepth 8000
/-! chapter 40: comparing hints -/
def cmpI (a b : Int) : Int := if a < b then -1 else if b < a then 1 else 0
theorem cmpI_bd (a b : Int) : cmpI a b = -1 ∨ cmpI a b = 0 ∨ cmpI a b = 1 := by
  unfold cmpI
  split
  · simp
  · split <;> simp
theorem cmp40_any (a b : Int) (w : World) : Calls Tryd.prog 35 #[.int .i64 a, .int .i64 b] w fun e w' => e = .returned (.int .i64 (cmpI a b)) ∧ Bw w w' := by
  by_cases h1 : a < b
  · have HG := Lib.hid (show cmpI a b = -1 from if_pos h1)
    go_enter Tryd.func35, Tryd.ntmps35
    go_wp2
    go_ret
    exact ⟨ret_int HG.out.symm, Bw.refl _⟩
  · by_cases h2 : b < a
    · have HG := Lib.hid (show cmpI a b = 1 by unfold cmpI; rw [if_neg h1, if_pos h2])
      go_enter Tryd.func35, Tryd.ntmps35
      go_wp2
      go_ret
      exact ⟨ret_int HG.out.symm, Bw.refl _⟩
    · have HG := Lib.hid (show cmpI a b = 0 by unfold cmpI; rw [if_neg h1, if_neg h2])
      go_enter Tryd.func35, Tryd.ntmps35
      go_wp2
      go_ret
      exact ⟨ret_int HG.out.symm, Bw.refl _⟩
def ltrH (x : Nat → Int) : Int := if x 1 = 1 then 0 else 1
theorem later40_any (x : Nat → Int) (w : World) : Calls Tryd.prog 34 #[.agg (hnV x)] w fun e w' => e = .returned (.int .i64 (ltrH x)) ∧ Bw w w' := by
  have K := Lib.hid (Blk.new w 23 (hnV x))
  have HW := Lib.hid (Bw.alloc (Bw.refl w) (.cells (hnV x) 23))
  have d1 := K.out.cell (show (hnV x)[1]? = some (.int .i64 (x 1)) from rfl)
  by_cases h : x 1 = 1
  · have HE := Lib.hid (show ltrH x = 0 from if_pos h)
    have hb : (x 1 == 1) = true := by simpa using h
    clear h
    generalize x 1 = x1 at *
    go_enter Tryd.func34, Tryd.ntmps34
    go_wp2
    go_ret
    exact ⟨ret_int HE.out.symm, HW.out⟩
  · have HE := Lib.hid (show ltrH x = 1 from if_neg h)
    have hb : (x 1 == 1) = false := by simpa using h
    clear h
    generalize x 1 = x1 at *
    go_enter Tryd.func34, Tryd.ntmps34
    go_wp2
    go_ret
    exact ⟨ret_int HE.out.symm, HW.out⟩
def orR : List Int → Int
  | [] => 0
  | a :: l => if a = 0 then orR l else a
theorem orR_drop (zs : List Int) (k : Nat) (hk : k < zs.length) : orR (zs.drop k) = if zs.getD k 0 = 0 then orR (zs.drop (k + 1)) else zs.getD k 0 := by
  rw [List.drop_eq_getElem_cons hk, orR, List.getD_eq_getElem?_getD, List.getElem?_eq_getElem hk]; rfl
theorem or40_any (zs : List Int) (v : Value) (w : World) (hv : RdI w v zs) : Calls Tryd.prog 33 #[v] w fun e w' => e = .returned (.int .i64 (orR zs)) ∧ Bw w w' := by
  have HD := Lib.hid (orR_drop zs)
  have HD0 := Lib.hid (show orR (zs.drop 0) = orR zs from rfl)
  have HDN := Lib.hid (show orR (zs.drop zs.length) = 0 by rw [List.drop_length]; rfl)
  obtain ⟨a, c, rfl⟩ := hv.form
  have HV := Lib.hid hv
  have hn63 := hv.1
  obtain ⟨n, hn⟩ : ∃ n, zs.length = n := ⟨_, rfl⟩
  rw [hn] at HV HD HDN hn63 ⊢
  have HN := Lib.hid hn
  clear hv hn
  go_enter Tryd.func33, Tryd.ntmps33
  go_wp2
  go_loopw [8] (fun s8 wr => ∃ k : Nat, k ≤ n ∧ s8 = .int .i64 k ∧ Hid (orR zs = orR (zs.drop k)) ∧ wr = w) (fun s8 _ => n - (intOf s8).toNat)
  case atStart => exact ⟨0, by omega, rfl, Lib.hid rfl, rfl⟩
  case round =>
    obtain ⟨k, hk, rfl, HR, rfl⟩ := hrel
    by_cases hlt : k < n
    · have hkz : (k : Int) < n := by omega
      have hk0 : (0 : Int) ≤ k := by omega
      obtain ⟨b, o, c1, hv9, _, hz⟩ := HV.out.at (by have := HN.out; omega)
      injection hv9 with i1 i2 i3
      subst i1
      clear i2 i3
      have d := hz k (by have := HN.out; omega)
      clear hz
      have HK := Lib.hid (HD.out k hlt)
      generalize zs.getD k 0 = z at *
      by_cases hz0 : z = 0
      · have hb : (z != 0) = false := by simpa using hz0
        have HE := Lib.hid (show orR zs = orR (zs.drop (k + 1)) by rw [HR.out, HK.out, if_pos hz0])
        clear hz0
        go_wp2
        go_roundw
        case rel => exact ⟨k + 1, by omega, by go_num, HE, by trivial⟩
        case measure => simp [intOf]; omega
      · have hb : (z != 0) = true := by simpa using hz0
        have HE := Lib.hid (show orR zs = z by rw [HR.out, HK.out, if_neg hz0])
        clear hz0
        go_wp2
        go_ret
        exact ⟨ret_int HE.out.symm, Bw.refl _⟩
    · obtain rfl : k = n := by omega
      have HE := Lib.hid (show orR zs = 0 by rw [HR.out, HDN.out])
      go_wp2
      go_ret
      exact ⟨ret_int HE.out.symm, Bw.refl _⟩
end Go.Proofs.Sky

namespace Go.Proofs.Sky
open Go Go.RowKit Go.Shelf
attribute [local go_sem] Oper.semAt_some
set_option maxHeartbeats 4000000
set_option maxRecDepth 8000
/-! chapter 40: comparing hints, the closure -/
def cmpHn (x y : Nat → Int) : Int := orR [ltrH x - ltrH y, cmpI (x 5) (y 5), cmpI (x 0) (y 0)]
theorem cmpH_any (x y : Nat → Int) (w : World) : Calls Tryd.prog 32 #[.agg (hnV x), .agg (hnV y)] w fun e w' => e = .returned (.int .i64 (cmpHn x y)) ∧ Bw w w' := by
  have LX := Lib.hid (fun W => later40_any x W)
  have LY := Lib.hid (fun W => later40_any y W)
  have C5 := Lib.hid (fun W => cmp40_any (x 5) (y 5) W)
  have C0 := Lib.hid (fun W => cmp40_any (x 0) (y 0) W)
  have hl : 0 ≤ ltrH x ∧ ltrH x ≤ 1 := by unfold ltrH; split <;> omega
  have hm : 0 ≤ ltrH y ∧ ltrH y ≤ 1 := by unfold ltrH; split <;> omega
  have HC := Lib.hid (show cmpHn x y = orR [ltrH x - ltrH y, cmpI (x 5) (y 5), cmpI (x 0) (y 0)] from rfl)
  have HB := Lib.hid (Bw.alloc (Bw.alloc (Bw.refl w) (.cells (hnV x) 23)) (.cells (hnV y) 23))
  have K2 := Lib.hid ((Blk.new w 23 (hnV x)).alloc (.cells (hnV y) 23))
  have K3 := Lib.hid (Blk.new (w.alloc (.cells (hnV x) 23)) 23 (hnV y))
  simp only [World.size_alloc] at K3
  have HSA : Hid ((Tryd.prog.info? 23).map (·.size) = some (hnV x).size) := Lib.hid (by kernel_rfl)
  have HSB : Hid ((Tryd.prog.info? 23).map (·.size) = some (hnV y).size) := Lib.hid (by kernel_rfl)
  have HA0 := Lib.hid (show (hnV x)[0]? = some (.int .i64 (x 0)) from rfl)
  have HA5 := Lib.hid (show (hnV x)[5]? = some (.int .i64 (x 5)) from rfl)
  have HB0 := Lib.hid (show (hnV y)[0]? = some (.int .i64 (y 0)) from rfl)
  have HB5 := Lib.hid (show (hnV y)[5]? = some (.int .i64 (y 5)) from rfl)
  generalize cmpHn x y = Z at *
  generalize ltrH x = lx at *
  generalize ltrH y = ly at *
  generalize cmpI (x 5) (y 5) = c5 at *
  generalize cmpI (x 0) (y 0) = c0 at *
  generalize x 0 = x0 at *
  generalize y 0 = y0 at *
  generalize x 5 = x5 at *
  generalize y 5 = y5 at *
  generalize hnV x = A at *
  generalize hnV y = B at *
  have OR := Lib.hid (fun v W h => or40_any [lx - ly, c5, c0] v W h)
  rw [← HC.out] at OR
  have hw1 : IntKind.i64.wrap (lx - ly) = lx - ly := by rw [IntKind.wrap_i64]; omega
  go_enter Tryd.func32, Tryd.ntmps32
  go_upto_region 1 with fail
  obtain ⟨g2, hg2⟩ : ∃ g2, w.heap.size = g2 := ⟨_, rfl⟩
  rw [hg2] at K2 K3
  (try rw [hg2])
  obtain ⟨g3, hg3⟩ : ∃ g3, g2 + 1 = g3 := ⟨_, rfl⟩
  rw [hg3] at K3
  (try rw [hg3])
  obtain ⟨W0, hW0⟩ : ∃ W0, (w.alloc (.cells A 23)).alloc (.cells B 23) = W0 := ⟨_, rfl⟩
  rw [hW0] at K2 K3 HB ⊢
  clear hW0 hg2 hg3
  have d0 := K2.out.cell HA0.out
  have d5 := K2.out.cell HA5.out
  have f0 := K3.out.cell HB0.out
  have f5 := K3.out.cell HB5.out
  refine wp_region_held_drew (S := Bw W0) (by kernel_rfl) (Bw.drew (Bw.refl _)) (fun hS => ?_)
  generalize World.drew _ = wd at hS ⊢
  refine take1 (i := 0) (some 5) rfl rfl (by kernel_rfl) (by kernel_rfl) (by kernel_rfl) (fun _ _ _ _ h => h) rfl hS ?_
  refine Exists.intro (.agg A) ?_
  apply And.intro
  · intro W9 hW9; skip; exact run_load_row 23 _ rfl g2 rfl 23 A _ (K2.out.bw hW9) Tryd.underlying23 rfl HSA.out
  simp only [Act.put, List.setIfInBounds_toArray, List.set_cons_zero, List.set_cons_succ]
  refine take1 (i := 2) (some 7) rfl rfl (by kernel_rfl) (by kernel_rfl) (by kernel_rfl) (fun _ _ _ _ h => h) rfl hS ?_
  refine Exists.intro (.agg B) ?_
  apply And.intro
  · intro W9 hW9; skip; exact run_load_row 23 _ rfl g3 rfl 23 B _ (K3.out.bw hW9) Tryd.underlying23 rfl HSB.out
  simp only [Act.put, List.setIfInBounds_toArray, List.set_cons_zero, List.set_cons_succ]
  refine take1 (i := 5) (some 10) rfl rfl (by kernel_rfl) (by kernel_rfl) (by kernel_rfl) (fun _ _ _ _ h => h) rfl hS ?_
  apply Exists.intro
  apply And.intro
  · intro W9 hW9; skip; go_simp; try with_reducible rfl
  simp only [Act.put, List.setIfInBounds_toArray, List.set_cons_zero, List.set_cons_succ]
  refine take1 (i := 6) (some 11) rfl rfl (by kernel_rfl) (by kernel_rfl) (by kernel_rfl) (fun _ _ _ _ h => h) rfl hS ?_
  refine Exists.intro (.int .i64 x5) ?_
  apply And.intro
  · intro W9 hW9; skip; (have c0 := hW9.cell' d5); go_simp; try with_reducible rfl
  simp only [Act.put, List.setIfInBounds_toArray, List.set_cons_zero, List.set_cons_succ]
  refine take1 (i := 7) (some 12) rfl rfl (by kernel_rfl) (by kernel_rfl) (by kernel_rfl) (fun _ _ _ _ h => h) rfl hS ?_
  apply Exists.intro
  apply And.intro
  · intro W9 hW9; skip; go_simp; try with_reducible rfl
  simp only [Act.put, List.setIfInBounds_toArray, List.set_cons_zero, List.set_cons_succ]
  refine take1 (i := 8) (some 13) rfl rfl (by kernel_rfl) (by kernel_rfl) (by kernel_rfl) (fun _ _ _ _ h => h) rfl hS ?_
  refine Exists.intro (.int .i64 y5) ?_
  apply And.intro
  · intro W9 hW9; skip; (have c0 := hW9.cell' f5); go_simp; try with_reducible rfl
  simp only [Act.put, List.setIfInBounds_toArray, List.set_cons_zero, List.set_cons_succ]
  refine take1 (i := 10) (some 15) rfl rfl (by kernel_rfl) (by kernel_rfl) (by kernel_rfl) (fun _ _ _ _ h => h) rfl hS ?_
  apply Exists.intro
  apply And.intro
  · intro W9 hW9; skip; go_simp; try with_reducible rfl
  simp only [Act.put, List.setIfInBounds_toArray, List.set_cons_zero, List.set_cons_succ]
  refine take1 (i := 11) (some 16) rfl rfl (by kernel_rfl) (by kernel_rfl) (by kernel_rfl) (fun _ _ _ _ h => h) rfl hS ?_
  refine Exists.intro (.int .i64 x0) ?_
  apply And.intro
  · intro W9 hW9; skip; (have c0 := hW9.cell' d0); go_simp; try with_reducible rfl
  simp only [Act.put, List.setIfInBounds_toArray, List.set_cons_zero, List.set_cons_succ]
  refine take1 (i := 12) (some 17) rfl rfl (by kernel_rfl) (by kernel_rfl) (by kernel_rfl) (fun _ _ _ _ h => h) rfl hS ?_
  apply Exists.intro
  apply And.intro
  · intro W9 hW9; skip; go_simp; try with_reducible rfl
  simp only [Act.put, List.setIfInBounds_toArray, List.set_cons_zero, List.set_cons_succ]
  refine take1 (i := 13) (some 18) rfl rfl (by kernel_rfl) (by kernel_rfl) (by kernel_rfl) (fun _ _ _ _ h => h) rfl hS ?_
  refine Exists.intro (.int .i64 y0) ?_
  apply And.intro
  · intro W9 hW9; skip; (have c0 := hW9.cell' f0); go_simp; try with_reducible rfl
  simp only [Act.put, List.setIfInBounds_toArray, List.set_cons_zero, List.set_cons_succ]
  refine wpAnyH_ready (rs := [1]) (by kernel_rfl) (by simp) ?_
  refine AllReadyH.cons rfl (fun K hK => ?_) ?_
  go_simp
  go_wp2_with (go_at_call 34; (with_reducible refine Calls.mono (LX.out _) ?_); rintro e1 wd ⟨rfl, hbw⟩)
  refine hK.out _ _ (hS.trans hbw) (fun hS => ?_)
  clear hK K
  clear hbw
  refine wpAnyH_ready (rs := [3]) (by kernel_rfl) (by simp) ?_
  refine AllReadyH.cons rfl (fun K hK => ?_) ?_
  go_simp
  go_wp2_with (go_at_call 34; (with_reducible refine Calls.mono (LY.out _) ?_); rintro e1 wd ⟨rfl, hbw⟩)
  refine hK.out _ _ (hS.trans hbw) (fun hS => ?_)
  clear hK K
  clear hbw
  refine take1 (i := 4) (some 9) rfl rfl (by kernel_rfl) (by kernel_rfl) (by kernel_rfl) (fun _ _ _ _ h => h) rfl hS ?_
  apply Exists.intro
  apply And.intro
  · intro W9 hW9; skip; go_simp; try with_reducible rfl
  simp only [Act.put, List.setIfInBounds_toArray, List.set_cons_zero, List.set_cons_succ]
  refine wpAnyH_ready (rs := [9]) (by kernel_rfl) (by simp) ?_
  refine AllReadyH.cons rfl (fun K hK => ?_) ?_
  go_simp
  go_wp2_with (go_at_call 35; (with_reducible refine Calls.mono (C5.out _) ?_); rintro e1 wd ⟨rfl, hbw⟩)
  refine hK.out _ _ (hS.trans hbw) (fun hS => ?_)
  clear hK K
  clear hbw
  refine wpAnyH_ready (rs := [14]) (by kernel_rfl) (by simp) ?_
  refine AllReadyH.cons rfl (fun K hK => ?_) ?_
  go_simp
  go_wp2_with (go_at_call 35; (with_reducible refine Calls.mono (C0.out _) ?_); rintro e1 wd ⟨rfl, hbw⟩)
  refine hK.out _ _ (hS.trans hbw) (fun hS => ?_)
  clear hK K
  clear hbw
  refine wpAnyH_ready (rs := [15]) (by kernel_rfl) (by simp) ?_
  refine AllReadyH.cons rfl (fun K hK => ?_) ?_
  go_simp
  have RL := Lib.hid (show RdI (World.alloc wd (.cells #[.int .i64 (lx - ly), .int .i64 c5, .int .i64 c0] 3)) (.slice (some ⟨wd.heap.size, 0, none⟩) 3 3) [lx - ly, c5, c0] from RdI.litN wd #[.int .i64 (lx - ly), .int .i64 c5, .int .i64 c0] 3 [lx - ly, c5, c0] wd.heap.size rfl rfl (by simp))
  have hba := Bw.alloc (Bw.refl wd) (.cells #[.int .i64 (lx - ly), .int .i64 c5, .int .i64 c0] 3)
  obtain ⟨gb, hgb⟩ : ∃ gb, wd.heap.size = gb := ⟨_, rfl⟩
  rw [hgb] at RL ⊢
  have hS9 := hS.trans hba
  clear hba hS hgb
  generalize World.alloc wd _ = wd at *
  refine hK.out _ _ hS9 (fun hS => ?_)
  clear hK K
  clear hS9
  refine wpAnyH_ready (rs := [16]) (by kernel_rfl) (by simp) ?_
  refine AllReadyH.cons rfl (fun K hK => ?_) ?_
  go_simp
  go_wp2_with (go_at_call 33; (with_reducible refine Calls.mono (OR.out _ _ RL.out) ?_); rintro e1 wd ⟨rfl, hbw⟩)
  refine hK.out _ _ (hS.trans hbw) (fun hS => ?_)
  clear hK K
  clear hbw
  refine take1 (i := 17) (some 4) rfl rfl (by kernel_rfl) (by kernel_rfl) (by kernel_rfl) (fun _ _ _ _ h => h) rfl hS ?_
  apply Exists.intro
  apply And.intro
  · intro W9 hW9; skip; go_simp; try with_reducible rfl
  simp only [Act.put, List.setIfInBounds_toArray, List.set_cons_zero, List.set_cons_succ]
  refine wpAnyH_done (by kernel_rfl) ?_ _
  rotate_left
  exact AllReadyH.nil
  exact AllReadyH.nil
  exact AllReadyH.nil
  exact AllReadyH.nil
  exact AllReadyH.nil
  exact AllReadyH.nil
  all_goals
    go_wp2
    go_ret
    exact ⟨rfl, HB.out.trans hS⟩
end Go.Proofs.Sky

namespace Go.Proofs.Sky
open Go Go.RowKit Go.Shelf
/-! chapter 40: sorting hints, in plain Lean -/
def at0 (l : List (Nat → Int)) (i : Nat) : Nat → Int := l.getD i fun _ => 0
theorem at0_some {l : List (Nat → Int)} {i : Nat} (h : i < l.length) : l[i]? = some (at0 l i) := by
  unfold at0; rw [List.getD_eq_getElem?_getD, List.getElem?_eq_getElem h]; rfl
theorem at0_get {l : List (Nat → Int)} {i : Nat} (h : i < l.length) : l[i] = at0 l i := by
  have := at0_some h; rw [List.getElem?_eq_getElem h] at this; exact Option.some.inj this
theorem at0_set {l : List (Nat → Int)} {i : Nat} (h : i < l.length) (x : Nat → Int) (j : Nat) : at0 (l.set i x) j = if j = i then x else at0 l j := by
  unfold at0
  rw [List.getD_eq_getElem?_getD, List.getD_eq_getElem?_getD, List.getElem?_set]
  by_cases e : i = j
  · subst e; rw [if_pos rfl, if_pos h, if_pos rfl]; rfl
  · rw [if_neg e, if_neg (Ne.symm e)]
def swH (l : List (Nat → Int)) (i j : Nat) : List (Nat → Int) := (l.set i (at0 l j)).set j (at0 l i)
theorem swH_len (l : List (Nat → Int)) (i j : Nat) : (swH l i j).length = l.length := by simp [swH]
theorem at0_sw {l : List (Nat → Int)} {i j : Nat} (hi : i < l.length) (hj : j < l.length) (k : Nat) : at0 (swH l i j) k = if k = j then at0 l i else if k = i then at0 l j else at0 l k := by
  unfold swH
  rw [at0_set (by simpa using hj), at0_set hi]
theorem swH_perm {l : List (Nat → Int)} {i j : Nat} (hi : i < l.length) (hj : j < l.length) : (swH l i j).Perm l := by
  have := List.set_set_perm hi hj
  rw [at0_get hi, at0_get hj] at this
  exact this
/-- l' is l with the places from a up to b in another order -/
structure PI (a b : Nat) (l l' : List (Nat → Int)) : Prop where
  perm : l'.Perm l
  out : ∀ i, i < a ∨ b ≤ i → at0 l' i = at0 l i
  ins : ∀ i, a ≤ i → i < b → ∃ j, a ≤ j ∧ j < b ∧ at0 l' i = at0 l j
theorem PI.len {a b : Nat} {l l' : List (Nat → Int)} (h : PI a b l l') : l'.length = l.length := h.perm.length_eq
theorem PI.refl (a b : Nat) (l : List (Nat → Int)) : PI a b l l := ⟨.refl _, fun _ _ => rfl, fun i h1 h2 => ⟨i, h1, h2, rfl⟩⟩
theorem PI.trans {a b : Nat} {l m r : List (Nat → Int)} (h : PI a b l m) (k : PI a b m r) : PI a b l r :=
  ⟨k.perm.trans h.perm, fun i hi => (k.out i hi).trans (h.out i hi), fun i h1 h2 => by
    obtain ⟨j, hj1, hj2, hj⟩ := k.ins i h1 h2
    obtain ⟨m, hm1, hm2, hm⟩ := h.ins j hj1 hj2
    exact ⟨m, hm1, hm2, hj.trans hm⟩⟩
theorem PI.mono {a b a' b' : Nat} {l r : List (Nat → Int)} (h : PI a b l r) (ha : a' ≤ a) (hb : b ≤ b') : PI a' b' l r :=
  ⟨h.perm, fun i hi => h.out i (by omega), fun i h1 h2 => by
    by_cases hi : a ≤ i ∧ i < b
    · obtain ⟨j, hj1, hj2, hj⟩ := h.ins i hi.1 hi.2
      exact ⟨j, by omega, by omega, hj⟩
    · exact ⟨i, h1, h2, h.out i (by omega)⟩⟩
theorem PI.sw {a b i j : Nat} {l : List (Nat → Int)} (hi1 : a ≤ i) (hi2 : i < b) (hj1 : a ≤ j) (hj2 : j < b) (hb : b ≤ l.length) : PI a b l (swH l i j) := by
  refine ⟨swH_perm (by omega) (by omega), fun k hk => ?_, fun k h1 h2 => ?_⟩
  · rw [at0_sw (by omega) (by omega), if_neg (by omega), if_neg (by omega)]
  · rw [at0_sw (by omega) (by omega)]
    by_cases e1 : k = j
    · exact ⟨i, hi1, hi2, by rw [if_pos e1]⟩
    · by_cases e2 : k = i
      · exact ⟨j, hj1, hj2, by rw [if_neg e1, if_pos e2]⟩
      · exact ⟨k, h1, h2, by rw [if_neg e1, if_neg e2]⟩
/-! the order -/
def leH (x y : Nat → Int) : Prop := ¬ cmpHn y x < 0
theorem orR3 (a b c : Int) : orR [a, b, c] = if a ≠ 0 then a else if b ≠ 0 then b else c := by
  unfold orR
  split <;> simp_all [orR]
  try (split <;> simp_all)
theorem cmpHn_neg (x y : Nat → Int) : cmpHn x y < 0 ↔ ltrH x < ltrH y ∨ (ltrH x = ltrH y ∧ (x 5 < y 5 ∨ (x 5 = y 5 ∧ x 0 < y 0))) := by
  unfold cmpHn
  rw [orR3]
  unfold cmpI
  constructor
  · intro h
    split at h
    · omega
    · split at h
      · split at h
        · omega
        · split at h <;> omega
      · split at h
        · omega
        · split at h <;> omega
  · intro h
    by_cases h1 : ltrH x - ltrH y = 0
    · rw [if_neg (by simpa using h1)]
      by_cases h2 : x 5 < y 5
      · rw [if_pos h2]; simp
      · rw [if_neg h2]
        have h3 : ¬ y 5 < x 5 := by omega
        rw [if_neg h3]
        simp
        omega
    · rw [if_pos h1]; omega
theorem leH_iff (x y : Nat → Int) : leH x y ↔ ltrH x < ltrH y ∨ (ltrH x = ltrH y ∧ (x 5 < y 5 ∨ (x 5 = y 5 ∧ x 0 ≤ y 0))) := by
  unfold leH
  rw [cmpHn_neg]
  omega
theorem leH_refl (x : Nat → Int) : leH x x := by rw [leH_iff]; omega
theorem leH_trans {x y z : Nat → Int} (h : leH x y) (k : leH y z) : leH x z := by rw [leH_iff] at *; omega
theorem leH_lt {x y : Nat → Int} (h : cmpHn x y < 0) : leH x y := by rw [leH_iff]; rw [cmpHn_neg] at h; omega
def Srt (a b : Nat) (l : List (Nat → Int)) : Prop := ∀ p q, a ≤ p → p < q → q < b → leH (at0 l p) (at0 l q)
/-- sorted up to the place j, which is on its way down -/
def SrtX (a j i : Nat) (l : List (Nat → Int)) : Prop := ∀ p q, a ≤ p → p < q → q ≤ i → q ≠ j → leH (at0 l p) (at0 l q)
theorem SrtX.start {a i : Nat} {l : List (Nat → Int)} (h : Srt a i l) : SrtX a i i l := fun p q h1 h2 h3 h4 => h p q h1 h2 (by omega)
theorem SrtX.done_a {a i : Nat} {l : List (Nat → Int)} (h : SrtX a a i l) : Srt a (i + 1) l := fun p q h1 h2 h3 => h p q h1 h2 (by omega) (by omega)
theorem SrtX.done {a j i : Nat} {l : List (Nat → Int)} (h : SrtX a j i l) (hj : a < j) (hc : ¬ cmpHn (at0 l j) (at0 l (j - 1)) < 0) (hji : j ≤ i) : Srt a (i + 1) l := fun p q h1 h2 h3 => by
  by_cases e : q = j
  · subst e
    by_cases e2 : p = q - 1
    · subst e2; exact hc
    · exact leH_trans (h p (q - 1) h1 (by omega) (by omega) (by omega)) hc
  · exact h p q h1 h2 (by omega) e
theorem SrtX.step {a j i : Nat} {l : List (Nat → Int)} (h : SrtX a j i l) (hj : a < j) (hji : j ≤ i) (hi : i < l.length) (hc : cmpHn (at0 l j) (at0 l (j - 1)) < 0) : SrtX a (j - 1) i (swH l j (j - 1)) := fun p q h1 h2 h3 h4 => by
  rw [at0_sw (by omega) (by omega), at0_sw (by omega) (by omega), if_neg h4]
  by_cases e : q = j
  · subst e
    rw [if_pos rfl]
    by_cases e2 : p = q - 1
    · rw [if_pos e2]; exact leH_lt hc
    · rw [if_neg e2, if_neg (by omega)]; exact h p (q - 1) h1 (by omega) (by omega) (by omega)
  · rw [if_neg e]
    by_cases e2 : p = j - 1
    · rw [if_pos e2]; exact h j q (by omega) (by omega) h3 e
    · rw [if_neg e2]
      by_cases e3 : p = j
      · rw [if_pos e3]; exact h (j - 1) q (by omega) (by omega) h3 e
      · rw [if_neg e3]; exact h p q h1 h2 h3 e
end Go.Proofs.Sky

namespace Go.Proofs.Sky
open Go Go.RowKit Go.Shelf
/-! chapter 40: two sorted rows of the same hints give the same numbers -/
def keyH (x : Nat → Int) : Int × Int × Int := (ltrH x, x 5, x 0)
def leK (a b : Int × Int × Int) : Prop := a.1 < b.1 ∨ (a.1 = b.1 ∧ (a.2.1 < b.2.1 ∨ (a.2.1 = b.2.1 ∧ a.2.2 ≤ b.2.2)))
theorem leK_anti {a b : Int × Int × Int} (h : leK a b) (k : leK b a) : a = b := by
  obtain ⟨a1, a2, a3⟩ := a
  obtain ⟨b1, b2, b3⟩ := b
  unfold leK at h k
  simp only at h k
  have e1 : a1 = b1 := by omega
  have e2 : a2 = b2 := by omega
  have e3 : a3 = b3 := by omega
  rw [e1, e2, e3]
theorem srt_pair {l : List (Nat → Int)} (h : Srt 0 l.length l) : (l.map keyH).Pairwise leK := by
  rw [List.pairwise_map, List.pairwise_iff_getElem]
  intro i j hi hj hij
  have h9 := h i j (by omega) hij hj
  rw [leH_iff, ← at0_get hi, ← at0_get hj] at h9
  exact h9
theorem sorted_same {l r : List (Nat → Int)} (hp : l.Perm r) (hl : Srt 0 l.length l) (hr : Srt 0 r.length r) : l.map (fun x => x 0) = r.map (fun x => x 0) := by
  have h9 : l.map keyH = r.map keyH := List.Perm.eq_of_pairwise (le := leK) (fun a b _ _ h k => leK_anti h k) (srt_pair hl) (srt_pair hr) (hp.map keyH)
  have h8 := congrArg (List.map fun k : Int × Int × Int => k.2.2) h9
  simpa [keyH, Function.comp_def] using h8
/-! the reference's insertion -/
def befH (x y : Nat → Int) : Bool := decide (cmpHn x y < 0)
def insAt (c : List (Nat → Int)) (x : Nat → Int) : Nat → Nat
  | 0 => 0
  | n + 1 => if befH x (at0 c n) then insAt c x n else n + 1
theorem insAt_le (c : List (Nat → Int)) (x : Nat → Int) : ∀ n, insAt c x n ≤ n
  | 0 => Nat.le_refl _
  | n + 1 => by
    unfold insAt
    split
    · exact Nat.le_succ_of_le (insAt_le c x n)
    · exact Nat.le_refl _
theorem insAt_spec (c : List (Nat → Int)) (x : Nat → Int) : ∀ n, (∀ k, insAt c x n ≤ k → k < n → cmpHn x (at0 c k) < 0) ∧ (insAt c x n = 0 ∨ ¬ cmpHn x (at0 c (insAt c x n - 1)) < 0)
  | 0 => ⟨fun k _ h => by omega, .inl rfl⟩
  | n + 1 => by
    obtain ⟨h1, h2⟩ := insAt_spec c x n
    unfold insAt
    by_cases hb : befH x (at0 c n) = true
    · rw [if_pos hb]
      refine ⟨fun k hk1 hk2 => ?_, h2⟩
      by_cases e : k = n
      · subst e; simpa [befH] using hb
      · exact h1 k hk1 (by omega)
    · rw [if_neg hb]
      exact ⟨fun k hk1 hk2 => by omega, .inr (by simpa [befH] using hb)⟩
def insR (c : List (Nat → Int)) (x : Nat → Int) : List (Nat → Int) := c.take (insAt c x c.length) ++ x :: c.drop (insAt c x c.length)
theorem insR_perm (c : List (Nat → Int)) (x : Nat → Int) : (insR c x).Perm (x :: c) := by
  unfold insR
  refine List.perm_middle.trans ?_
  rw [List.take_append_drop]
theorem insR_len (c : List (Nat → Int)) (x : Nat → Int) : (insR c x).length = c.length + 1 := (insR_perm c x).length_eq
theorem at0_ins (c : List (Nat → Int)) (x : Nat → Int) (a : Nat) (ha : a ≤ c.length) (k : Nat) : at0 (c.take a ++ x :: c.drop a) k = if k < a then at0 c k else if k = a then x else at0 c (k - 1) := by
  unfold at0
  rw [List.getD_eq_getElem?_getD, List.getD_eq_getElem?_getD, List.getD_eq_getElem?_getD]
  have hm : (c.take a).length = a := by rw [List.length_take]; omega
  by_cases h1 : k < a
  · rw [if_pos h1, List.getElem?_append_left (by omega), List.getElem?_take, if_pos h1]
  · rw [if_neg h1, List.getElem?_append_right (by omega), hm]
    by_cases h2 : k = a
    · subst h2; rw [if_pos rfl, Nat.sub_self]; rfl
    · rw [if_neg h2, show k - a = (k - 1 - a) + 1 by omega, List.getElem?_cons_succ, List.getElem?_drop]
      congr 2
      omega
theorem insR_srt {c : List (Nat → Int)} (x : Nat → Int) (h : Srt 0 c.length c) : Srt 0 (insR c x).length (insR c x) := by
  rw [insR_len]
  intro p q _ hpq hq
  obtain ⟨h1, h2⟩ := insAt_spec c x c.length
  have hle := insAt_le c x c.length
  unfold insR
  generalize insAt c x c.length = a at *
  rw [at0_ins c x a hle, at0_ins c x a hle]
  by_cases hp : p < a
  · rw [if_pos hp]
    by_cases hq1 : q < a
    · rw [if_pos hq1]; exact h p q (by omega) hpq (by omega)
    · rw [if_neg hq1]
      by_cases hq2 : q = a
      · rw [if_pos hq2]
        rcases h2 with h9 | h9
        · omega
        · by_cases e : p = a - 1
          · rw [e]; exact h9
          · exact leH_trans (h p (a - 1) (by omega) (by omega) (by omega)) h9
      · rw [if_neg hq2]; exact h p (q - 1) (by omega) (by omega) (by omega)
  · rw [if_neg hp, if_neg (show ¬ q < a by omega), if_neg (show ¬ q = a by omega)]
    by_cases hp2 : p = a
    · rw [if_pos hp2]; exact leH_lt (h1 (q - 1) (by omega) (by omega))
    · rw [if_neg hp2]; exact h (p - 1) (q - 1) (by omega) (by omega) (by omega)
def ordL (l : List (Nat → Int)) : List (Nat → Int) := l.foldl (fun c x => if x 1 = -1 then c else insR c x) []
theorem ordL_spec : ∀ (l c : List (Nat → Int)), Srt 0 c.length c → Srt 0 (l.foldl (fun c x => if x 1 = -1 then c else insR c x) c).length (l.foldl (fun c x => if x 1 = -1 then c else insR c x) c) ∧ (l.foldl (fun c x => if x 1 = -1 then c else insR c x) c).Perm (l.filter (fun x => !decide (x 1 = -1)) ++ c)
  | [], c, h => ⟨h, .refl _⟩
  | x :: r, c, h => by
    rw [List.foldl_cons]
    by_cases hx : x 1 = -1
    · rw [if_pos hx, List.filter_cons_of_neg (by simp [hx])]
      exact ordL_spec r c h
    · rw [if_neg hx, List.filter_cons_of_pos (by simp [hx])]
      obtain ⟨s, p⟩ := ordL_spec r (insR c x) (insR_srt x h)
      refine ⟨s, p.trans ?_⟩
      exact ((insR_perm c x).append_left _).trans List.perm_middle
/-- any sorted order of what is left gives the reference's numbers -/
theorem ord_same {l s : List (Nat → Int)} (hp : s.Perm (l.filter fun x => !decide (x 1 = -1))) (hs : Srt 0 s.length s) : s.map (fun x => x 0) = (ordL l).map (fun x => x 0) := by
  obtain ⟨h1, h2⟩ := ordL_spec l [] (fun p q _ _ h => by simp at h)
  rw [List.append_nil] at h2
  exact sorted_same (hp.trans h2.symm) hs h1
end Go.Proofs.Sky

namespace Go.Proofs.Sky
open Go Go.RowKit Go.Shelf
attribute [local go_sem] Oper.semAt_some
set_option maxHeartbeats 4000000
set_option maxRecDepth 8000
/-! chapter 40: the reference, before -/
theorem before40_any (x y : Nat → Int) (w : World) : Calls Tryd.prog 42 #[.agg (hnV x), .agg (hnV y)] w fun e w' => e = .returned (.bool (befH x y)) ∧ Bw w w' := by
  have HB := Lib.hid (Bw.alloc (Bw.alloc (Bw.refl w) (.cells (hnV x) 23)) (.cells (hnV y) 23))
  have K2 := Lib.hid ((Blk.new w 23 (hnV x)).alloc (.cells (hnV y) 23))
  have K3 := Lib.hid (Blk.new (w.alloc (.cells (hnV x) 23)) 23 (hnV y))
  simp only [World.size_alloc] at K3
  have HA0 := Lib.hid (show (hnV x)[0]? = some (.int .i64 (x 0)) from rfl)
  have HA1 := Lib.hid (show (hnV x)[1]? = some (.int .i64 (x 1)) from rfl)
  have HA5 := Lib.hid (show (hnV x)[5]? = some (.int .i64 (x 5)) from rfl)
  have HB0 := Lib.hid (show (hnV y)[0]? = some (.int .i64 (y 0)) from rfl)
  have HB1 := Lib.hid (show (hnV y)[1]? = some (.int .i64 (y 1)) from rfl)
  have HB5 := Lib.hid (show (hnV y)[5]? = some (.int .i64 (y 5)) from rfl)
  by_cases hx1 : x 1 = 1
  · have lx : ltrH x = 0 := if_pos hx1
    by_cases hy1 : y 1 = 1
    · have ly : ltrH y = 0 := if_pos hy1
      by_cases h5 : x 5 = y 5
      · have hq := h5
        have HV := Lib.hid (show befH x y = decide (x 0 < y 0) from decide_eq_decide.2 ⟨fun h => by have := (cmpHn_neg x y).1 h; omega, fun h => (cmpHn_neg x y).2 (by omega)⟩)
        have bx1 : (x 1 == 1) = true := by simpa using hx1
        have by1 : (y 1 == 1) = true := by simpa using hy1
        clear lx ly hx1 hy1
        have e5 : (x 5 != y 5) = false := by simp [h5]
        generalize befH x y = Z at *
        generalize x 0 = x0 at *
        generalize y 0 = y0 at *
        generalize x 1 = x1 at *
        generalize y 1 = y1 at *
        generalize x 5 = x5 at *
        generalize y 5 = y5 at *
        generalize hnV x = A at *
        generalize hnV y = B at *
        go_enter Tryd.func42, Tryd.ntmps42
        go_upto_region 1 with fail
        obtain ⟨g2, hg2⟩ : ∃ g2, w.heap.size = g2 := ⟨_, rfl⟩
        rw [hg2] at K2 K3
        (try rw [hg2])
        obtain ⟨g3, hg3⟩ : ∃ g3, g2 + 1 = g3 := ⟨_, rfl⟩
        rw [hg3] at K3
        (try rw [hg3])
        obtain ⟨W0, hW0⟩ : ∃ W0, (w.alloc (.cells A 23)).alloc (.cells B 23) = W0 := ⟨_, rfl⟩
        rw [hW0] at K2 K3 HB ⊢
        clear hW0 hg2 hg3
        have d0 := K2.out.cell HA0.out
        have d1 := K2.out.cell HA1.out
        have d5 := K2.out.cell HA5.out
        have f0 := K3.out.cell HB0.out
        have f1 := K3.out.cell HB1.out
        have f5 := K3.out.cell HB5.out
        clear K2 K3 HA0 HA1 HA5 HB0 HB1 HB5
        go_wp2
        go_ret
        exact ⟨congrArg (fun b => Ending.returned (Value.bool b)) HV.out.symm, HB.out⟩
      · have hq := h5
        have HV := Lib.hid (show befH x y = decide (x 5 < y 5) from decide_eq_decide.2 ⟨fun h => by have := (cmpHn_neg x y).1 h; omega, fun h => (cmpHn_neg x y).2 (by omega)⟩)
        have bx1 : (x 1 == 1) = true := by simpa using hx1
        have by1 : (y 1 == 1) = true := by simpa using hy1
        clear lx ly hx1 hy1
        have e5 : (x 5 != y 5) = true := by simpa using h5
        generalize befH x y = Z at *
        generalize x 0 = x0 at *
        generalize y 0 = y0 at *
        generalize x 1 = x1 at *
        generalize y 1 = y1 at *
        generalize x 5 = x5 at *
        generalize y 5 = y5 at *
        generalize hnV x = A at *
        generalize hnV y = B at *
        go_enter Tryd.func42, Tryd.ntmps42
        go_upto_region 1 with fail
        obtain ⟨g2, hg2⟩ : ∃ g2, w.heap.size = g2 := ⟨_, rfl⟩
        rw [hg2] at K2 K3
        (try rw [hg2])
        obtain ⟨g3, hg3⟩ : ∃ g3, g2 + 1 = g3 := ⟨_, rfl⟩
        rw [hg3] at K3
        (try rw [hg3])
        obtain ⟨W0, hW0⟩ : ∃ W0, (w.alloc (.cells A 23)).alloc (.cells B 23) = W0 := ⟨_, rfl⟩
        rw [hW0] at K2 K3 HB ⊢
        clear hW0 hg2 hg3
        have d0 := K2.out.cell HA0.out
        have d1 := K2.out.cell HA1.out
        have d5 := K2.out.cell HA5.out
        have f0 := K3.out.cell HB0.out
        have f1 := K3.out.cell HB1.out
        have f5 := K3.out.cell HB5.out
        clear K2 K3 HA0 HA1 HA5 HB0 HB1 HB5
        go_wp2
        go_ret
        exact ⟨congrArg (fun b => Ending.returned (Value.bool b)) HV.out.symm, HB.out⟩
    · have ly : ltrH y = 1 := if_neg hy1
      have HV := Lib.hid (show befH x y = true from decide_eq_true ((cmpHn_neg x y).2 (by omega)))
      have bx1 : (x 1 == 1) = true := by simpa using hx1
      have by1 : (y 1 == 1) = false := by simpa using hy1
      clear lx ly hx1 hy1
      generalize befH x y = Z at *
      generalize x 0 = x0 at *
      generalize y 0 = y0 at *
      generalize x 1 = x1 at *
      generalize y 1 = y1 at *
      generalize x 5 = x5 at *
      generalize y 5 = y5 at *
      generalize hnV x = A at *
      generalize hnV y = B at *
      go_enter Tryd.func42, Tryd.ntmps42
      go_upto_region 1 with fail
      obtain ⟨g2, hg2⟩ : ∃ g2, w.heap.size = g2 := ⟨_, rfl⟩
      rw [hg2] at K2 K3
      (try rw [hg2])
      obtain ⟨g3, hg3⟩ : ∃ g3, g2 + 1 = g3 := ⟨_, rfl⟩
      rw [hg3] at K3
      (try rw [hg3])
      obtain ⟨W0, hW0⟩ : ∃ W0, (w.alloc (.cells A 23)).alloc (.cells B 23) = W0 := ⟨_, rfl⟩
      rw [hW0] at K2 K3 HB ⊢
      clear hW0 hg2 hg3
      have d0 := K2.out.cell HA0.out
      have d1 := K2.out.cell HA1.out
      have d5 := K2.out.cell HA5.out
      have f0 := K3.out.cell HB0.out
      have f1 := K3.out.cell HB1.out
      have f5 := K3.out.cell HB5.out
      clear K2 K3 HA0 HA1 HA5 HB0 HB1 HB5
      go_wp2
      go_ret
      exact ⟨congrArg (fun b => Ending.returned (Value.bool b)) HV.out.symm, HB.out⟩
  · have lx : ltrH x = 1 := if_neg hx1
    by_cases hy1 : y 1 = 1
    · have ly : ltrH y = 0 := if_pos hy1
      have HV := Lib.hid (show befH x y = false from decide_eq_false (fun h => by have := (cmpHn_neg x y).1 h; omega))
      have bx1 : (x 1 == 1) = false := by simpa using hx1
      have by1 : (y 1 == 1) = true := by simpa using hy1
      clear lx ly hx1 hy1
      generalize befH x y = Z at *
      generalize x 0 = x0 at *
      generalize y 0 = y0 at *
      generalize x 1 = x1 at *
      generalize y 1 = y1 at *
      generalize x 5 = x5 at *
      generalize y 5 = y5 at *
      generalize hnV x = A at *
      generalize hnV y = B at *
      go_enter Tryd.func42, Tryd.ntmps42
      go_upto_region 1 with fail
      obtain ⟨g2, hg2⟩ : ∃ g2, w.heap.size = g2 := ⟨_, rfl⟩
      rw [hg2] at K2 K3
      (try rw [hg2])
      obtain ⟨g3, hg3⟩ : ∃ g3, g2 + 1 = g3 := ⟨_, rfl⟩
      rw [hg3] at K3
      (try rw [hg3])
      obtain ⟨W0, hW0⟩ : ∃ W0, (w.alloc (.cells A 23)).alloc (.cells B 23) = W0 := ⟨_, rfl⟩
      rw [hW0] at K2 K3 HB ⊢
      clear hW0 hg2 hg3
      have d0 := K2.out.cell HA0.out
      have d1 := K2.out.cell HA1.out
      have d5 := K2.out.cell HA5.out
      have f0 := K3.out.cell HB0.out
      have f1 := K3.out.cell HB1.out
      have f5 := K3.out.cell HB5.out
      clear K2 K3 HA0 HA1 HA5 HB0 HB1 HB5
      go_wp2
      go_ret
      exact ⟨congrArg (fun b => Ending.returned (Value.bool b)) HV.out.symm, HB.out⟩
    · have ly : ltrH y = 1 := if_neg hy1
      by_cases h5 : x 5 = y 5
      · have hq := h5
        have HV := Lib.hid (show befH x y = decide (x 0 < y 0) from decide_eq_decide.2 ⟨fun h => by have := (cmpHn_neg x y).1 h; omega, fun h => (cmpHn_neg x y).2 (by omega)⟩)
        have bx1 : (x 1 == 1) = false := by simpa using hx1
        have by1 : (y 1 == 1) = false := by simpa using hy1
        clear lx ly hx1 hy1
        have e5 : (x 5 != y 5) = false := by simp [h5]
        generalize befH x y = Z at *
        generalize x 0 = x0 at *
        generalize y 0 = y0 at *
        generalize x 1 = x1 at *
        generalize y 1 = y1 at *
        generalize x 5 = x5 at *
        generalize y 5 = y5 at *
        generalize hnV x = A at *
        generalize hnV y = B at *
        go_enter Tryd.func42, Tryd.ntmps42
        go_upto_region 1 with fail
        obtain ⟨g2, hg2⟩ : ∃ g2, w.heap.size = g2 := ⟨_, rfl⟩
        rw [hg2] at K2 K3
        (try rw [hg2])
        obtain ⟨g3, hg3⟩ : ∃ g3, g2 + 1 = g3 := ⟨_, rfl⟩
        rw [hg3] at K3
        (try rw [hg3])
        obtain ⟨W0, hW0⟩ : ∃ W0, (w.alloc (.cells A 23)).alloc (.cells B 23) = W0 := ⟨_, rfl⟩
        rw [hW0] at K2 K3 HB ⊢
        clear hW0 hg2 hg3
        have d0 := K2.out.cell HA0.out
        have d1 := K2.out.cell HA1.out
        have d5 := K2.out.cell HA5.out
        have f0 := K3.out.cell HB0.out
        have f1 := K3.out.cell HB1.out
        have f5 := K3.out.cell HB5.out
        clear K2 K3 HA0 HA1 HA5 HB0 HB1 HB5
        go_wp2
        go_ret
        exact ⟨congrArg (fun b => Ending.returned (Value.bool b)) HV.out.symm, HB.out⟩
      · have hq := h5
        have HV := Lib.hid (show befH x y = decide (x 5 < y 5) from decide_eq_decide.2 ⟨fun h => by have := (cmpHn_neg x y).1 h; omega, fun h => (cmpHn_neg x y).2 (by omega)⟩)
        have bx1 : (x 1 == 1) = false := by simpa using hx1
        have by1 : (y 1 == 1) = false := by simpa using hy1
        clear lx ly hx1 hy1
        have e5 : (x 5 != y 5) = true := by simpa using h5
        generalize befH x y = Z at *
        generalize x 0 = x0 at *
        generalize y 0 = y0 at *
        generalize x 1 = x1 at *
        generalize y 1 = y1 at *
        generalize x 5 = x5 at *
        generalize y 5 = y5 at *
        generalize hnV x = A at *
        generalize hnV y = B at *
        go_enter Tryd.func42, Tryd.ntmps42
        go_upto_region 1 with fail
        obtain ⟨g2, hg2⟩ : ∃ g2, w.heap.size = g2 := ⟨_, rfl⟩
        rw [hg2] at K2 K3
        (try rw [hg2])
        obtain ⟨g3, hg3⟩ : ∃ g3, g2 + 1 = g3 := ⟨_, rfl⟩
        rw [hg3] at K3
        (try rw [hg3])
        obtain ⟨W0, hW0⟩ : ∃ W0, (w.alloc (.cells A 23)).alloc (.cells B 23) = W0 := ⟨_, rfl⟩
        rw [hW0] at K2 K3 HB ⊢
        clear hW0 hg2 hg3
        have d0 := K2.out.cell HA0.out
        have d1 := K2.out.cell HA1.out
        have d5 := K2.out.cell HA5.out
        have f0 := K3.out.cell HB0.out
        have f1 := K3.out.cell HB1.out
        have f5 := K3.out.cell HB5.out
        clear K2 K3 HA0 HA1 HA5 HB0 HB1 HB5
        go_wp2
        go_ret
        exact ⟨congrArg (fun b => Ending.returned (Value.bool b)) HV.out.symm, HB.out⟩
end Go.Proofs.Sky

namespace Go.Proofs.Sky
open Go Go.RowKit Go.Shelf
attribute [local go_sem] Oper.semAt_some
set_option maxHeartbeats 4000000
set_option maxRecDepth 8000
/-! chapter 40: Fits, signed, page -/
theorem Fits_ok (h0 h1 h2 h3 h4 h5 lag s : Int) (w : World) (hs : 1 ≤ s ∧ s ≤ 8192) (hl : 0 ≤ h4 ∧ h4 < s) (hm : 1 ≤ h5 ∧ h5 ≤ s) (hg : 0 ≤ lag ∧ lag < s) : Calls Tryd.prog 11 #[.agg #[.int .i64 h0, .int .i64 h1, .int .i64 h2, .int .i64 h3, .int .i64 h4, .int .i64 h5], .int .i64 lag, .int .i64 s] w fun e w' => e = .returned (.tuple #[.bool (decide ((lag - h4 + s) % s < h5)), .int .i64 0]) ∧ Bw w w' := by
  have K := Lib.hid (Blk.new w 23 #[.int .i64 h0, .int .i64 h1, .int .i64 h2, .int .i64 h3, .int .i64 h4, .int .i64 h5])
  have HW := Lib.hid (Bw.alloc (Bw.refl w) (.cells #[.int .i64 h0, .int .i64 h1, .int .i64 h2, .int .i64 h3, .int .i64 h4, .int .i64 h5] 23))
  have ht : (lag - h4 + s).tmod s = (lag - h4 + s) % s := Int.tmod_eq_emod_of_nonneg (by omega)
  have hz : ¬ s = 0 := by omega
  have hzb : (s == 0) = false := by simpa using hz
  have hw1 : IntKind.i64.wrap (lag - h4) = lag - h4 := by rw [IntKind.wrap_i64]; omega
  have hw2 : IntKind.i64.wrap (lag - h4 + s) = lag - h4 + s := by rw [IntKind.wrap_i64]; omega
  have hb : 0 ≤ (lag - h4 + s) % s ∧ (lag - h4 + s) % s < s := ⟨Int.emod_nonneg _ hz, Int.emod_lt_of_pos _ (by omega)⟩
  generalize hq : (lag - h4 + s) % s = q at *
  have HQ := Lib.hid hq
  clear hq
  have n1 : ¬ s < 1 := by omega
  have n2 : ¬ 8192 < s := by omega
  have n3 : ¬ h4 < 0 := by omega
  have n4 : ¬ s ≤ h4 := by omega
  have n5 : ¬ h5 < 1 := by omega
  have n6 : ¬ s < h5 := by omega
  have n7 : ¬ lag < 0 := by omega
  have n8 : ¬ s ≤ lag := by omega
  go_enter Tryd.func11, Tryd.ntmps11
  go_upto_region 1 with fail
  obtain ⟨g, hg⟩ : ∃ g, w.heap.size = g := ⟨_, rfl⟩
  rw [hg] at K
  (try rw [hg])
  generalize w.alloc _ = W0 at *
  have d4 := K.out.cell (show (#[.int .i64 h0, .int .i64 h1, .int .i64 h2, .int .i64 h3, .int .i64 h4, .int .i64 h5] : Array Value)[4]? = some (.int .i64 h4) from rfl)
  have d5 := K.out.cell (show (#[.int .i64 h0, .int .i64 h1, .int .i64 h2, .int .i64 h3, .int .i64 h4, .int .i64 h5] : Array Value)[5]? = some (.int .i64 h5) from rfl)
  go_upto_region 3 with fail
  have k4 := fun p : Ext W0 => Ext.cell' d4 p
  have k5 := fun p : Ext W0 => Ext.cell' d5 p
  (refine wp_region_quiet_ext (by kernel_rfl) (by kernel_rfl) ?_; (repeat (go_big_quiet_step ((fail)))); refine wpQuiet_nil ?_; rintro wq ⟨⟨_, hbq⟩, rfl⟩; obtain ⟨hccq, hffq⟩ := Bw.cells hbq; have hszq := Bw.size hbq)
  clear n1 n2 n3 n4 n5 n6 n7 n8
  go_wp2
  refine bodyPost_ret (v := .tuple #[.bool (decide (q < h5)), .int .i64 0]) ?_ rfl ⟨rfl, HW.out.trans hbq⟩
  simp [results, Tryd.results11, go_sem]
def sgW (n k : Int) : Int := bel n (2 * k + 1) - k
theorem sgW_bd (n k : Int) (hk : 0 ≤ k) : -k ≤ sgW n k ∧ sgW n k ≤ k := by have := bel_bd n (2 * k + 1) (by omega); unfold sgW; omega
theorem signed40_any (n k : Int) (hk : 0 ≤ k ∧ k ≤ 1000000000) (w : World) : Calls Tryd.prog 18 #[.int .i64 n, .int .i64 k] w fun e w' => e = .returned (.int .i64 (sgW n k)) ∧ Bw w w' := by
  have BE := Lib.hid (fun W => Below_any n (2 * k + 1) W (by omega) (by omega))
  have hb := bel_bd n (2 * k + 1) (by omega)
  unfold sgW
  generalize bel n (2 * k + 1) = B at *
  have hw1 : IntKind.i64.wrap (2 * k) = 2 * k := by rw [IntKind.wrap_i64]; omega
  have hw2 : IntKind.i64.wrap (2 * k + 1) = 2 * k + 1 := by rw [IntKind.wrap_i64]; omega
  have hw3 : IntKind.i64.wrap (B - k) = B - k := by rw [IntKind.wrap_i64]; omega
  go_enter Tryd.func18, Tryd.ntmps18
  go_wp2_with (go_at_call 15; (with_reducible refine Calls.mono (BE.out _) ?_); rintro e1 w1 ⟨rfl, hb9⟩)
  go_ret
  exact ⟨rfl, hb9⟩
/-- the page that numbers select -/
def pg4 (zs : List Int) (t : Int) : Nat → Int := fun i => if i = 0 then 1 + bel (nth zs 0) 63 else if i = 1 then bel (t + sgW (nth zs 1) 13800) 604800 else if i = 2 then bel (nth zs 2) 65536 else if i = 3 then bel (nth zs 3) 100000 else if i < 13 then sgW (nth zs (i : Nat)) (if i % 3 = 1 then 500000 else if i % 3 = 2 then 8000 else 2000) else 0
/-- what of it stands after k rounds -/
def pgK (zs : List Int) (t : Int) (k : Nat) : Nat → Int := fun i => if i < 4 + 3 * k then pg4 zs t i else 0
theorem pgK_three (zs : List Int) (t : Int) : pgV (pgK zs t 3) = pgV (pg4 zs t) := rfl
theorem pgK_zero (zs : List Int) (t : Int) : pgV (pgK zs t 0) = #[.int .i64 (1 + bel (nth zs 0) 63), .int .i64 (bel (t + sgW (nth zs 1) 13800) 604800), .int .i64 (bel (nth zs 2) 65536), .int .i64 (bel (nth zs 3) 100000), .int .i64 0, .int .i64 0, .int .i64 0, .int .i64 0, .int .i64 0, .int .i64 0, .int .i64 0, .int .i64 0, .int .i64 0] := rfl
theorem pg4_row (zs : List Int) (t : Int) (k : Nat) (hk : k < 3) : pg4 zs t (4 + 3 * k) = sgW (nth zs (4 + 3 * (k : Int))) 500000 ∧ pg4 zs t (5 + 3 * k) = sgW (nth zs (5 + 3 * (k : Int))) 8000 ∧ pg4 zs t (6 + 3 * k) = sgW (nth zs (6 + 3 * (k : Int))) 2000 := by
  match k, hk with
  | 0, _ => exact ⟨rfl, rfl, rfl⟩
  | 1, _ => exact ⟨rfl, rfl, rfl⟩
  | 2, _ => exact ⟨rfl, rfl, rfl⟩
theorem pg4_ok (zs : List Int) (t : Int) : errPg (pg4 zs t) = 0 := by
  refine errPg_yes ?_ ?_
  · have b0 := bel_bd (nth zs 0) 63 (by decide)
    have b1 := bel_bd (t + sgW (nth zs 1) 13800) 604800 (by decide)
    have b2 := bel_bd (nth zs 2) 65536 (by decide)
    have b3 := bel_bd (nth zs 3) 100000 (by decide)
    show 1 ≤ 1 + bel (nth zs 0) 63 ∧ 1 + bel (nth zs 0) 63 ≤ 63 ∧ 0 ≤ bel (t + sgW (nth zs 1) 13800) 604800 ∧ bel (t + sgW (nth zs 1) 13800) 604800 ≤ 604799 ∧ 0 ≤ bel (nth zs 2) 65536 ∧ bel (nth zs 2) 65536 ≤ 65535 ∧ 0 ≤ bel (nth zs 3) 100000 ∧ bel (nth zs 3) 100000 ≤ 1048575
    omega
  · have k20 : ∀ n, okZ 20 (sgW n 500000) = true := fun n => by
      have := sgW_bd n 500000 (by decide)
      refine decide_eq_true ?_
      rw [show lowR 20 true = -524288 from by decide, show highR 20 true = 524287 from by decide]; omega
    have k14 : ∀ n, okZ 14 (sgW n 8000) = true := fun n => by
      have := sgW_bd n 8000 (by decide)
      refine decide_eq_true ?_
      rw [show lowR 14 true = -8192 from by decide, show highR 14 true = 8191 from by decide]; omega
    have k12 : ∀ n, okZ 12 (sgW n 2000) = true := fun n => by
      have := sgW_bd n 2000 (by decide)
      refine decide_eq_true ?_
      rw [show lowR 12 true = -2048 from by decide, show highR 12 true = 2047 from by decide]; omega
    intro i hi
    match i, hi with
    | 0, _ => exact ⟨k20 _, k20 _, k20 _⟩
    | 1, _ => exact ⟨k14 _, k14 _, k14 _⟩
    | 2, _ => exact ⟨k12 _, k12 _, k12 _⟩
end Go.Proofs.Sky

namespace Go.Proofs.Sky
open Go Go.RowKit Go.Shelf
attribute [local go_sem] Oper.semAt_some
set_option maxHeartbeats 4000000
set_option maxRecDepth 8000
/-! chapter 40: page -/
theorem blk_row3 {w : World} {g : Nat} {zs : List Int} {t : Int} {k : Nat} (hk : k < 3) (h : Blk w g 29 (pgV (pgK zs t k))) : Blk (w.setCells g (4 + 3 * k) [.int .i64 (pg4 zs t (4 + 3 * k)), .int .i64 (pg4 zs t (5 + 3 * k)), .int .i64 (pg4 zs t (6 + 3 * k))]) g 29 (pgV (pgK zs t (k + 1))) := by
  have h9 := ((h.set (4 + 3 * k) (.int .i64 (pg4 zs t (4 + 3 * k)))).set (4 + 3 * k + 1) (.int .i64 (pg4 zs t (5 + 3 * k)))).set (4 + 3 * k + 2) (.int .i64 (pg4 zs t (6 + 3 * k)))
  match k, hk with
  | 0, _ => exact h9
  | 1, _ => exact h9
  | 2, _ => exact h9
theorem bw_setCells4 {W0 : World} {g : Nat} (hg : W0.heap.size ≤ g) : ∀ (vs : List Value) (o : Nat) (w : World), Bw W0 w → Bw W0 (w.setCells g o vs)
  | [], _, _, h => h
  | v :: r, o, w, h => by rw [World.setCells]; exact bw_setCells4 hg r (o + 1) _ (Bw.setCell h hg v)
theorem page40_any (zs : List Int) (v : Value) (t : Int) (ht : 0 ≤ t ∧ t ≤ 604799) (w : World) (hv : RdI w v zs) : Calls Tryd.prog 17 #[v, .int .i64 t] w fun e w' => e = .returned (.agg (pgV (pg4 zs t))) ∧ Bw w w' := by
  have HV := Lib.hid hv
  have NT := Lib.hid (fun i W h => Nth_any zs v i W h)
  have BE := Lib.hid (fun n k W (h : 1 ≤ k ∧ k ≤ 4611686018427387904) => Below_any n k W h.1 h.2)
  have SG := Lib.hid (fun n k W (h : 0 ≤ k ∧ k ≤ 1000000000) => signed40_any n k h W)
  have b0 := bel_bd (nth zs 0) 63 (by decide)
  have hsg := sgW_bd (nth zs 1) 13800 (by decide)
  have hw1 : IntKind.i64.wrap (t + sgW (nth zs 1) 13800) = t + sgW (nth zs 1) 13800 := by rw [IntKind.wrap_i64]; omega
  have hw2 : IntKind.i64.wrap (1 + bel (nth zs 0) 63) = 1 + bel (nth zs 0) 63 := by rw [IntKind.wrap_i64]; omega
  clear hv
  have K4 := Lib.hid (Blk.new w 29 #[.int .i64 0, .int .i64 0, .int .i64 0, .int .i64 0, .int .i64 0, .int .i64 0, .int .i64 0, .int .i64 0, .int .i64 0, .int .i64 0, .int .i64 0, .int .i64 0, .int .i64 0])
  have HW := Lib.hid (Bw.alloc (Bw.refl w) (.cells #[.int .i64 0, .int .i64 0, .int .i64 0, .int .i64 0, .int .i64 0, .int .i64 0, .int .i64 0, .int .i64 0, .int .i64 0, .int .i64 0, .int .i64 0, .int .i64 0, .int .i64 0] 29))
  go_enter Tryd.func17, Tryd.ntmps17
  go_upto_region 1 with fail
  obtain ⟨g4, hg4⟩ : ∃ g4, w.heap.size = g4 := ⟨_, rfl⟩
  have HG4 := Lib.hid hg4
  rw [hg4] at K4
  (try rw [hg4])
  obtain ⟨W0, hW0⟩ : ∃ W0, w.alloc (.cells #[.int .i64 0, .int .i64 0, .int .i64 0, .int .i64 0, .int .i64 0, .int .i64 0, .int .i64 0, .int .i64 0, .int .i64 0, .int .i64 0, .int .i64 0, .int .i64 0, .int .i64 0] 29) = W0 := ⟨_, rfl⟩
  rw [hW0] at K4 HW ⊢
  clear hW0 hg4
  obtain ⟨w1, hw1e⟩ : ∃ w1, w1 = W0 := ⟨_, rfl⟩
  subst hw1e
  have HZ13 := Lib.hid (fun (W : World) => Blk.new W 29 #[.int .i64 0, .int .i64 0, .int .i64 0, .int .i64 0, .int .i64 0, .int .i64 0, .int .i64 0, .int .i64 0, .int .i64 0, .int .i64 0, .int .i64 0, .int .i64 0, .int .i64 0])
  go_upto_region 2 with (first | (go_at_call 16; (with_reducible refine Calls.mono (NT.out _ _ (HV.out.mono HW.out)) ?_); rintro e1 w1 ⟨rfl, hb1⟩; replace K4 := Lib.hid (K4.out.bw hb1); replace HW := Lib.hid (HW.out.trans hb1); clear hb1) | (go_at_call 15; (with_reducible refine Calls.mono (BE.out _ _ _ ?_) ?_); exact ⟨by omega, by omega⟩; rintro e1 w1 ⟨rfl, hb1⟩; replace K4 := Lib.hid (K4.out.bw hb1); replace HW := Lib.hid (HW.out.trans hb1); clear hb1) | (go_at_call 18; (with_reducible refine Calls.mono (SG.out _ _ _ ?_) ?_); exact ⟨by omega, by omega⟩; rintro e1 w1 ⟨rfl, hb1⟩; replace K4 := Lib.hid (K4.out.bw hb1); replace HW := Lib.hid (HW.out.trans hb1); clear hb1) | ((with_reducible refine at_store 29 (.tmp 5) (.tmp 24) ?_); refine wpList_store_row rfl 29 (.tmp 5) (.tmp 24) rfl w1.heap.size (pgV (pgK zs t 0)) rfl rfl 29 #[.int .i64 0, .int .i64 0, .int .i64 0, .int .i64 0, .int .i64 0, .int .i64 0, .int .i64 0, .int .i64 0, .int .i64 0, .int .i64 0, .int .i64 0, .int .i64 0, .int .i64 0] (HZ13.out w1) (by kernel_rfl) rfl (by simp [Value.oneCell', pgV]) ?_))
  obtain ⟨g5, hg5⟩ : ∃ g5, w1.heap.size = g5 := ⟨_, rfl⟩
  have hb2 := Bw.setRow (Bw.alloc (Bw.refl w1) (.cells #[.int .i64 0, .int .i64 0, .int .i64 0, .int .i64 0, .int .i64 0, .int .i64 0, .int .i64 0, .int .i64 0, .int .i64 0, .int .i64 0, .int .i64 0, .int .i64 0, .int .i64 0] 29)) (Nat.le_of_eq hg5) (pgV (pgK zs t 0))
  have K5 := Lib.hid ((HZ13.out w1).row (pgV (pgK zs t 0)))
  have HG5 := Lib.hid (show w.heap.size ≤ g5 by have := HW.out.size; omega)
  have HN45 := Lib.hid (show g4 ≠ g5 by have := K4.out.lt; omega)
  rw [hg5] at K5 ⊢
  replace HW := Lib.hid (HW.out.trans hb2)
  replace K4 := Lib.hid (K4.out.bw hb2)
  rw [← pgK_zero zs t]
  generalize World.setRow (World.alloc w1 _) _ _ = W2 at *
  clear hb2 hg5 hw1 hw2 hsg b0
  (try simp only [Act.put])
  go_wp2_with fail
  go_loopg [6] 3 (fun gg s6 wr => ∃ k : Nat, k ≤ 3 ∧ 3 - k ≤ gg ∧ s6 = .int .i64 k ∧ Hid (Bw w wr) ∧ Hid (Blk wr g5 29 (pgV (pgK zs t k))) ∧ Hid (Blk wr g4 29 #[.int .i64 0, .int .i64 0, .int .i64 0, .int .i64 0, .int .i64 0, .int .i64 0, .int .i64 0, .int .i64 0, .int .i64 0, .int .i64 0, .int .i64 0, .int .i64 0, .int .i64 0]))
  case atStart => exact ⟨0, by omega, by omega, rfl, HW, K5, K4⟩
  case round =>
    clear HW K5 K4
    obtain ⟨k, hk, hgg, rfl, HW, K5, K4⟩ := hrel
    obtain ⟨w1, hw1e⟩ : ∃ w1, w1 = wr := ⟨_, rfl⟩
    subst hw1e
    by_cases hlk : k < 3
    · have hkz : (k : Int) < 3 := by omega
      have HP := Lib.hid (pg4_row zs t k hlk)
      have HR3 := Lib.hid (fun (W : World) h => blk_row3 (w := W) (g := g5) (zs := zs) (t := t) hlk h)
      have HZ3 := Lib.hid (fun (W : World) => Blk.new W 27 #[.int .i64 0, .int .i64 0, .int .i64 0])
      rw [HP.out.1, HP.out.2.1, HP.out.2.2] at HR3
      have hw3 : IntKind.i64.wrap (3 * (k : Int)) = 3 * (k : Int) := by rw [IntKind.wrap_i64]; omega
      have hw4 : IntKind.i64.wrap (4 + 3 * (k : Int)) = 4 + 3 * (k : Int) := by rw [IntKind.wrap_i64]; omega
      have hw5 : IntKind.i64.wrap (5 + 3 * (k : Int)) = 5 + 3 * (k : Int) := by rw [IntKind.wrap_i64]; omega
      have hw6 : IntKind.i64.wrap (6 + 3 * (k : Int)) = 6 + 3 * (k : Int) := by rw [IntKind.wrap_i64]; omega
      go_upto_region 6 with (first | (go_at_call 16; (with_reducible refine Calls.mono (NT.out _ _ (HV.out.mono HW.out)) ?_); rintro e1 w1 ⟨rfl, hb1⟩; replace K4 := Lib.hid (K4.out.bw hb1); replace K5 := Lib.hid (K5.out.bw hb1); replace HW := Lib.hid (HW.out.trans hb1); clear hb1) | (go_at_call 15; (with_reducible refine Calls.mono (BE.out _ _ _ ?_) ?_); exact ⟨by omega, by omega⟩; rintro e1 w1 ⟨rfl, hb1⟩; replace K4 := Lib.hid (K4.out.bw hb1); replace K5 := Lib.hid (K5.out.bw hb1); replace HW := Lib.hid (HW.out.trans hb1); clear hb1) | (go_at_call 18; (with_reducible refine Calls.mono (SG.out _ _ _ ?_) ?_); exact ⟨by omega, by omega⟩; rintro e1 w1 ⟨rfl, hb1⟩; replace K4 := Lib.hid (K4.out.bw hb1); replace K5 := Lib.hid (K5.out.bw hb1); replace HW := Lib.hid (HW.out.trans hb1); clear hb1) | ((with_reducible refine at_store 27 (.tmp 7) (.tmp 47) ?_); refine wpList_store_row rfl 27 (.tmp 7) (.tmp 47) rfl w1.heap.size #[.int .i64 (sgW (nth zs (4 + 3 * (k : Int))) 500000), .int .i64 (sgW (nth zs (5 + 3 * (k : Int))) 8000), .int .i64 (sgW (nth zs (6 + 3 * (k : Int))) 2000)] rfl rfl 27 #[.int .i64 0, .int .i64 0, .int .i64 0] (HZ3.out w1) (by kernel_rfl) rfl (by simp [Value.oneCell']) ?_))
      generalize sgW (nth zs (4 + 3 * (k : Int))) 500000 = s0 at *
      generalize sgW (nth zs (5 + 3 * (k : Int))) 8000 = s1 at *
      generalize sgW (nth zs (6 + 3 * (k : Int))) 2000 = s2 at *
      obtain ⟨g7, hg7⟩ : ∃ g7, w1.heap.size = g7 := ⟨_, rfl⟩
      have hb2 := Bw.setRow (Bw.alloc (Bw.refl w1) (.cells #[.int .i64 0, .int .i64 0, .int .i64 0] 27)) (Nat.le_of_eq hg7) #[.int .i64 s0, .int .i64 s1, .int .i64 s2]
      have K7 := Lib.hid ((HZ3.out w1).row #[.int .i64 s0, .int .i64 s1, .int .i64 s2])
      rw [hg7] at K7 ⊢
      replace HW := Lib.hid (HW.out.trans hb2)
      replace K4 := Lib.hid (K4.out.bw hb2)
      replace K5 := Lib.hid (K5.out.bw hb2)
      generalize World.setRow (World.alloc w1 _) _ _ = W3 at *
      clear hb2 hg7 hw3 hw4 hw5 hw6 HP
      (try simp only [Act.put])
      have HTH := Lib.hid (show W3.there g5 (4 + 3 * k) 3 from blk_there K5.out (by show 4 + 3 * k + 3 ≤ 13; omega))
      have K5N := Lib.hid (HR3.out W3 K5.out)
      have HWN := Lib.hid (bw_setCells4 HG5.out [.int .i64 s0, .int .i64 s1, .int .i64 s2] (4 + 3 * k) W3 HW.out)
      have K4N := Lib.hid (((K4.out.set_other HN45.out (4 + 3 * k) (.int .i64 s0)).set_other HN45.out (4 + 3 * k + 1) (.int .i64 s1)).set_other HN45.out (4 + 3 * k + 2) (.int .i64 s2))
      clear HR3
      rcases (by omega : k = 0 ∨ k = 1 ∨ k = 2) with rfl | rfl | rfl
      · go_wp2_with (first | ((with_reducible refine at_load 27 (.tmp 7) ?_); refine wpList_load_row rfl 27 _ rfl g7 rfl 27 #[.int .i64 s0, .int .i64 s1, .int .i64 s2] (0, 0) _ K7.out Tryd.underlying27 rfl (by kernel_rfl) ?_) | ((with_reducible refine at_store 27 (.tmp 54) (.tmp 53) ?_); refine wpList_store_mid rfl 27 (.tmp 54) (.tmp 53) rfl g5 4 #[.int .i64 s0, .int .i64 s1, .int .i64 s2] (by simp [Act.eval, Act.put]) rfl HTH.out (by kernel_rfl) (by simp [Value.oneCell']) ?_))
        go_roundg (3 - (0 + 1))
        case measure => omega
        case rel => exact ⟨0 + 1, by omega, by omega, by go_num, HWN, K5N, K4N⟩
      · go_wp2_with (first | ((with_reducible refine at_load 27 (.tmp 7) ?_); refine wpList_load_row rfl 27 _ rfl g7 rfl 27 #[.int .i64 s0, .int .i64 s1, .int .i64 s2] (0, 0) _ K7.out Tryd.underlying27 rfl (by kernel_rfl) ?_) | ((with_reducible refine at_store 27 (.tmp 58) (.tmp 57) ?_); refine wpList_store_mid rfl 27 (.tmp 58) (.tmp 57) rfl g5 7 #[.int .i64 s0, .int .i64 s1, .int .i64 s2] (by simp [Act.eval, Act.put]) rfl HTH.out (by kernel_rfl) (by simp [Value.oneCell']) ?_))
        go_roundg (3 - (1 + 1))
        case measure => omega
        case rel => exact ⟨1 + 1, by omega, by omega, by go_num, HWN, K5N, K4N⟩
      · go_wp2_with (first | ((with_reducible refine at_load 27 (.tmp 7) ?_); refine wpList_load_row rfl 27 _ rfl g7 rfl 27 #[.int .i64 s0, .int .i64 s1, .int .i64 s2] (0, 0) _ K7.out Tryd.underlying27 rfl (by kernel_rfl) ?_) | ((with_reducible refine at_store 27 (.tmp 50) (.tmp 49) ?_); refine wpList_store_mid rfl 27 (.tmp 50) (.tmp 49) rfl g5 10 #[.int .i64 s0, .int .i64 s1, .int .i64 s2] (by simp [Act.eval, Act.put]) rfl HTH.out (by kernel_rfl) (by simp [Value.oneCell']) ?_))
        go_roundg (3 - (2 + 1))
        case measure => omega
        case rel => exact ⟨2 + 1, by omega, by omega, by go_num, HWN, K5N, K4N⟩
    · obtain rfl : k = 3 := by omega
      have hkz : ¬ ((3 : Nat) : Int) < 3 := by omega
      rw [pgK_three] at K5
      have HSZ : Hid ((Tryd.prog.info? 29).map (·.size) = some (pgV (pg4 zs t)).size) := Lib.hid (by kernel_rfl)
      have HPX : Hid ((pgV (pg4 zs t)).all (·.oneCell') = true) := Lib.hid (by simp [Value.oneCell', pgV])
      have HN13 : Hid ((#[.int .i64 0, .int .i64 0, .int .i64 0, .int .i64 0, .int .i64 0, .int .i64 0, .int .i64 0, .int .i64 0, .int .i64 0, .int .i64 0, .int .i64 0, .int .i64 0, .int .i64 0] : Array Value).size = (pgV (pg4 zs t)).size) := Lib.hid rfl
      go_wp2_with (first | ((with_reducible refine at_load 29 (.tmp 5) ?_); refine wpList_load_row rfl 29 _ rfl g5 rfl 29 (pgV (pg4 zs t)) (0, 0) _ K5.out Tryd.underlying29 rfl HSZ.out ?_) | ((with_reducible refine at_store 29 (.tmp 4) (.tmp 59) ?_); refine wpList_store_row rfl 29 (.tmp 4) (.tmp 59) rfl g4 (pgV (pg4 zs t)) rfl rfl 29 #[.int .i64 0, .int .i64 0, .int .i64 0, .int .i64 0, .int .i64 0, .int .i64 0, .int .i64 0, .int .i64 0, .int .i64 0, .int .i64 0, .int .i64 0, .int .i64 0, .int .i64 0] K4.out HSZ.out HN13.out HPX.out ?_))
      refine bodyPost_ret (v := .agg (pgV (pg4 zs t))) ?_ rfl ⟨rfl, Bw.setRow HW.out (Nat.le_of_eq HG4.out) _⟩
      exact results_cell_row (p := 4) rfl _ _ g4 _ _ (0, 0) _ rfl (K4.out.row _) Tryd.underlying29 rfl (by kernel_rfl)
end Go.Proofs.Sky
