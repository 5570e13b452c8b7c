/-
  lemmas for the theorems of this claim. No conditions beyond those written in the statements.
-/
import Derived.Test.YtpmopobjlpfdaaaDoorFB40
import Derived.Lib.SliceRun
import Derived.Deep.CutBlock
import Derived.Test.YtpmopobjlpfdaaaDoorKxC
set_option linter.unusedVariables false
set_option linter.unusedSimpArgs false
set_option linter.unnecessarySimpa false
namespace Go.Proofs.Sky
open Go Go.RowKit Go.Shelf
attribute [local go_sem] Oper.semAt_some
set_option maxHeartbeats 4000000
set_option maxRecDepth 8000
/-! chapter 40: Clone of a row of pages -/
def OwH (base : Nat) (ps : List (Nat → Int)) (e : Ending) (w' : World) : Prop := ∃ v', e = .returned v' ∧ w'.ownsRow base 23 6 v' ps.length (flatH ps)
theorem own_emptyH (w : World) (T : TypeId) : (w.alloc (.cells #[] T)).ownsRow w.heap.size T 6 (.slice (some ⟨w.heap.size, 0, none⟩) 0 0) 0 [] :=
  ⟨rfl, .inr ⟨w.heap.size, 0, #[], rfl, Nat.le_refl _, Blk.new w T #[], Nat.le_refl _, Nat.zero_le _, rfl, rfl⟩⟩
theorem cloneHn_any (ps : List (Nat → Int)) (hs : ps.length ≤ 1000) (v : Value) (w : World) (hv : RdH w v ps) : Calls Tryd.prog 29 #[v] w fun e w' => OwH w.heap.size ps e w' ∧ Bw w w' := by
  obtain ⟨_, a, c, rfl, h4⟩ := hv
  have q22 : ∀ (w : World) (a : Option Addr) (n c n' c' : Nat), (binOp .eql 36 (.slice a n c) (.slice none n' c')).run Tryd.prog w = .ok (.bool a.isNone) w := fun w a n c n' c' => Lib.run_eql_slice_nil w _ _ a n c n' c' Tryd.underlying36
  cases a with
  | none =>
    obtain rfl : ps = [] := by rcases h4 with h | ⟨_, _, h, _⟩; exact h; cases h
    go_enter Tryd.func29, Tryd.ntmps29
    go_wp2
    go_ret
    exact ⟨⟨_, rfl, World.ownsRow_nil _ _ _ _⟩, Bw.refl _⟩
  | some ad =>
    have OE := Lib.hid (own_emptyH w 23)
    have HW := Lib.hid (Bw.alloc (Bw.refl w) (.cells #[] 23))
    rcases h4 with rfl | ⟨b, o, e1, _, hz⟩
    · go_enter Tryd.func29, Tryd.ntmps29
      go_wp2_with (at_builtin; refine wpList_append_noneH rfl (.tmp 5) (.tmp 6) _ rfl w.heap.size Tryd.underlying36 _ [] rfl OE.out ad c rfl (by simp) (by simp only [World.size_alloc]; omega) ?_; intro v8 w8 hown hgr hni; replace HW := Lib.hid (bw_grownN rfl HW.out OE.out hgr); have O1 := Lib.hid hown; clear hown hgr hni)
      go_ret
      exact ⟨⟨_, rfl, O1.out⟩, HW.out⟩
    injection e1 with e1
    subst e1
    have HZ := Lib.hid (fun i x hi => rg_bw9 (hz i x hi) (Bw.alloc (Bw.refl w) (.cells #[] 23)))
    clear hz
    go_enter Tryd.func29, Tryd.ntmps29
    go_wp2_with (at_builtin; refine wpList_append_hns rfl (.tmp 5) (.tmp 6) _ rfl w.heap.size Tryd.underlying36 _ [] ps rfl OE.out b o c rfl HZ.out (by simp; omega) (by simp only [World.size_alloc]; omega) ?_; intro v8 w8 hown hgr hni; replace HW := Lib.hid (bw_grownN rfl HW.out OE.out hgr); have O1 := Lib.hid hown; clear hown hgr hni)
    go_ret
    exact ⟨⟨_, rfl, O1.out⟩, HW.out⟩
end Go.Proofs.Sky

namespace Go.Proofs.Sky
open Go Go.RowKit Go.Shelf
attribute [local go_sem] Oper.semAt_some
set_option maxHeartbeats 4000000
set_option maxRecDepth 8000
/-! chapter 40: comparing hints -/
def cmpI (a b : Int) : Int := if a < b then -1 else if b < a then 1 else 0
theorem cmpI_bd (a b : Int) : cmpI a b = -1 ∨ cmpI a b = 0 ∨ cmpI a b = 1 := by
  unfold cmpI
  split
  · simp
  · split <;> simp
theorem cmp40_any (a b : Int) (w : World) : Calls Tryd.prog 35 #[.int .i64 a, .int .i64 b] w fun e w' => e = .returned (.int .i64 (cmpI a b)) ∧ Bw w w' := by
  by_cases h1 : a < b
  · have HG := Lib.hid (show cmpI a b = -1 from if_pos h1)
    go_enter Tryd.func35, Tryd.ntmps35
    go_wp2
    go_ret
    exact ⟨ret_int HG.out.symm, Bw.refl _⟩
  · by_cases h2 : b < a
    · have HG := Lib.hid (show cmpI a b = 1 by unfold cmpI; rw [if_neg h1, if_pos h2])
      go_enter Tryd.func35, Tryd.ntmps35
      go_wp2
      go_ret
      exact ⟨ret_int HG.out.symm, Bw.refl _⟩
    · have HG := Lib.hid (show cmpI a b = 0 by unfold cmpI; rw [if_neg h1, if_neg h2])
      go_enter Tryd.func35, Tryd.ntmps35
      go_wp2
      go_ret
      exact ⟨ret_int HG.out.symm, Bw.refl _⟩
def ltrH (x : Nat → Int) : Int := if x 1 = 1 then 0 else 1
theorem later40_any (x : Nat → Int) (w : World) : Calls Tryd.prog 34 #[.agg (hnV x)] w fun e w' => e = .returned (.int .i64 (ltrH x)) ∧ Bw w w' := by
  have K := Lib.hid (Blk.new w 23 (hnV x))
  have HW := Lib.hid (Bw.alloc (Bw.refl w) (.cells (hnV x) 23))
  have d1 := K.out.cell (show (hnV x)[1]? = some (.int .i64 (x 1)) from rfl)
  by_cases h : x 1 = 1
  · have HE := Lib.hid (show ltrH x = 0 from if_pos h)
    have hb : (x 1 == 1) = true := by simpa using h
    clear h
    generalize x 1 = x1 at *
    go_enter Tryd.func34, Tryd.ntmps34
    go_wp2
    go_ret
    exact ⟨ret_int HE.out.symm, HW.out⟩
  · have HE := Lib.hid (show ltrH x = 1 from if_neg h)
    have hb : (x 1 == 1) = false := by simpa using h
    clear h
    generalize x 1 = x1 at *
    go_enter Tryd.func34, Tryd.ntmps34
    go_wp2
    go_ret
    exact ⟨ret_int HE.out.symm, HW.out⟩
def orR : List Int → Int
  | [] => 0
  | a :: l => if a = 0 then orR l else a
theorem orR_drop (zs : List Int) (k : Nat) (hk : k < zs.length) : orR (zs.drop k) = if zs.getD k 0 = 0 then orR (zs.drop (k + 1)) else zs.getD k 0 := by
  rw [List.drop_eq_getElem_cons hk, orR, List.getD_eq_getElem?_getD, List.getElem?_eq_getElem hk]; rfl
theorem or40_any (zs : List Int) (v : Value) (w : World) (hv : RdI w v zs) : Calls Tryd.prog 33 #[v] w fun e w' => e = .returned (.int .i64 (orR zs)) ∧ Bw w w' := by
  have HD := Lib.hid (orR_drop zs)
  have HD0 := Lib.hid (show orR (zs.drop 0) = orR zs from rfl)
  have HDN := Lib.hid (show orR (zs.drop zs.length) = 0 by rw [List.drop_length]; rfl)
  obtain ⟨a, c, rfl⟩ := hv.form
  have HV := Lib.hid hv
  have hn63 := hv.1
  obtain ⟨n, hn⟩ : ∃ n, zs.length = n := ⟨_, rfl⟩
  rw [hn] at HV HD HDN hn63 ⊢
  have HN := Lib.hid hn
  clear hv hn
  go_enter Tryd.func33, Tryd.ntmps33
  go_wp2
  go_loopw [8] (fun s8 wr => ∃ k : Nat, k ≤ n ∧ s8 = .int .i64 k ∧ Hid (orR zs = orR (zs.drop k)) ∧ wr = w) (fun s8 _ => n - (intOf s8).toNat)
  case atStart => exact ⟨0, by omega, rfl, Lib.hid rfl, rfl⟩
  case round =>
    obtain ⟨k, hk, rfl, HR, rfl⟩ := hrel
    by_cases hlt : k < n
    · have hkz : (k : Int) < n := by omega
      have hk0 : (0 : Int) ≤ k := by omega
      obtain ⟨b, o, c1, hv9, _, hz⟩ := HV.out.at (by have := HN.out; omega)
      injection hv9 with i1 i2 i3
      subst i1
      clear i2 i3
      have d := hz k (by have := HN.out; omega)
      clear hz
      have HK := Lib.hid (HD.out k hlt)
      generalize zs.getD k 0 = z at *
      by_cases hz0 : z = 0
      · have hb : (z != 0) = false := by simpa using hz0
        have HE := Lib.hid (show orR zs = orR (zs.drop (k + 1)) by rw [HR.out, HK.out, if_pos hz0])
        clear hz0
        go_wp2
        go_roundw
        case rel => exact ⟨k + 1, by omega, by go_num, HE, by trivial⟩
        case measure => simp [intOf]; omega
      · have hb : (z != 0) = true := by simpa using hz0
        have HE := Lib.hid (show orR zs = z by rw [HR.out, HK.out, if_neg hz0])
        clear hz0
        go_wp2
        go_ret
        exact ⟨ret_int HE.out.symm, Bw.refl _⟩
    · obtain rfl : k = n := by omega
      have HE := Lib.hid (show orR zs = 0 by rw [HR.out, HDN.out])
      go_wp2
      go_ret
      exact ⟨ret_int HE.out.symm, Bw.refl _⟩
end Go.Proofs.Sky

namespace Go.Proofs.Sky
open Go Go.RowKit Go.Shelf
attribute [local go_sem] Oper.semAt_some
set_option maxHeartbeats 4000000
set_option maxRecDepth 8000
/-! chapter 40: comparing hints, the closure -/
def cmpHn (x y : Nat → Int) : Int := orR [ltrH x - ltrH y, cmpI (x 5) (y 5), cmpI (x 0) (y 0)]
theorem cmpH_any (x y : Nat → Int) (w : World) : Calls Tryd.prog 32 #[.agg (hnV x), .agg (hnV y)] w fun e w' => e = .returned (.int .i64 (cmpHn x y)) ∧ Bw w w' := by
  have LX := Lib.hid (fun W => later40_any x W)
  have LY := Lib.hid (fun W => later40_any y W)
  have C5 := Lib.hid (fun W => cmp40_any (x 5) (y 5) W)
  have C0 := Lib.hid (fun W => cmp40_any (x 0) (y 0) W)
  have hl : 0 ≤ ltrH x ∧ ltrH x ≤ 1 := by unfold ltrH; split <;> omega
  have hm : 0 ≤ ltrH y ∧ ltrH y ≤ 1 := by unfold ltrH; split <;> omega
  have HC := Lib.hid (show cmpHn x y = orR [ltrH x - ltrH y, cmpI (x 5) (y 5), cmpI (x 0) (y 0)] from rfl)
  have HB := Lib.hid (Bw.alloc (Bw.alloc (Bw.refl w) (.cells (hnV x) 23)) (.cells (hnV y) 23))
  have K2 := Lib.hid ((Blk.new w 23 (hnV x)).alloc (.cells (hnV y) 23))
  have K3 := Lib.hid (Blk.new (w.alloc (.cells (hnV x) 23)) 23 (hnV y))
  simp only [World.size_alloc] at K3
  have HSA : Hid ((Tryd.prog.info? 23).map (·.size) = some (hnV x).size) := Lib.hid (by kernel_rfl)
  have HSB : Hid ((Tryd.prog.info? 23).map (·.size) = some (hnV y).size) := Lib.hid (by kernel_rfl)
  have HA0 := Lib.hid (show (hnV x)[0]? = some (.int .i64 (x 0)) from rfl)
  have HA5 := Lib.hid (show (hnV x)[5]? = some (.int .i64 (x 5)) from rfl)
  have HB0 := Lib.hid (show (hnV y)[0]? = some (.int .i64 (y 0)) from rfl)
  have HB5 := Lib.hid (show (hnV y)[5]? = some (.int .i64 (y 5)) from rfl)
  generalize cmpHn x y = Z at *
  generalize ltrH x = lx at *
  generalize ltrH y = ly at *
  generalize cmpI (x 5) (y 5) = c5 at *
  generalize cmpI (x 0) (y 0) = c0 at *
  generalize x 0 = x0 at *
  generalize y 0 = y0 at *
  generalize x 5 = x5 at *
  generalize y 5 = y5 at *
  generalize hnV x = A at *
  generalize hnV y = B at *
  have OR := Lib.hid (fun v W h => or40_any [lx - ly, c5, c0] v W h)
  rw [← HC.out] at OR
  have hw1 : IntKind.i64.wrap (lx - ly) = lx - ly := by rw [IntKind.wrap_i64]; omega
  go_enter Tryd.func32, Tryd.ntmps32
  go_upto_region 1 with fail
  obtain ⟨g2, hg2⟩ : ∃ g2, w.heap.size = g2 := ⟨_, rfl⟩
  rw [hg2] at K2 K3
  (try rw [hg2])
  obtain ⟨g3, hg3⟩ : ∃ g3, g2 + 1 = g3 := ⟨_, rfl⟩
  rw [hg3] at K3
  (try rw [hg3])
  obtain ⟨W0, hW0⟩ : ∃ W0, (w.alloc (.cells A 23)).alloc (.cells B 23) = W0 := ⟨_, rfl⟩
  rw [hW0] at K2 K3 HB ⊢
  clear hW0 hg2 hg3
  have d0 := K2.out.cell HA0.out
  have d5 := K2.out.cell HA5.out
  have f0 := K3.out.cell HB0.out
  have f5 := K3.out.cell HB5.out
  refine wp_region_held_drew (S := Bw W0) (by kernel_rfl) (Bw.drew (Bw.refl _)) (fun hS => ?_)
  generalize World.drew _ = wd at hS ⊢
  refine take1 (i := 0) (some 5) rfl rfl (by kernel_rfl) (by kernel_rfl) (by kernel_rfl) (fun _ _ _ _ h => h) rfl hS ?_
  refine Exists.intro (.agg A) ?_
  apply And.intro
  · intro W9 hW9; skip; exact run_load_row 23 _ rfl g2 rfl 23 A _ (K2.out.bw hW9) Tryd.underlying23 rfl HSA.out
  simp only [Act.put, List.setIfInBounds_toArray, List.set_cons_zero, List.set_cons_succ]
  refine take1 (i := 2) (some 7) rfl rfl (by kernel_rfl) (by kernel_rfl) (by kernel_rfl) (fun _ _ _ _ h => h) rfl hS ?_
  refine Exists.intro (.agg B) ?_
  apply And.intro
  · intro W9 hW9; skip; exact run_load_row 23 _ rfl g3 rfl 23 B _ (K3.out.bw hW9) Tryd.underlying23 rfl HSB.out
  simp only [Act.put, List.setIfInBounds_toArray, List.set_cons_zero, List.set_cons_succ]
  refine take1 (i := 5) (some 10) rfl rfl (by kernel_rfl) (by kernel_rfl) (by kernel_rfl) (fun _ _ _ _ h => h) rfl hS ?_
  apply Exists.intro
  apply And.intro
  · intro W9 hW9; skip; go_simp; try with_reducible rfl
  simp only [Act.put, List.setIfInBounds_toArray, List.set_cons_zero, List.set_cons_succ]
  refine take1 (i := 6) (some 11) rfl rfl (by kernel_rfl) (by kernel_rfl) (by kernel_rfl) (fun _ _ _ _ h => h) rfl hS ?_
  refine Exists.intro (.int .i64 x5) ?_
  apply And.intro
  · intro W9 hW9; skip; (have c0 := hW9.cell' d5); go_simp; try with_reducible rfl
  simp only [Act.put, List.setIfInBounds_toArray, List.set_cons_zero, List.set_cons_succ]
  refine take1 (i := 7) (some 12) rfl rfl (by kernel_rfl) (by kernel_rfl) (by kernel_rfl) (fun _ _ _ _ h => h) rfl hS ?_
  apply Exists.intro
  apply And.intro
  · intro W9 hW9; skip; go_simp; try with_reducible rfl
  simp only [Act.put, List.setIfInBounds_toArray, List.set_cons_zero, List.set_cons_succ]
  refine take1 (i := 8) (some 13) rfl rfl (by kernel_rfl) (by kernel_rfl) (by kernel_rfl) (fun _ _ _ _ h => h) rfl hS ?_
  refine Exists.intro (.int .i64 y5) ?_
  apply And.intro
  · intro W9 hW9; skip; (have c0 := hW9.cell' f5); go_simp; try with_reducible rfl
  simp only [Act.put, List.setIfInBounds_toArray, List.set_cons_zero, List.set_cons_succ]
  refine take1 (i := 10) (some 15) rfl rfl (by kernel_rfl) (by kernel_rfl) (by kernel_rfl) (fun _ _ _ _ h => h) rfl hS ?_
  apply Exists.intro
  apply And.intro
  · intro W9 hW9; skip; go_simp; try with_reducible rfl
  simp only [Act.put, List.setIfInBounds_toArray, List.set_cons_zero, List.set_cons_succ]
  refine take1 (i := 11) (some 16) rfl rfl (by kernel_rfl) (by kernel_rfl) (by kernel_rfl) (fun _ _ _ _ h => h) rfl hS ?_
  refine Exists.intro (.int .i64 x0) ?_
  apply And.intro
  · intro W9 hW9; skip; (have c0 := hW9.cell' d0); go_simp; try with_reducible rfl
  simp only [Act.put, List.setIfInBounds_toArray, List.set_cons_zero, List.set_cons_succ]
  refine take1 (i := 12) (some 17) rfl rfl (by kernel_rfl) (by kernel_rfl) (by kernel_rfl) (fun _ _ _ _ h => h) rfl hS ?_
  apply Exists.intro
  apply And.intro
  · intro W9 hW9; skip; go_simp; try with_reducible rfl
  simp only [Act.put, List.setIfInBounds_toArray, List.set_cons_zero, List.set_cons_succ]
  refine take1 (i := 13) (some 18) rfl rfl (by kernel_rfl) (by kernel_rfl) (by kernel_rfl) (fun _ _ _ _ h => h) rfl hS ?_
  refine Exists.intro (.int .i64 y0) ?_
  apply And.intro
  · intro W9 hW9; skip; (have c0 := hW9.cell' f0); go_simp; try with_reducible rfl
  simp only [Act.put, List.setIfInBounds_toArray, List.set_cons_zero, List.set_cons_succ]
  refine wpAnyH_ready (rs := [1]) (by kernel_rfl) (by simp) ?_
  refine AllReadyH.cons rfl (fun K hK => ?_) ?_
  go_simp
  go_wp2_with (go_at_call 34; (with_reducible refine Calls.mono (LX.out _) ?_); rintro e1 wd ⟨rfl, hbw⟩)
  refine hK.out _ _ (hS.trans hbw) (fun hS => ?_)
  clear hK K
  clear hbw
  refine wpAnyH_ready (rs := [3]) (by kernel_rfl) (by simp) ?_
  refine AllReadyH.cons rfl (fun K hK => ?_) ?_
  go_simp
  go_wp2_with (go_at_call 34; (with_reducible refine Calls.mono (LY.out _) ?_); rintro e1 wd ⟨rfl, hbw⟩)
  refine hK.out _ _ (hS.trans hbw) (fun hS => ?_)
  clear hK K
  clear hbw
  refine take1 (i := 4) (some 9) rfl rfl (by kernel_rfl) (by kernel_rfl) (by kernel_rfl) (fun _ _ _ _ h => h) rfl hS ?_
  apply Exists.intro
  apply And.intro
  · intro W9 hW9; skip; go_simp; try with_reducible rfl
  simp only [Act.put, List.setIfInBounds_toArray, List.set_cons_zero, List.set_cons_succ]
  refine wpAnyH_ready (rs := [9]) (by kernel_rfl) (by simp) ?_
  refine AllReadyH.cons rfl (fun K hK => ?_) ?_
  go_simp
  go_wp2_with (go_at_call 35; (with_reducible refine Calls.mono (C5.out _) ?_); rintro e1 wd ⟨rfl, hbw⟩)
  refine hK.out _ _ (hS.trans hbw) (fun hS => ?_)
  clear hK K
  clear hbw
  refine wpAnyH_ready (rs := [14]) (by kernel_rfl) (by simp) ?_
  refine AllReadyH.cons rfl (fun K hK => ?_) ?_
  go_simp
  go_wp2_with (go_at_call 35; (with_reducible refine Calls.mono (C0.out _) ?_); rintro e1 wd ⟨rfl, hbw⟩)
  refine hK.out _ _ (hS.trans hbw) (fun hS => ?_)
  clear hK K
  clear hbw
  refine wpAnyH_ready (rs := [15]) (by kernel_rfl) (by simp) ?_
  refine AllReadyH.cons rfl (fun K hK => ?_) ?_
  go_simp
  have RL := Lib.hid (show RdI (World.alloc wd (.cells #[.int .i64 (lx - ly), .int .i64 c5, .int .i64 c0] 3)) (.slice (some ⟨wd.heap.size, 0, none⟩) 3 3) [lx - ly, c5, c0] from RdI.litN wd #[.int .i64 (lx - ly), .int .i64 c5, .int .i64 c0] 3 [lx - ly, c5, c0] wd.heap.size rfl rfl (by simp))
  have hba := Bw.alloc (Bw.refl wd) (.cells #[.int .i64 (lx - ly), .int .i64 c5, .int .i64 c0] 3)
  obtain ⟨gb, hgb⟩ : ∃ gb, wd.heap.size = gb := ⟨_, rfl⟩
  rw [hgb] at RL ⊢
  have hS9 := hS.trans hba
  clear hba hS hgb
  generalize World.alloc wd _ = wd at *
  refine hK.out _ _ hS9 (fun hS => ?_)
  clear hK K
  clear hS9
  refine wpAnyH_ready (rs := [16]) (by kernel_rfl) (by simp) ?_
  refine AllReadyH.cons rfl (fun K hK => ?_) ?_
  go_simp
  go_wp2_with (go_at_call 33; (with_reducible refine Calls.mono (OR.out _ _ RL.out) ?_); rintro e1 wd ⟨rfl, hbw⟩)
  refine hK.out _ _ (hS.trans hbw) (fun hS => ?_)
  clear hK K
  clear hbw
  refine take1 (i := 17) (some 4) rfl rfl (by kernel_rfl) (by kernel_rfl) (by kernel_rfl) (fun _ _ _ _ h => h) rfl hS ?_
  apply Exists.intro
  apply And.intro
  · intro W9 hW9; skip; go_simp; try with_reducible rfl
  simp only [Act.put, List.setIfInBounds_toArray, List.set_cons_zero, List.set_cons_succ]
  refine wpAnyH_done (by kernel_rfl) ?_ _
  rotate_left
  exact AllReadyH.nil
  exact AllReadyH.nil
  exact AllReadyH.nil
  exact AllReadyH.nil
  exact AllReadyH.nil
  exact AllReadyH.nil
  all_goals
    go_wp2
    go_ret
    exact ⟨rfl, HB.out.trans hS⟩
end Go.Proofs.Sky

namespace Go.Proofs.Sky
open Go Go.RowKit Go.Shelf
attribute [local go_sem] Oper.semAt_some
set_option maxHeartbeats 4000000
set_option maxRecDepth 8000
/-! chapter 40: a row of hints that is written in place -/
def MemH (w : World) (g : Nat) (hs : List (Nat → Int)) (rest : List Value) : Prop := Blk w g 23 (flatH hs ++ rest).toArray
def putLL : List Value → Nat → List Value → List Value
  | l, _, [] => l
  | l, o, v :: r => putLL (l.set o v) (o + 1) r
theorem putLL_eq : ∀ (vs : List Value) (o : Nat) (l : List Value), o + vs.length ≤ l.length → putLL l o vs = l.take o ++ vs ++ l.drop (o + vs.length)
  | [], o, l, _ => by simp [putLL]
  | v :: r, o, l, h => by
    have hl : o < l.length := by simp at h; omega
    have hm : min o l.length = o := by omega
    rw [putLL, putLL_eq r (o + 1) (l.set o v) (by simp at h ⊢; omega), List.set_eq_take_append_cons_drop, if_pos hl]
    have h1 : List.take (o + 1) (List.take o l ++ v :: List.drop (o + 1) l) = List.take o l ++ [v] := by
      rw [List.take_append, List.length_take, hm, List.take_of_length_le (by rw [List.length_take]; omega), show o + 1 - o = 1 by omega]; rfl
    have h2 : List.drop (o + 1 + r.length) (List.take o l ++ v :: List.drop (o + 1) l) = List.drop (o + (v :: r).length) l := by
      rw [List.drop_append, List.length_take, hm, List.drop_eq_nil_of_le (by rw [List.length_take]; omega), List.nil_append, show o + 1 + r.length - o = r.length + 1 by omega, List.drop_succ_cons, List.drop_drop]
      congr 1
      simp; omega
    rw [h1, h2]
    simp
theorem blk_sets {g : Nat} {T : TypeId} : ∀ (vs : List Value) (o : Nat) (w : World) (l : List Value), Blk w g T l.toArray → Blk (w.setCells g o vs) g T (putLL l o vs).toArray
  | [], _, _, _, h => h
  | v :: r, o, w, l, h => by
    rw [World.setCells]
    refine blk_sets r (o + 1) _ (l.set o v) ?_
    have h9 := Blk.set h o v
    rwa [List.setIfInBounds_toArray] at h9
theorem flatH_set (hs : List (Nat → Int)) (k : Nat) (x : Nat → Int) (hk : k < hs.length) : flatH (hs.set k x) = (flatH hs).take (k * 6) ++ hnc x ++ (flatH hs).drop (k * 6 + 6) := by
  rw [List.set_eq_take_append_cons_drop, if_pos hk, flatH_append, flatH_cons, flatH_take, flatH_drop, show (k + 1) * 6 = k * 6 + 6 by omega, List.append_assoc]
theorem MemH.set {w : World} {g : Nat} {hs : List (Nat → Int)} {rest : List Value} (h : MemH w g hs rest) {k : Nat} (hk : k < hs.length) (x : Nat → Int) : MemH (w.setCells g (k * 6) (hnc x)) g (hs.set k x) rest := by
  have h9 := blk_sets (hnc x) (k * 6) w _ h
  rw [putLL_eq _ _ _ (by rw [List.length_append, flatH_len, hnc_len]; omega)] at h9
  unfold MemH
  rw [flatH_set hs k x hk, List.append_assoc, List.append_assoc]
  rw [hnc_len, List.take_append_of_le_length (by rw [flatH_len]; omega), List.drop_append_of_le_length (by rw [flatH_len]; omega), List.append_assoc] at h9
  exact h9
theorem MemH.rg {w : World} {g : Nat} {hs : List (Nat → Int)} {rest : List Value} (h : MemH w g hs rest) {k : Nat} {x : Nat → Int} (hx : hs[k]? = some x) : w.rangeAt g (k * 6) (hnc x) := fun j u hu => by
  have hj : j < 6 := (List.getElem?_eq_some_iff.1 hu).1
  have hk : k < hs.length := (List.getElem?_eq_some_iff.1 hx).1
  refine Blk.cell h ?_
  rw [List.getElem?_toArray, List.getElem?_append_left (by rw [flatH_len]; omega), flatH_at hs k x hx j hj, hu]
theorem MemH.there {w : World} {g : Nat} {hs : List (Nat → Int)} {rest : List Value} (h : MemH w g hs rest) {k : Nat} (hk : k < hs.length) : w.there g (k * 6) 6 := blk_there h (by simp [flatH_len]; omega)
theorem MemH.bw {w w' : World} {g : Nat} {hs : List (Nat → Int)} {rest : List Value} (h : MemH w g hs rest) (hb : Bw w w') : MemH w' g hs rest := Blk.bw h hb
theorem MemH.lt {w : World} {g : Nat} {hs : List (Nat → Int)} {rest : List Value} (h : MemH w g hs rest) : g < w.heap.size := Blk.lt h
theorem MemH.at {w : World} {g : Nat} {hs : List (Nat → Int)} {rest : List Value} (h : MemH w g hs rest) {k : Nat} (hk : k < hs.length) : w.rangeAt g (k * 6) (hnc (hs.getD k fun _ => 0)) := h.rg (by rw [List.getD_eq_getElem?_getD, List.getElem?_eq_getElem hk]; rfl)
theorem Kx.sets {g : Nat} : ∀ (vs : List Value) (o : Nat) (w : World), g < w.heap.size → Kx g w (w.setCells g o vs)
  | [], _, w, h => Kx.of_bw (Bw.refl _) (Nat.le_of_lt h)
  | v :: r, o, w, h => by
    rw [World.setCells]
    exact (Kx.set h v).trans (Kx.sets r (o + 1) _ (by simpa using h))
theorem MemH.rdH {w : World} {g c : Nat} {hs : List (Nat → Int)} {rest : List Value} (h : MemH w g hs rest) (hl : hs.length ≤ 9223372036854775807) : RdH w (.slice (some ⟨g, 0, none⟩) hs.length c) hs :=
  ⟨hl, _, _, rfl, .inr ⟨g, 0, rfl, h.lt, fun i x hi => by rw [Nat.zero_add]; exact h.rg hi⟩⟩
theorem dropB_any (x : Nat → Int) (w : World) : Calls Tryd.prog 30 #[.agg (hnV x)] w fun e w' => e = .returned (.bool (decide (x 1 = -1))) ∧ Bw w w' := by
  have K := Lib.hid (Blk.new w 23 (hnV x))
  have HW := Lib.hid (Bw.alloc (Bw.refl w) (.cells (hnV x) 23))
  have d1 := K.out.cell (show (hnV x)[1]? = some (.int .i64 (x 1)) from rfl)
  have HE := Lib.hid (show (x 1 == -1) = decide (x 1 = -1) from rfl)
  generalize hnV x = A at *
  generalize x 1 = y at *
  generalize decide (y = -1) = b at *
  have hb := HE.out
  go_enter Tryd.func30, Tryd.ntmps30
  go_wp2
  go_ret
  exact ⟨rfl, HW.out⟩
def ixH (f : (Nat → Int) → Bool) (hs : List (Nat → Int)) : Int := match hs.findIdx? f with | some k => k | none => -1
theorem ixH_at (f : (Nat → Int) → Bool) (hs : List (Nat → Int)) (k : Nat) (hk : k < hs.length) (h : f (hs.getD k fun _ => 0) = true) (hA : ∀ j, j < k → f (hs.getD j fun _ => 0) = false) : ixH f hs = k := by
  have : hs.findIdx? f = some k := List.findIdx?_eq_some_iff_getElem.2 ⟨hk, by simpa [List.getD_eq_getElem?_getD, List.getElem?_eq_getElem hk] using h, fun j hj => by
    have := hA j hj
    simpa [List.getD_eq_getElem?_getD, List.getElem?_eq_getElem (show j < hs.length by omega)] using this⟩
  unfold ixH; rw [this]
theorem ixH_none (f : (Nat → Int) → Bool) (hs : List (Nat → Int)) (hA : ∀ j, j < hs.length → f (hs.getD j fun _ => 0) = false) : ixH f hs = -1 := by
  have : hs.findIdx? f = none := List.findIdx?_eq_none_iff.2 fun x hx => by
    obtain ⟨j, hj, rfl⟩ := List.mem_iff_getElem.1 hx
    have := hA j hj
    simpa [List.getD_eq_getElem?_getD, List.getElem?_eq_getElem hj] using this
  unfold ixH; rw [this]
theorem indexFuncH_any (f : (Nat → Int) → Bool) (fn : Nat) (eg : ∀ args w, (callFunc fn args).run Tryd.prog w = .ok (.enter fn args) w)
   (hs : List (Nat → Int)) (v : Value) (w : World)
   (hp : ∀ x W, Calls Tryd.prog fn #[.agg (hnV x)] W fun e w' => e = .returned (.bool (f x)) ∧ Bw W w')
   (hv : RdH w v hs) :
   Calls Tryd.prog 49 #[v, .func (.func fn) #[] #[]] w fun e w' => e = .returned (.int .i64 (ixH f hs)) ∧ Bw w w' := by
  obtain ⟨h2, a, cap, rfl, h4⟩ := hv
  obtain ⟨n, hn⟩ : ∃ n, n = hs.length := ⟨_, rfl⟩
  rw [← hn] at h2 ⊢
  have HN := Lib.hid hn; clear hn
  have H4 := Lib.hid h4; clear h4
  have HP := Lib.hid hp; clear hp
  have HAT := Lib.hid (fun k hk h hA => ixH_at f hs k hk h hA)
  have HNO := Lib.hid (fun hA => ixH_none f hs hA)
  generalize ixH f hs = R at *
  go_enter Tryd.func49, Tryd.ntmps49
  go_wp2
  go_loopg [5, 8] n (fun gg _ s8 wr => ∃ kk : Nat, kk ≤ n ∧ n - kk ≤ gg ∧ s8 = .int .i64 kk ∧ Hid (Bw w wr) ∧ Hid (∀ j, j < kk → f (hs.getD j fun _ => 0) = false))
  case atStart => exact ⟨0, Nat.zero_le _, by omega, rfl, Bw.refl _, fun j hj => absurd hj (Nat.not_lt_zero _)⟩
  case round =>
    obtain ⟨kk, hkk, hg, rfl, hbw, A⟩ := hrel
    by_cases hlt : kk < n
    · have hltz : (kk : Int) < (n : Int) := by omega
      have hq := HN.out
      obtain ⟨b, off, rfl, hb, hc⟩ := H4.out.resolve_left (by intro h; rw [h] at hq; simp at hq; omega)
      have R9 := Lib.hid (show wr.rangeAt b (off + kk * 6) (hnc (hs.getD kk fun _ => 0)) from fun j u hu => hbw.out.cell' (hc kk _ (by rw [List.getD_eq_getElem?_getD, List.getElem?_eq_getElem (by omega)]; rfl) j u hu))
      have HAK := Lib.hid (fun h => HAT.out kk (by omega) h A.out)
      have HAN := Lib.hid (fun h => (fun j (hj : j < kk + 1) => (by
          rcases Nat.lt_succ_iff_lt_or_eq.1 hj with h' | rfl
          · exact A.out j h'
          · exact h) : ∀ j, j < kk + 1 → f (hs.getD j fun _ => 0) = false))
      generalize (hs.getD kk fun _ => 0) = x at R9 HAK HAN
      have hcall := HP.out x
      clear hc H4 hq
      generalize hpx : f x = bx at hcall HAK HAN
      have HC := Lib.hid hcall; clear hcall hpx
      cases bx with
      | true =>
        have HG := Lib.hid (HAK.out rfl)
        go_wp2_with (first | ((with_reducible refine at_load 23 (.tmp 14) ?_); refine wpList_load_hn rfl (.tmp 14) rfl b (off + kk * 6) (by simp [Act.eval, Act.put]) R9.out ?_) | (go_at_fn fn; refine (HC.out _).mono ?_; rintro e w' ⟨rfl, hb2⟩))
        go_ret
        exact ⟨ret_int HG.out.symm, hbw.out.trans hb2⟩
      | false =>
        have HG := Lib.hid (HAN.out rfl)
        go_wp2_with (first | ((with_reducible refine at_load 23 (.tmp 14) ?_); refine wpList_load_hn rfl (.tmp 14) rfl b (off + kk * 6) (by simp [Act.eval, Act.put]) R9.out ?_) | (go_at_fn fn; refine (HC.out _).mono ?_; rintro e w' ⟨rfl, hb2⟩))
        go_roundg (n - (kk + 1))
        case measure => omega
        case rel => exact ⟨kk + 1, by omega, by omega, by go_num, Lib.hid (hbw.out.trans hb2), Lib.hid HG.out⟩
    · have hltz : ¬ (kk : Int) < (n : Int) := by omega
      have hkn : kk = n := by omega
      have HG := Lib.hid (HNO.out (fun j hj => A.out j (by have := HN.out; omega)))
      subst hkn
      go_wp2
      go_ret
      exact ⟨ret_int HG.out.symm, hbw.out⟩
end Go.Proofs.Sky

namespace Go.Proofs.Sky
open Go Go.RowKit Go.Shelf
attribute [local go_sem] Oper.semAt_some
set_option maxHeartbeats 4000000
set_option maxRecDepth 8000
/-! chapter 40: DeleteFunc on a row of hints -/
def z6H : Array Value := #[.int .i64 0, .int .i64 0, .int .i64 0, .int .i64 0, .int .i64 0, .int .i64 0]
theorem z6H_at (k : Nat) (h : k < 6) : z6H[k]! = .int .i64 0 := by
  have : k = 0 ∨ k = 1 ∨ k = 2 ∨ k = 3 ∨ k = 4 ∨ k = 5 := by omega
  rcases this with rfl | rfl | rfl | rfl | rfl | rfl <;> rfl
theorem zero6H (n : Nat) : (Builtin.zeroCells z6H n).toList = List.replicate (n * 6) (.int .i64 0) := by
  unfold Builtin.zeroCells
  apply List.ext_getElem
  · simp [z6H]
  · intro i h1 h2
    simp only [Array.toList_map, List.getElem_map, List.getElem_replicate]
    rw [Array.getElem_toList, Array.getElem_range]
    exact z6H_at _ (Nat.mod_lt _ (by decide))
theorem zeroV_hn (w : World) : (zeroValue 23).run Tryd.prog w = .ok (.agg z6H) w := by
  obtain ⟨i, hi, hz⟩ := Option.map_eq_some_iff.1 infoHn
  simp only [Prod.mk.injEq] at hz
  unfold zeroValue
  simp [run_typeInfo w hi, hz.1, z6H]
theorem run_clear_hn {w : World} {g c i : Nat} {hs : List (Nat → Int)} {rest : List Value} (h : MemH w g hs rest) (hi : i < hs.length) (ty : TypeId) :
   (Builtin.clear_ #[36] ty #[.slice (some ⟨g, i * 6, none⟩) (hs.length - i) c]).run Tryd.prog w = .ok (.tuple #[]) (w.setCells g (i * 6) (List.replicate ((hs.length - i) * 6) (.int .i64 0))) := by
  have ht := blk_there (o := i * 6) (n := (hs.length - i) * 6) h (by simp [flatH_len]; omega)
  have hst := run_storeCells_cells (P := Tryd.prog) g (i * 6) (List.replicate ((hs.length - i) * 6) (.int .i64 0)) 0 w (by simpa using fun j hj => (ht j hj).1) (by simpa using fun j hj => (ht j hj).2) (by intro v hv'; rw [List.eq_of_mem_replicate hv']; rfl)
  simp only [Nat.add_zero] at hst
  obtain ⟨m, hm⟩ : ∃ m, hs.length - i = m + 1 := ⟨hs.length - i - 1, by omega⟩
  rw [hm] at hst ⊢
  have hzc : (Builtin.zeroCells #[.int .i64 0, .int .i64 0, .int .i64 0, .int .i64 0, .int .i64 0, .int .i64 0] (m + 1)).toList = _ := zero6H (m + 1)
  simp [Builtin.clear_, run_underlying Tryd.underlying36, zeroV_hn, Value.cells, hzc, hst]
theorem MemH.clear {w : World} {g i : Nat} {hs : List (Nat → Int)} {rest : List Value} (h : MemH w g hs rest) (hi : i ≤ hs.length) : ∃ rest', MemH (w.setCells g (i * 6) (List.replicate ((hs.length - i) * 6) (.int .i64 0))) g (hs.take i) rest' := by
  have h9 := blk_sets (List.replicate ((hs.length - i) * 6) (.int .i64 0)) (i * 6) w _ h
  rw [putLL_eq _ _ _ (by rw [List.length_append, flatH_len, List.length_replicate]; omega)] at h9
  rw [List.take_append_of_le_length (by rw [flatH_len]; omega), ← flatH_take, List.append_assoc] at h9
  exact ⟨_, h9⟩
theorem nth_set (l : List (Nat → Int)) (i j : Nat) (x : Nat → Int) : (l.set i x).drop j = if i < j then l.drop j else (l.drop j).set (i - j) x := by
  rw [List.drop_set]
/-- what one step of DeleteFunc keeps -/
theorem del_step {f : (Nat → Int) → Bool} {hs cur : List (Nat → Int)} {i j : Nat} {x : Nat → Int} (hx : hs[j]? = some x) (hl : cur.length = hs.length) (hi : i < j) (ht : cur.take i = (hs.take j).filter f) (hd : cur.drop j = hs.drop j) (hf : f x = true) :
   (cur.set i x).length = hs.length ∧ (cur.set i x).take (i + 1) = (hs.take (j + 1)).filter f ∧ (cur.set i x).drop (j + 1) = hs.drop (j + 1) := by
  have hj : j < hs.length := (List.getElem?_eq_some_iff.1 hx).1
  have hxe : hs[j] = x := (List.getElem?_eq_some_iff.1 hx).2
  refine ⟨by simpa using hl, ?_, ?_⟩
  · have h1 : (cur.set i x).take (i + 1) = cur.take i ++ [x] := by
      rw [List.set_eq_take_append_cons_drop, if_pos (by omega), List.take_append, List.length_take, show min i cur.length = i by omega, List.take_of_length_le (by rw [List.length_take]; omega), show i + 1 - i = 1 by omega]; rfl
    rw [h1, ht, List.take_add_one, hx, List.filter_append]
    simp [hf]
  · rw [List.drop_set, if_pos (by omega)]
    have h2 := congrArg (List.drop 1) hd
    rwa [List.drop_drop, List.drop_drop] at h2
theorem del_skip {f : (Nat → Int) → Bool} {hs cur : List (Nat → Int)} {i j : Nat} {x : Nat → Int} (hx : hs[j]? = some x) (ht : cur.take i = (hs.take j).filter f) (hd : cur.drop j = hs.drop j) (hf : f x = false) :
   cur.take i = (hs.take (j + 1)).filter f ∧ cur.drop (j + 1) = hs.drop (j + 1) := by
  refine ⟨?_, ?_⟩
  · rw [ht, List.take_add_one, hx, List.filter_append]
    simp [hf]
  · have h2 := congrArg (List.drop 1) hd
    rwa [List.drop_drop, List.drop_drop] at h2
theorem del_at {hs cur : List (Nat → Int)} {j : Nat} (hj : j < hs.length) (hl : cur.length = hs.length) (hd : cur.drop j = hs.drop j) : cur[j]? = hs[j]? := by
  have h2 := congrArg (fun l => l[0]?) hd
  simpa using h2
end Go.Proofs.Sky

namespace Go.Proofs.Sky
open Go Go.RowKit Go.Shelf
attribute [local go_sem] Oper.semAt_some
set_option maxHeartbeats 4000000
set_option maxRecDepth 8000
/-! chapter 40: DeleteFunc, the walk -/
theorem ixH_cases (f : (Nat → Int) → Bool) (hs : List (Nat → Int)) : (ixH f hs = -1 ∧ hs.filter (fun x => !f x) = hs) ∨ ∃ i : Nat, i < hs.length ∧ ixH f hs = i ∧ hs.take i = (hs.take (i + 1)).filter (fun x => !f x) := by
  unfold ixH
  cases h : hs.findIdx? f with
  | none =>
    left
    have h2 := List.findIdx?_eq_none_iff.1 h
    exact ⟨rfl, List.filter_eq_self.2 fun x hx => by rw [h2 x hx]; rfl⟩
  | some i =>
    right
    obtain ⟨hi, ht, hb⟩ := List.findIdx?_eq_some_iff_getElem.1 h
    refine ⟨i, hi, rfl, ?_⟩
    have h3 : (hs.take i).filter (fun x => !f x) = hs.take i := List.filter_eq_self.2 fun x hx => by
      obtain ⟨j, hj, rfl⟩ := List.mem_iff_getElem.1 hx
      rw [List.length_take] at hj
      have h4 := hb j (by omega)
      rw [List.getElem_take]
      simpa using h4
    rw [List.take_add_one, List.getElem?_eq_getElem hi, List.filter_append, h3]
    simp [ht]
theorem deleteFuncH_any (f : (Nat → Int) → Bool) (fn : Nat) (eg : ∀ args w, (callFunc fn args).run Tryd.prog w = .ok (.enter fn args) w)
   (hs : List (Nat → Int)) (rest : List Value) (g c : Nat) (w : World)
   (hp : ∀ x W, Calls Tryd.prog fn #[.agg (hnV x)] W fun e w' => e = .returned (.bool (f x)) ∧ Bw W w')
   (hm : MemH w g hs rest) (hl : hs.length ≤ 1000000) (hlc : hs.length ≤ c) (h0 : 0 < hs.length) :
   Calls Tryd.prog 28 #[.slice (some ⟨g, 0, none⟩) hs.length c, .func (.func fn) #[] #[]] w fun e w' => e = .returned (.slice (some ⟨g, 0, none⟩) (hs.filter fun x => !f x).length c) ∧ (∃ rest', MemH w' g (hs.filter fun x => !f x) rest') ∧ Kx g w w' := by
  have IX := Lib.hid (fun W hv => indexFuncH_any f fn eg hs (.slice (some ⟨g, 0, none⟩) hs.length c) W hp hv)
  have HRD := Lib.hid (MemH.rdH (c := c) hm (by omega))
  have HM := Lib.hid hm
  have HP := Lib.hid hp
  have hgl := hm.lt
  clear hm hp
  rcases ixH_cases f hs with ⟨h1, h2⟩ | ⟨i0, hi0, h1, h2⟩
  · rw [h1] at IX
    rw [h2]
    clear h1 h2
    generalize hs.length = n at *
    go_enter Tryd.func28, Tryd.ntmps28
    go_wp2_with (go_at_call 49; refine (IX.out _ HRD.out).mono ?_; rintro e1 w1 ⟨rfl, hb1⟩)
    go_ret
    exact ⟨rfl, ⟨_, HM.out.bw hb1⟩, Kx.of_bw hb1 (Nat.le_of_lt hgl)⟩
  rw [h1] at IX
  have H2 := Lib.hid h2
  have HDS := Lib.hid (fun (cur : List (Nat → Int)) (i j : Nat) x (h1 : hs[j]? = some x) h2 h3 h4 h5 h6 => del_step (f := fun x => !f x) (hs := hs) (cur := cur) (i := i) (j := j) h1 h2 h3 h4 h5 h6)
  have HDK := Lib.hid (fun (cur : List (Nat → Int)) (i j : Nat) x (h1 : hs[j]? = some x) h2 h3 h4 => del_skip (f := fun x => !f x) (hs := hs) (cur := cur) (i := i) (j := j) h1 h2 h3 h4)
  have HDA := Lib.hid (fun (cur : List (Nat → Int)) (j : Nat) h1 h2 h3 => del_at (hs := hs) (cur := cur) (j := j) h1 h2 h3)
  have HTK := Lib.hid (show (hs.take hs.length).filter (fun x => !f x) = hs.filter (fun x => !f x) by rw [List.take_length])
  clear h1 h2
  have HI0 := Lib.hid hi0
  obtain ⟨n, hn⟩ : ∃ n, hs.length = n := ⟨_, rfl⟩
  have HN := Lib.hid hn
  rw [hn] at hl hlc h0 IX HRD HTK ⊢
  rw [hn] at hi0
  clear hn
  obtain ⟨keep, hkeep⟩ : ∃ keep, (fun x => !f x) = keep := ⟨_, rfl⟩
  rw [hkeep] at H2 HDS HDK HTK ⊢
  have HKP := Lib.hid hkeep
  clear hkeep
  obtain ⟨L, hL⟩ : ∃ L, hs.filter keep = L := ⟨_, rfl⟩
  rw [hL] at HTK ⊢
  clear hL
  have hw1 : IntKind.i64.wrap ((i0 : Int) + 1) = (i0 : Int) + 1 := by rw [IntKind.wrap_i64]; omega
  have hq0 : ¬ ((i0 : Int) = -1) := by omega
  have hq0b : ((i0 : Int) == -1) = false := by simpa using hq0
  go_enter Tryd.func28, Tryd.ntmps28
  go_wp2_with (go_at_call 49; refine (IX.out _ HRD.out).mono ?_; rintro e1 w1 ⟨rfl, hb1⟩)
  go_loopg [5, 6] n (fun gg s5 s6 wr => ∃ i j cur, i < j ∧ j ≤ n ∧ n - j ≤ gg ∧ s5 = .int .i64 ((i : Nat) : Int) ∧ s6 = .int .i64 ((j : Nat) : Int) ∧ Hid (MemH wr g cur rest) ∧ Hid (Kx g w wr) ∧ Hid (cur.length = hs.length ∧ cur.take i = (hs.take j).filter keep ∧ cur.drop j = hs.drop j))
  case atStart => exact ⟨i0, i0 + 1, hs, by omega, by omega, by omega, rfl, by go_num, Lib.hid (HM.out.bw hb1), Lib.hid (Kx.of_bw hb1 (Nat.le_of_lt hgl)), Lib.hid ⟨rfl, H2.out, rfl⟩⟩
  case round =>
    obtain ⟨i, k, cur, hik, hkn, hgg, rfl, rfl, HMr, HK, HF⟩ := hrel
    obtain ⟨wb, rfl⟩ : ∃ wb, wb = wr := ⟨_, rfl⟩
    by_cases hlt : k < n
    · have hltz : (k : Int) < (n : Int) := by omega
      have hkh : k < hs.length := by have := HN.out; omega
      obtain ⟨x, hx⟩ : ∃ x, hs[k]? = some x := ⟨_, List.getElem?_eq_getElem hkh⟩
      have R9 := Lib.hid (HMr.out.rg ((HDA.out cur k hkh HF.out.1 HF.out.2.2).trans hx))
      have HSTEP := Lib.hid (fun h => HDS.out cur i k x hx HF.out.1 hik HF.out.2.1 HF.out.2.2 h)
      have HSKIP := Lib.hid (fun h => HDK.out cur i k x hx HF.out.2.1 HF.out.2.2 h)
      have HTH := Lib.hid (fun W (h : MemH W g cur rest) => h.there (k := i) (by have := HF.out.1; omega))
      have HST := Lib.hid (fun W (h : MemH W g cur rest) => h.set (k := i) (by have := HF.out.1; omega) x)
      have HC := Lib.hid (HP.out x)
      clear hx hkh
      obtain ⟨bx, hfx⟩ : ∃ b, f x = b := ⟨_, rfl⟩
      have HFX := Lib.hid (show (!f x) = !bx by rw [hfx])
      rw [hfx] at HC
      clear hfx
      have K1 := Lib.hid (Blk.new wb 23 #[.int .i64 0, .int .i64 0, .int .i64 0, .int .i64 0, .int .i64 0, .int .i64 0])
      have HW1 := Lib.hid (Bw.alloc (Bw.refl wb) (.cells #[.int .i64 0, .int .i64 0, .int .i64 0, .int .i64 0, .int .i64 0, .int .i64 0] 23))
      have HPX := Lib.hid (show (hnV x).all (·.oneCell') = true by simp [Value.oneCell', hnV])
      have HSX := Lib.hid (show (Tryd.prog.info? 23).map (·.size) = some (hnV x).size by kernel_rfl)
      go_upto_region 8 with (first | ((with_reducible refine at_load 23 (.tmp 24) ?_); refine wpList_load_hn rfl (.tmp 24) rfl g (k * 6) (by simp [Act.eval, Act.put]) R9.out ?_) | ((with_reducible refine at_store 23 (.tmp 7) (.tmp 25) ?_); refine wpList_store_row rfl 23 (.tmp 7) (.tmp 25) rfl wb.heap.size (hnV x) rfl rfl 23 _ K1.out (by kernel_rfl) rfl HPX.out ?_))
      obtain ⟨g1, hg1⟩ : ∃ g1, wb.heap.size = g1 := ⟨_, rfl⟩
      have hbq := Bw.setRow HW1.out (Nat.le_of_eq hg1) (hnV x)
      have K2 := Lib.hid (K1.out.row (hnV x))
      rw [hg1] at K2 ⊢
      have HGL := Lib.hid HMr.out.lt
      have HM := Lib.hid (HMr.out.bw hbq)
      replace HK := Lib.hid (HK.out.trans (Kx.of_bw hbq (Nat.le_of_lt HGL.out)))
      clear HMr HW1 K1 R9
      have hsz := hbq.size
      generalize World.setRow (World.alloc wb _) _ _ = wc at *
      obtain ⟨A, hA⟩ : ∃ A, hnV x = A := ⟨_, rfl⟩
      have HAE := Lib.hid hA
      rw [hA] at K2 HSX HPX HC ⊢
      clear hA hbq hg1
      replace HGL := Lib.hid HM.out.lt
      clear hsz
      have hwk : IntKind.i64.wrap ((k : Int) + 1) = (k : Int) + 1 := by rw [IntKind.wrap_i64]; omega
      cases bx with
      | true =>
        have HG := Lib.hid (HSKIP.out HFX.out)
        go_wp2_with (first | ((with_reducible refine at_load 23 (.tmp 7) ?_); refine wpList_load_row rfl 23 (.tmp 7) rfl g1 rfl 23 A (0, 0) _ K2.out Tryd.underlying23 rfl HSX.out ?_) | (go_at_fn fn; refine (HC.out _).mono ?_; rintro e1 w1 ⟨rfl, hb2⟩; replace K2 := Lib.hid (K2.out.bw hb2); replace HM := Lib.hid (HM.out.bw hb2); replace HK := Lib.hid (HK.out.trans (Kx.of_bw hb2 (Nat.le_of_lt HGL.out))); clear hb2))
        go_roundg (n - (k + 1))
        case measure => omega
        case rel => exact ⟨i, k + 1, cur, by omega, by omega, by omega, rfl, by go_num, HM, HK, Lib.hid ⟨HF.out.1, HG.out⟩⟩
      | false =>
        have HG := Lib.hid (HSTEP.out HFX.out)
        have hwi : IntKind.i64.wrap ((i : Int) + 1) = (i : Int) + 1 := by rw [IntKind.wrap_i64]; omega
        have hin : (i : Int) < (n : Int) := by omega
        go_upto_region 9 with (first | ((with_reducible refine at_load 23 (.tmp 7) ?_); refine wpList_load_row rfl 23 (.tmp 7) rfl g1 rfl 23 A (0, 0) _ K2.out Tryd.underlying23 rfl HSX.out ?_) | (go_at_fn fn; refine (HC.out _).mono ?_; rintro e1 w1 ⟨rfl, hb2⟩; replace K2 := Lib.hid (K2.out.bw hb2); replace HM := Lib.hid (HM.out.bw hb2); replace HK := Lib.hid (HK.out.trans (Kx.of_bw hb2 (Nat.le_of_lt HGL.out))); clear hb2))
        replace HTH := Lib.hid (HTH.out _ HM.out)
        have HS9 := Lib.hid (HST.out _ HM.out)
        have HKS := Lib.hid (HK.out.trans (Kx.sets (hnc x) (i * 6) _ HM.out.lt))
        rw [show hnc x = A.toList by rw [← HAE.out]; rfl] at HS9 HKS
        go_wp2_with (first | ((with_reducible refine at_load 23 (.tmp 7) ?_); refine wpList_load_row rfl 23 (.tmp 7) rfl g1 rfl 23 A (0, 0) _ K2.out Tryd.underlying23 rfl HSX.out ?_) | ((with_reducible refine at_store 23 (.tmp 33) (.tmp 32) ?_); refine wpList_store_mid rfl 23 (.tmp 33) (.tmp 32) rfl g (i * 6) A (by simp [Act.eval, Act.put]) rfl (by rw [← HAE.out]; exact HTH.out) HSX.out HPX.out ?_))
        go_roundg (n - (k + 1))
        case measure => omega
        case rel => exact ⟨i + 1, k + 1, cur.set i x, by omega, by omega, by omega, by go_num, by go_num, HS9, HKS, HG⟩
    · have hltz : ¬ (k : Int) < (n : Int) := by omega
      obtain rfl : k = n := by omega
      obtain ⟨hf1, hf2, hf3⟩ := HF.out
      rw [HTK.out] at hf2
      have hli : L.length = i := by rw [← hf2, List.length_take]; have := HN.out; omega
      have hcl : (MemH wb g cur rest → ∃ rest', MemH (wb.setCells g (i * 6) (List.replicate ((cur.length - i) * 6) (.int .i64 0))) g (cur.take i) rest') := fun h => h.clear (by have := HN.out; omega)
      have HCL := Lib.hid (hcl HMr.out)
      have hrc := run_clear_hn (c := c - i) (i := i) HMr.out (by have := HN.out; omega) 0
      rw [hf2, hf1, HN.out] at HCL
      rw [hf1, HN.out] at hrc
      have HKS := Lib.hid (HK.out.trans (Kx.sets (List.replicate ((k - i) * 6) (.int .i64 0)) (i * 6) _ HMr.out.lt))
      clear hcl hf1 hf2 hf3 HF
      have hik2 : (i : Int) ≤ (k : Int) := by omega
      have hic : (i : Int) ≤ (c : Int) := by omega
      have hine : ¬ c = i := by omega
      have hc0 : ¬ c = 0 := by omega
      go_wp2
      go_ret
      exact ⟨rfl, HCL.out, HKS.out⟩
end Go.Proofs.Sky

namespace Go.Proofs.Sky
open Go Go.RowKit Go.Shelf
/-! chapter 40: sorting hints, in plain Lean -/
def at0 (l : List (Nat → Int)) (i : Nat) : Nat → Int := l.getD i fun _ => 0
theorem at0_some {l : List (Nat → Int)} {i : Nat} (h : i < l.length) : l[i]? = some (at0 l i) := by
  unfold at0; rw [List.getD_eq_getElem?_getD, List.getElem?_eq_getElem h]; rfl
theorem at0_get {l : List (Nat → Int)} {i : Nat} (h : i < l.length) : l[i] = at0 l i := by
  have := at0_some h; rw [List.getElem?_eq_getElem h] at this; exact Option.some.inj this
theorem at0_set {l : List (Nat → Int)} {i : Nat} (h : i < l.length) (x : Nat → Int) (j : Nat) : at0 (l.set i x) j = if j = i then x else at0 l j := by
  unfold at0
  rw [List.getD_eq_getElem?_getD, List.getD_eq_getElem?_getD, List.getElem?_set]
  by_cases e : i = j
  · subst e; rw [if_pos rfl, if_pos h, if_pos rfl]; rfl
  · rw [if_neg e, if_neg (Ne.symm e)]
def swH (l : List (Nat → Int)) (i j : Nat) : List (Nat → Int) := (l.set i (at0 l j)).set j (at0 l i)
theorem swH_len (l : List (Nat → Int)) (i j : Nat) : (swH l i j).length = l.length := by simp [swH]
theorem at0_sw {l : List (Nat → Int)} {i j : Nat} (hi : i < l.length) (hj : j < l.length) (k : Nat) : at0 (swH l i j) k = if k = j then at0 l i else if k = i then at0 l j else at0 l k := by
  unfold swH
  rw [at0_set (by simpa using hj), at0_set hi]
theorem swH_perm {l : List (Nat → Int)} {i j : Nat} (hi : i < l.length) (hj : j < l.length) : (swH l i j).Perm l := by
  have := List.set_set_perm hi hj
  rw [at0_get hi, at0_get hj] at this
  exact this
/-- l' is l with the places from a up to b in another order -/
structure PI (a b : Nat) (l l' : List (Nat → Int)) : Prop where
  perm : l'.Perm l
  out : ∀ i, i < a ∨ b ≤ i → at0 l' i = at0 l i
  ins : ∀ i, a ≤ i → i < b → ∃ j, a ≤ j ∧ j < b ∧ at0 l' i = at0 l j
theorem PI.len {a b : Nat} {l l' : List (Nat → Int)} (h : PI a b l l') : l'.length = l.length := h.perm.length_eq
theorem PI.refl (a b : Nat) (l : List (Nat → Int)) : PI a b l l := ⟨.refl _, fun _ _ => rfl, fun i h1 h2 => ⟨i, h1, h2, rfl⟩⟩
theorem PI.trans {a b : Nat} {l m r : List (Nat → Int)} (h : PI a b l m) (k : PI a b m r) : PI a b l r :=
  ⟨k.perm.trans h.perm, fun i hi => (k.out i hi).trans (h.out i hi), fun i h1 h2 => by
    obtain ⟨j, hj1, hj2, hj⟩ := k.ins i h1 h2
    obtain ⟨m, hm1, hm2, hm⟩ := h.ins j hj1 hj2
    exact ⟨m, hm1, hm2, hj.trans hm⟩⟩
theorem PI.mono {a b a' b' : Nat} {l r : List (Nat → Int)} (h : PI a b l r) (ha : a' ≤ a) (hb : b ≤ b') : PI a' b' l r :=
  ⟨h.perm, fun i hi => h.out i (by omega), fun i h1 h2 => by
    by_cases hi : a ≤ i ∧ i < b
    · obtain ⟨j, hj1, hj2, hj⟩ := h.ins i hi.1 hi.2
      exact ⟨j, by omega, by omega, hj⟩
    · exact ⟨i, h1, h2, h.out i (by omega)⟩⟩
theorem PI.sw {a b i j : Nat} {l : List (Nat → Int)} (hi1 : a ≤ i) (hi2 : i < b) (hj1 : a ≤ j) (hj2 : j < b) (hb : b ≤ l.length) : PI a b l (swH l i j) := by
  refine ⟨swH_perm (by omega) (by omega), fun k hk => ?_, fun k h1 h2 => ?_⟩
  · rw [at0_sw (by omega) (by omega), if_neg (by omega), if_neg (by omega)]
  · rw [at0_sw (by omega) (by omega)]
    by_cases e1 : k = j
    · exact ⟨i, hi1, hi2, by rw [if_pos e1]⟩
    · by_cases e2 : k = i
      · exact ⟨j, hj1, hj2, by rw [if_neg e1, if_pos e2]⟩
      · exact ⟨k, h1, h2, by rw [if_neg e1, if_neg e2]⟩
/-! the order -/
def leH (x y : Nat → Int) : Prop := ¬ cmpHn y x < 0
theorem orR3 (a b c : Int) : orR [a, b, c] = if a ≠ 0 then a else if b ≠ 0 then b else c := by
  unfold orR
  split <;> simp_all [orR]
  try (split <;> simp_all)
theorem cmpHn_neg (x y : Nat → Int) : cmpHn x y < 0 ↔ ltrH x < ltrH y ∨ (ltrH x = ltrH y ∧ (x 5 < y 5 ∨ (x 5 = y 5 ∧ x 0 < y 0))) := by
  unfold cmpHn
  rw [orR3]
  unfold cmpI
  constructor
  · intro h
    split at h
    · omega
    · split at h
      · split at h
        · omega
        · split at h <;> omega
      · split at h
        · omega
        · split at h <;> omega
  · intro h
    by_cases h1 : ltrH x - ltrH y = 0
    · rw [if_neg (by simpa using h1)]
      by_cases h2 : x 5 < y 5
      · rw [if_pos h2]; simp
      · rw [if_neg h2]
        have h3 : ¬ y 5 < x 5 := by omega
        rw [if_neg h3]
        simp
        omega
    · rw [if_pos h1]; omega
theorem leH_iff (x y : Nat → Int) : leH x y ↔ ltrH x < ltrH y ∨ (ltrH x = ltrH y ∧ (x 5 < y 5 ∨ (x 5 = y 5 ∧ x 0 ≤ y 0))) := by
  unfold leH
  rw [cmpHn_neg]
  omega
theorem leH_refl (x : Nat → Int) : leH x x := by rw [leH_iff]; omega
theorem leH_trans {x y z : Nat → Int} (h : leH x y) (k : leH y z) : leH x z := by rw [leH_iff] at *; omega
theorem leH_lt {x y : Nat → Int} (h : cmpHn x y < 0) : leH x y := by rw [leH_iff]; rw [cmpHn_neg] at h; omega
def Srt (a b : Nat) (l : List (Nat → Int)) : Prop := ∀ p q, a ≤ p → p < q → q < b → leH (at0 l p) (at0 l q)
/-- sorted up to the place j, which is on its way down -/
def SrtX (a j i : Nat) (l : List (Nat → Int)) : Prop := ∀ p q, a ≤ p → p < q → q ≤ i → q ≠ j → leH (at0 l p) (at0 l q)
theorem SrtX.start {a i : Nat} {l : List (Nat → Int)} (h : Srt a i l) : SrtX a i i l := fun p q h1 h2 h3 h4 => h p q h1 h2 (by omega)
theorem SrtX.done_a {a i : Nat} {l : List (Nat → Int)} (h : SrtX a a i l) : Srt a (i + 1) l := fun p q h1 h2 h3 => h p q h1 h2 (by omega) (by omega)
theorem SrtX.done {a j i : Nat} {l : List (Nat → Int)} (h : SrtX a j i l) (hj : a < j) (hc : ¬ cmpHn (at0 l j) (at0 l (j - 1)) < 0) (hji : j ≤ i) : Srt a (i + 1) l := fun p q h1 h2 h3 => by
  by_cases e : q = j
  · subst e
    by_cases e2 : p = q - 1
    · subst e2; exact hc
    · exact leH_trans (h p (q - 1) h1 (by omega) (by omega) (by omega)) hc
  · exact h p q h1 h2 (by omega) e
theorem SrtX.step {a j i : Nat} {l : List (Nat → Int)} (h : SrtX a j i l) (hj : a < j) (hji : j ≤ i) (hi : i < l.length) (hc : cmpHn (at0 l j) (at0 l (j - 1)) < 0) : SrtX a (j - 1) i (swH l j (j - 1)) := fun p q h1 h2 h3 h4 => by
  rw [at0_sw (by omega) (by omega), at0_sw (by omega) (by omega), if_neg h4]
  by_cases e : q = j
  · subst e
    rw [if_pos rfl]
    by_cases e2 : p = q - 1
    · rw [if_pos e2]; exact leH_lt hc
    · rw [if_neg e2, if_neg (by omega)]; exact h p (q - 1) h1 (by omega) (by omega) (by omega)
  · rw [if_neg e]
    by_cases e2 : p = j - 1
    · rw [if_pos e2]; exact h j q (by omega) (by omega) h3 e
    · rw [if_neg e2]
      by_cases e3 : p = j
      · rw [if_pos e3]; exact h (j - 1) q (by omega) (by omega) h3 e
      · rw [if_neg e3]; exact h p q h1 h2 h3 e
end Go.Proofs.Sky
