/-
  lemmas for the theorems of this claim. No conditions beyond those written in the statements.
-/
import Derived.Test.YtgeojbmhkmmedaaDoorE28
import Derived.Deep.CutRange
import Derived.Test.YtgeojbmhkmmedaaDoorAL4
import Derived.Test.YtgeojbmhkmmedaaDoorRdAt
import Derived.BigQuiet
import Derived.Test.YtgeojbmhkmmedaaDoorP28
import Derived.Deep.Cut
set_option linter.unusedVariables false
set_option linter.unusedSimpArgs false
set_option linter.unnecessarySimpa false
namespace Go.Proofs.Sky
open Go Go.RowKit Go.Shelf
set_option maxHeartbeats 2000000
set_option maxRecDepth 8000
/-! chapter 28: valued -/
theorem zeroTW (w : World) : (zeroValue 66).run Tryd.prog w = .ok (.agg #[.bool false, .int .u64 0, .int .u64 0, .int .u64 0, .int .u64 0]) w := by kernel_rfl
theorem infoWn : (Tryd.prog.info? 66).map (fun i => (i.zero, i.size, i.bytes)) = some (some (.agg #[.bool false, .int .u64 0, .int .u64 0, .int .u64 0, .int .u64 0]), 5, 40) := by kernel_rfl
section
variable {ops : Array Oper} {rest : List Oper} {o : Oper} {a : Act} {w : World} {K : Act → World → Prop} {Q : Exit → Act → World → Prop}
theorem blk_newW {w : World} {b : Nat} {T : TypeId} {f : Wn} (hb : Blk w b T (nV f.1 f.2)) : ∀ (j : Nat) (u : Value), (wcs f)[j]? = some u → w.cell? ((⟨b, 0, none⟩ : Addr).add j) = some u := fun j u hu => by
  have h := hb.cell (j := j) (v := u) (by simpa [wcs] using hu)
  have e : (⟨b, 0, none⟩ : Addr).add j = ⟨b, j, none⟩ := by
    have h1 : ∀ off : Nat, (⟨b, off, none⟩ : Addr).add j = ⟨b, off + j, none⟩ := fun off => by simp [Addr.add]
    rw [h1, Nat.zero_add]
  rw [e]; exact h
theorem wcs_one (f : Wn) : ∀ u ∈ wcs f, u.oneCell' = true := fun u hu => by
  simp only [wcs, nV, wV, List.mem_cons, List.not_mem_nil, or_false] at hu
  rcases hu with rfl | rfl | rfl | rfl | rfl <;> rfl
theorem wpList_append_wn (hgd : o.guard = none) (s x : Operand) (t : TypeId)
    (ho : o.op = .call { callee := .builtin .append, args := #[s, x], argTypes := #[t, t] })
    (base : Nat) (ht : Tryd.prog.underlying t = some (.slice 66))
    (v : Value) (n : Nat) (fs : List Wn) (hfn : fs.length = n) (f : Wn) (hs : a.eval s = v) (hown : w.ownsRow base 66 5 v n (flatW fs))
    (b : Nat) (T : TypeId) (hx : a.eval x = .slice (some ⟨b, 0, none⟩) 1 1) (hb : Blk w b T (nV f.1 f.2))
    (hn : n + 1 ≤ 1000000) (hbase : base ≤ w.heap.size)
    (h : ∀ v' w', w'.ownsRow base 66 5 v' (n + 1) (flatW (fs ++ [f])) → w.grownBy w' v.ownBlock → wpList Tryd.prog ops Q rest (a.put o.dst v') w') : wpList Tryd.prog ops Q (o :: rest) a w := by
  obtain ⟨i, hi, hzz⟩ := Option.map_eq_some_iff.1 infoWn
  simp only [Prod.mk.injEq] at hzz
  obtain ⟨hz0, hz1, hz2⟩ := hzz
  refine wpList_append_own w hgd s x t ho base 66 i _ 5 40 ht hi hz0 hz1 hz2 rfl (by decide) v n (flatW fs) hs hown ⟨b, 0, none⟩ 1 1 (wcs f) hx rfl (blk_newW hb) (wcs_one f) (by unfold maxLen; omega) (by omega) hbase (fun v' w' h2 h3 _ => h v' w' ?_ h3)
  rw [flatW_append, flatW_one]; exact h2
end
def secW : Nat → Wn → Wn
  | 0, x => x
  | j + 1, x => timesW (secW j x) 1000000000
/-- the coefficient i of n, brought to the common denominator -/
def lW (cs shs : List Int) (n i : Nat) : Wn := secW (n - 1 - i) (timesW (ofW (cs.getD i 0)) (2 ^ (shs.getD i 0).toNat))
def xsW (cs shs : List Int) (n : Nat) : List Wn := (List.range n).map (lW cs shs n)
theorem pow62 {n : Nat} (h : n ≤ 62) : -9000000000000000000 ≤ (2 : Int) ^ n ∧ (2 : Int) ^ n ≤ 9000000000000000000 := by
  have h1 : (2 : Nat) ^ n ≤ 2 ^ 62 := Nat.pow_le_pow_right (by decide) h
  have h2 : (2 : Int) ^ n = ((2 ^ n : Nat) : Int) := by push_cast; rfl
  rw [h2]
  have h3 : (2 : Nat) ^ 62 = 4611686018427387904 := by decide
  rw [h3] at h1
  generalize (2 : Nat) ^ n = m at *
  omega
theorem valued_any (cs shs : List Int) (d : Int) (v vs : Value) (w : World) (hv : RdI w v cs) (hs : RdI w vs shs) (h0 : 0 < cs.length) (h1 : cs.length ≤ 100) (hl : shs.length = cs.length)
    (hc : ∀ i, i < cs.length → -9000000000000000000 ≤ cs.getD i 0 ∧ cs.getD i 0 ≤ 9000000000000000000) (hsh : ∀ i, i < cs.length → 0 ≤ shs.getD i 0 ∧ shs.getD i 0 ≤ 62)
    (hd : -9000000000000000000 ≤ d ∧ d ≤ 9000000000000000000)
    (hb : ∀ i, i + 1 < cs.length → (timesW (hW d ((xsW cs shs cs.length).drop (i + 1))) d).2 < M256 ∧ ((xsW cs shs cs.length).getD i (false, 0)).2 < M256) :
    Calls Tryd.prog 35 #[v, vs, .int .i64 d] w fun e w' => e = .returned (.agg (nV (hW d (xsW cs shs cs.length)).1 (hW d (xsW cs shs cs.length)).2)) ∧ Bw w w' := by
  obtain ⟨n, hn⟩ : ∃ n, n = cs.length := ⟨_, rfl⟩
  have hxl : (xsW cs shs n).length = n := by simp [xsW]
  have HO : Hid (∀ W v', RdW W v' (xsW cs shs n) → Calls Tryd.prog 55 #[v', .int .i64 d, .func (.func 38) #[] #[], .func (.func 56) #[] #[]] W fun e w' => e = .returned (.agg (nV (hW d (xsW cs shs n)).1 (hW d (xsW cs shs n)).2)) ∧ Bw W w') := Lib.hid (fun W v' hr => horner_any (xsW cs shs n) d v' W hr (by rw [hxl]; omega) (by rw [hxl]; omega) hd (by rw [hxl, hn]; exact hb))
  rw [← hn] at hc hsh h0 h1 hl ⊢
  obtain ⟨ad, cap, rfl⟩ := hv.form
  obtain ⟨ads, caps, rfl⟩ := hs.form
  rw [hl] at hs ⊢
  rw [← hn] at hv ⊢
  have HV := Lib.hid hv
  have HVS := Lib.hid hs
  have HC := Lib.hid hc
  have HSHB := Lib.hid hsh
  have HN := Lib.hid (And.intro hn hl)
  clear hv hs hc hsh hn hl hb hd
  obtain ⟨RES, hRES⟩ : ∃ RES, RES = hW d (xsW cs shs n) := ⟨_, rfl⟩
  rw [← hRES] at HO ⊢
  clear hRES
  have KR := Lib.hid (Blk.new w 66 #[.bool false, .int .u64 0, .int .u64 0, .int .u64 0, .int .u64 0])
  have HW := Lib.hid (Bw.alloc (Bw.refl w) (.cells #[.bool false, .int .u64 0, .int .u64 0, .int .u64 0, .int .u64 0] 66))
  obtain ⟨g, hg⟩ : ∃ g, w.heap.size = g := ⟨_, rfl⟩
  have HS0 := Lib.hid (show (w.alloc (.cells #[.bool false, .int .u64 0, .int .u64 0, .int .u64 0, .int .u64 0] 66)).heap.size = g + 1 by rw [World.size_alloc, hg])
  rw [hg] at KR
  have HG := Lib.hid hg
  go_enter Tryd.func35, Tryd.ntmps35
  go_upto_region 1 with fail
  obtain ⟨W0, hW0⟩ : ∃ W0, w.alloc (.cells #[.bool false, .int .u64 0, .int .u64 0, .int .u64 0, .int .u64 0] 66) = W0 := ⟨_, rfl⟩
  rw [hW0] at KR HW HS0 ⊢
  clear hW0 hg
  go_wp2
  go_loopg [7, 14] n (fun gg s7 s14 wr => ∃ i : Nat, i ≤ n ∧ n - i ≤ gg ∧ s14 = .int .i64 i ∧ Hid (Bw W0 wr) ∧ Hid (wr.ownsRow (g + 1) 66 5 s7 i (flatW ((List.range i).map (lW cs shs n)))))
  case atStart => exact ⟨0, by omega, by omega, rfl, Lib.hid (Bw.refl _), Lib.hid (World.ownsRow_nil _ _ _ _)⟩
  case round =>
    obtain ⟨i, hi, hgg, rfl, HWC, HOW⟩ := hrel
    obtain ⟨wb, rfl⟩ : ∃ wb, wb = wr := ⟨_, rfl⟩
    by_cases c3 : i < n
    case neg =>
      have c3z : ¬ (i : Int) < n := by omega
      obtain rfl : i = n := by omega
      have HRW := Lib.hid (show RdW wb u7 (xsW cs shs i) from own_rdW (by rw [hxl]; exact HOW.out))
      replace KR := Lib.hid (KR.out.bw HWC.out)
      replace HW := Lib.hid (HW.out.trans HWC.out)
      go_wp2_with (first | (go_at_call 55; (with_reducible refine Calls.mono (HO.out _ _ HRW.out) ?_); rintro e1 w7 ⟨rfl, hb1⟩; replace KR := Lib.hid (KR.out.bw hb1); replace HW := Lib.hid (HW.out.trans hb1); clear hb1) | ((with_reducible refine at_store 66 (.tmp 6) (.tmp 44) ?_); refine wpList_store_row rfl 66 (.tmp 6) (.tmp 44) rfl g (nV RES.1 RES.2) rfl rfl 66 _ KR.out (by kernel_rfl) rfl (nV_one _ _) ?_))
      have F9 := KR.out.row (nV RES.1 RES.2)
      have B9 := Bw.setRow HW.out (show w.heap.size ≤ g by have := HG.out; omega) (nV RES.1 RES.2)
      refine bodyPost_ret (v := .agg (nV RES.1 RES.2)) ?_ rfl ⟨rfl, B9⟩
      exact results_cell_row (p := 6) rfl _ _ g _ _ (0, 0) _ rfl F9 Tryd.underlying66 rfl (by kernel_rfl)
    case pos =>
      have c3z : (i : Int) < n := by omega
      have hi0 : (0 : Int) ≤ i := by omega
      obtain ⟨bc, oc, cc, hvc, _, hcc⟩ := (HV.out.mono (HW.out.trans HWC.out)).at (by have := HN.out; omega)
      injection hvc with i1 i2 i3
      subst i1
      clear i2 i3
      have cc0 := hcc i (by have := HN.out; omega)
      clear hcc
      obtain ⟨bs, os, css, hvs, _, hcs⟩ := (HVS.out.mono (HW.out.trans HWC.out)).at (by have := HN.out; omega)
      injection hvs with i1 i2 i3
      subst i1
      clear i2 i3
      have shc := hcs i (by have := HN.out; omega)
      clear hcs
      obtain ⟨C, hC⟩ : ∃ C, C = cs.getD i 0 := ⟨_, rfl⟩
      obtain ⟨sn, hsn⟩ : ∃ sn : Nat, shs.getD i 0 = (sn : Int) := ⟨(shs.getD i 0).toNat, by have := HSHB.out i c3; omega⟩
      have hsn62 : sn ≤ 62 := by have := HSHB.out i c3; omega
      have HLW := Lib.hid (show lW cs shs n i = secW (n - 1 - i) (timesW (ofW C) (2 ^ sn)) by unfold lW; rw [hC, hsn]; rfl)
      have hCb := HC.out i c3
      rw [← hC] at cc0 hCb
      rw [hsn] at shc
      clear hC hsn
      have OF : Hid (∀ W, Calls Tryd.prog 54 #[.int .i64 C] W fun e w' => e = .returned (.agg (nV (ofW C).1 (ofW C).2)) ∧ Bw W w') := Lib.hid (fun W => of28_any C W hCb)
      have TM := Lib.hid (fun W => times28 (ofW C) (2 ^ sn) (pow62 hsn62) W)
      obtain ⟨X1, hX1⟩ : ∃ X1, X1 = timesW (ofW C) (2 ^ sn) := ⟨_, rfl⟩
      rw [← hX1] at TM HLW
      clear hX1 hCb
      generalize ofW C = O1 at *
      obtain ⟨PW, hPW⟩ : ∃ PW : Int, PW = 2 ^ sn := ⟨_, rfl⟩
      rw [← hPW] at TM
      have hwp : IntKind.i64.wrap ((2 : Int) ^ sn) = PW := by
        have h9 := pow62 hsn62
        rw [hPW, IntKind.wrap_i64]
        generalize (2 : Int) ^ sn = m at *
        omega
      clear hPW
      have hsn0 : (0 : Int) ≤ sn := by omega
      go_upto_region 5 with fail
      clear cc0
      go_cut [10] from 45 (fun s10 wx => ∃ g10, s10 = .pointer (some ⟨g10, 0, none⟩) ∧ wb.heap.size ≤ g10 ∧ Hid (Bw wb wx) ∧ Hid (Blk wx g10 66 (nV X1.1 X1.2)))
      case first =>
        refine wp_region_held_drew (S := Bw wb) (by kernel_rfl) (Bw.drew (Bw.refl _)) (fun hS => ?_)
        generalize World.drew _ = wd at hS ⊢
        refine take1 (i := 0) (some 19) rfl rfl (by kernel_rfl) (by kernel_rfl) (by kernel_rfl) (fun _ _ _ _ h => h) rfl hS ?_
        apply Exists.intro
        apply And.intro
        · intro W9 hW9; have y0 := hW9.cell' shc; go_simp; try with_reducible rfl
        simp only [Act.put, List.setIfInBounds_toArray, List.set_cons_zero, List.set_cons_succ]
        refine take1 (i := 2) (some 21) rfl rfl (by kernel_rfl) (by kernel_rfl) (by kernel_rfl) (fun _ _ _ _ h => h) rfl hS ?_
        apply Exists.intro
        apply And.intro
        · intro W9 hW9; have y0 := hW9.cell' shc; go_simp; try with_reducible rfl
        simp only [Act.put, List.setIfInBounds_toArray, List.set_cons_zero, List.set_cons_succ]
        refine take1 (i := 3) (some 22) rfl rfl (by kernel_rfl) (by kernel_rfl) (by kernel_rfl) (fun _ _ _ _ h => h) rfl hS ?_
        apply Exists.intro
        apply And.intro
        · intro W9 hW9; have y0 := hW9.cell' shc; go_simp; try with_reducible rfl
        simp only [Act.put, List.setIfInBounds_toArray, List.set_cons_zero, List.set_cons_succ]
        refine take1 (i := 4) (some 23) rfl rfl (by kernel_rfl) (by kernel_rfl) (by kernel_rfl) (fun _ _ _ _ h => h) rfl hS ?_
        apply Exists.intro
        apply And.intro
        · intro W9 hW9; have y0 := hW9.cell' shc; go_simp; try with_reducible rfl
        simp only [Act.put, List.setIfInBounds_toArray, List.set_cons_zero, List.set_cons_succ]
        refine take1 (i := 5) (some 24) rfl rfl (by kernel_rfl) (by kernel_rfl) (by kernel_rfl) (fun _ _ _ _ h => h) rfl hS ?_
        apply Exists.intro
        apply And.intro
        · intro W9 hW9; have y0 := hW9.cell' shc; go_simp; try with_reducible rfl
        simp only [Act.put, List.setIfInBounds_toArray, List.set_cons_zero, List.set_cons_succ]
        refine take1 (i := 6) (some 25) rfl rfl (by kernel_rfl) (by kernel_rfl) (by kernel_rfl) (fun _ _ _ _ h => h) rfl hS ?_
        refine Exists.intro (.int .i64 PW) ?_
        apply And.intro
        · intro W9 hW9; have y0 := hW9.cell' shc; go_simp; (try with_reducible rfl); (try trivial)
        simp only [Act.put, List.setIfInBounds_toArray, List.set_cons_zero, List.set_cons_succ]
        refine wpAnyH_ready (rs := [1, 8]) (by kernel_rfl) (by simp) ?_
        refine AllReadyH.cons rfl (fun K hK => ?_) ?_
        go_simp
        go_wp2_with (go_at_call 54; (with_reducible refine Calls.mono (OF.out _) ?_); rintro e1 w13 ⟨rfl, hb13⟩)
        refine hK.out _ _ (hS.trans hb13) (fun hS => ?_)
        clear hK K
        clear hb13
        refine wpAnyH_ready (rs := [7, 8]) (by kernel_rfl) (by simp) ?_
        refine AllReadyH.cons rfl (fun K hK => ?_) ?_
        go_simp
        go_wp2_with (go_at_call 38; (with_reducible refine Calls.mono (TM.out _) ?_); rintro e1 w14 ⟨rfl, hb13⟩)
        refine hK.out _ _ (hS.trans hb13) (fun hS => ?_)
        clear hK K
        clear hb13
        refine wpAnyH_ready (rs := [8]) (by kernel_rfl) (by simp) ?_
        refine AllReadyH.cons rfl (fun K hK => ?_) ?_
        rw [if_pos (by rfl)]
        refine wp_alloc_new28 66 rfl (some 10) rfl _ (zeroTW _) ?_
        intro g10 w5 hg5 hN hbw
        simp only [Act.put, List.setIfInBounds_toArray, List.set_cons_zero, List.set_cons_succ]
        have KT := Lib.hid hN
        have HT5 := Lib.hid (Nat.le_trans hS.size hg5)
        clear hN
        refine hK.out _ _ (hS.trans hbw) (fun hS => ?_)
        clear hK K
        clear hbw hg5
        refine wpAnyH_ready (rs := [9]) (by kernel_rfl) (by simp) ?_
        refine AllReadyH.cons rfl (fun K hK => ?_) ?_
        rw [if_pos (by rfl)]
        refine wp_store_row0 66 _ _ rfl rfl g10 (nV X1.1 X1.2) rfl rfl 66 #[.bool false, .int .u64 0, .int .u64 0, .int .u64 0, .int .u64 0] KT.out (by kernel_rfl) rfl (nV_one _ _) ?_
        replace KT := Lib.hid (KT.out.row (nV X1.1 X1.2))
        refine hK.out _ _ (Bw.setRow hS HT5.out (nV X1.1 X1.2)) (fun hS => ?_)
        clear hK K
        refine wpAnyH_done (by kernel_rfl) ?_ _
        rotate_left
        exact AllReadyH.nil
        exact AllReadyH.nil
        refine AllReadyH.cons rfl (fun K hK => ?_) ?_
        rw [if_pos (by rfl)]
        refine wp_alloc_new28 66 rfl (some 10) rfl _ (zeroTW _) ?_
        intro g10 w5 hg5 hN hbw
        simp only [Act.put, List.setIfInBounds_toArray, List.set_cons_zero, List.set_cons_succ]
        have KT := Lib.hid hN
        have HT5 := Lib.hid (Nat.le_trans hS.size hg5)
        clear hN
        refine hK.out _ _ (hS.trans hbw) (fun hS => ?_)
        clear hK K
        clear hbw hg5
        refine wpAnyH_ready (rs := [7]) (by kernel_rfl) (by simp) ?_
        refine AllReadyH.cons rfl (fun K hK => ?_) ?_
        go_simp
        go_wp2_with (go_at_call 38; (with_reducible refine Calls.mono (TM.out _) ?_); rintro e1 w14 ⟨rfl, hb13⟩)
        replace KT := Lib.hid (KT.out.bw hb13)
        refine hK.out _ _ (hS.trans hb13) (fun hS => ?_)
        clear hK K
        clear hb13
        refine wpAnyH_ready (rs := [9]) (by kernel_rfl) (by simp) ?_
        refine AllReadyH.cons rfl (fun K hK => ?_) ?_
        rw [if_pos (by rfl)]
        refine wp_store_row0 66 _ _ rfl rfl g10 (nV X1.1 X1.2) rfl rfl 66 #[.bool false, .int .u64 0, .int .u64 0, .int .u64 0, .int .u64 0] KT.out (by kernel_rfl) rfl (nV_one _ _) ?_
        replace KT := Lib.hid (KT.out.row (nV X1.1 X1.2))
        refine hK.out _ _ (Bw.setRow hS HT5.out (nV X1.1 X1.2)) (fun hS => ?_)
        clear hK K
        refine wpAnyH_done (by kernel_rfl) ?_ _
        rotate_left
        exact AllReadyH.nil
        exact AllReadyH.nil
        exact AllReadyH.nil
        refine AllReadyH.cons rfl (fun K hK => ?_) ?_
        rw [if_pos (by rfl)]
        refine wp_alloc_new28 66 rfl (some 10) rfl _ (zeroTW _) ?_
        intro g10 w5 hg5 hN hbw
        simp only [Act.put, List.setIfInBounds_toArray, List.set_cons_zero, List.set_cons_succ]
        have KT := Lib.hid hN
        have HT5 := Lib.hid (Nat.le_trans hS.size hg5)
        clear hN
        refine hK.out _ _ (hS.trans hbw) (fun hS => ?_)
        clear hK K
        clear hbw hg5
        refine wpAnyH_ready (rs := [1]) (by kernel_rfl) (by simp) ?_
        refine AllReadyH.cons rfl (fun K hK => ?_) ?_
        go_simp
        go_wp2_with (go_at_call 54; (with_reducible refine Calls.mono (OF.out _) ?_); rintro e1 w13 ⟨rfl, hb13⟩)
        replace KT := Lib.hid (KT.out.bw hb13)
        refine hK.out _ _ (hS.trans hb13) (fun hS => ?_)
        clear hK K
        clear hb13
        refine wpAnyH_ready (rs := [7]) (by kernel_rfl) (by simp) ?_
        refine AllReadyH.cons rfl (fun K hK => ?_) ?_
        go_simp
        go_wp2_with (go_at_call 38; (with_reducible refine Calls.mono (TM.out _) ?_); rintro e1 w14 ⟨rfl, hb13⟩)
        replace KT := Lib.hid (KT.out.bw hb13)
        refine hK.out _ _ (hS.trans hb13) (fun hS => ?_)
        clear hK K
        clear hb13
        refine wpAnyH_ready (rs := [9]) (by kernel_rfl) (by simp) ?_
        refine AllReadyH.cons rfl (fun K hK => ?_) ?_
        rw [if_pos (by rfl)]
        refine wp_store_row0 66 _ _ rfl rfl g10 (nV X1.1 X1.2) rfl rfl 66 #[.bool false, .int .u64 0, .int .u64 0, .int .u64 0, .int .u64 0] KT.out (by kernel_rfl) rfl (nV_one _ _) ?_
        replace KT := Lib.hid (KT.out.row (nV X1.1 X1.2))
        refine hK.out _ _ (Bw.setRow hS HT5.out (nV X1.1 X1.2)) (fun hS => ?_)
        clear hK K
        refine wpAnyH_done (by kernel_rfl) ?_ _
        rotate_left
        exact AllReadyH.nil
        exact AllReadyH.nil
        exact AllReadyH.nil
        exact AllReadyH.nil
        all_goals
          go_wp2
          go_meet
          exact ⟨g10, rfl, HT5.out, Lib.hid hS, KT⟩
      case rest =>
        clear shc hwp hsn0 hsn62 OF TM
        obtain ⟨g10, rfl, h10, hb1, KT⟩ := hcut
        have HT := Lib.hid h10
        have HWB := hb1
        clear h10 hb1
        obtain ⟨wy, hwy⟩ : ∃ wy, wy = wc := ⟨_, rfl⟩
        subst hwy
        go_wp2
        go_loopg [11] n (fun gg s11 wr => ∃ k : Nat, i ≤ k ∧ k ≤ n - 1 ∧ n - k ≤ gg ∧ s11 = .int .i64 k ∧ Hid (Bw wb wr) ∧ Hid (Blk wr g10 66 (nV (secW (k - i) X1).1 (secW (k - i) X1).2)))
        case atStart => exact ⟨i, by omega, by omega, by omega, rfl, HWB, by rw [Nat.sub_self]; exact KT⟩
        case round =>
          clear KT HWB
          obtain ⟨k, hk1, hk2, hgg2, rfl, HWB, KT⟩ := hrel
          obtain ⟨wz, rfl⟩ : ∃ wz, wz = wr := ⟨_, rfl⟩
          by_cases c4 : k < n - 1
          case pos =>
            have c4z : (k : Int) < (n : Int) - 1 := by omega
            have hsu : secW (k + 1 - i) X1 = timesW (secW (k - i) X1) 1000000000 := by rw [show k + 1 - i = (k - i) + 1 by omega]; rfl
            have HSU := Lib.hid hsu
            clear hsu
            have TM := Lib.hid (fun W => times28 (secW (k - i) X1) 1000000000 (by decide) W)
            generalize secW (k - i) X1 = X2 at *
            obtain ⟨X3, hX3⟩ : ∃ X3, X3 = timesW X2 1000000000 := ⟨_, rfl⟩
            rw [← hX3] at TM HSU
            clear hX3
            go_wp2_with (first | ((with_reducible refine at_load 66 (.tmp 10) ?_); refine wpList_load_row rfl 66 _ rfl g10 rfl 66 (nV X2.1 X2.2) (0, 0) _ KT.out Tryd.underlying66 rfl (by kernel_rfl) ?_) | (go_at_call 38; (with_reducible refine Calls.mono (TM.out _) ?_); rintro e1 w7 ⟨rfl, hb1⟩; replace KT := Lib.hid (KT.out.bw hb1); replace HWB := Lib.hid (HWB.out.trans hb1); clear hb1) | ((with_reducible refine at_store 66 (.tmp 10) (.tmp 36) ?_); refine wpList_store_row rfl 66 (.tmp 10) (.tmp 36) rfl g10 (nV X3.1 X3.2) rfl rfl 66 _ KT.out (by kernel_rfl) rfl (nV_one _ _) ?_))
            replace HWB := Lib.hid (Bw.setRow HWB.out HT.out (nV X3.1 X3.2))
            replace KT := Lib.hid (KT.out.row (nV X3.1 X3.2))
            go_roundg (n - (k + 1))
            case measure => omega
            case rel => exact ⟨k + 1, by omega, by omega, by omega, by go_num, HWB, by rw [HSU.out]; exact KT⟩
          case neg =>
            have c4z : ¬ (k : Int) < (n : Int) - 1 := by omega
            obtain rfl : k = n - 1 := by omega
            rw [← HLW.out] at KT
            have hrg : (List.range i).map (lW cs shs n) ++ [lW cs shs n i] = (List.range (i + 1)).map (lW cs shs n) := by rw [List.range_succ, List.map_append]; rfl
            have HRG := Lib.hid hrg
            clear hrg HLW
            obtain ⟨Z, hZ⟩ : ∃ Z, Z = lW cs shs n i := ⟨_, rfl⟩
            rw [← hZ] at KT HRG
            clear hZ
            have KZ := Lib.hid (show Blk wz g10 66 #[.bool Z.1, .int .u64 ((d64 Z.2 0 : Nat) : Int), .int .u64 ((d64 Z.2 1 : Nat) : Int), .int .u64 ((d64 Z.2 2 : Nat) : Int), .int .u64 ((d64 Z.2 3 : Nat) : Int)] from KT.out)
            clear KT
            have HOW2 := Lib.hid (own_bw HOW.out (Bw.alloc HWB.out (.cells #[.bool Z.1, .int .u64 ((d64 Z.2 0 : Nat) : Int), .int .u64 ((d64 Z.2 1 : Nat) : Int), .int .u64 ((d64 Z.2 2 : Nat) : Int), .int .u64 ((d64 Z.2 3 : Nat) : Int)] 66)))
            have HLS := Lib.hid (show ((List.range i).map (lW cs shs n)).length = i by simp)
            generalize (List.range i).map (lW cs shs n) = LS at *
            have HGZ := Lib.hid (show g + 1 ≤ (wz.alloc (.cells #[.bool Z.1, .int .u64 ((d64 Z.2 0 : Nat) : Int), .int .u64 ((d64 Z.2 1 : Nat) : Int), .int .u64 ((d64 Z.2 2 : Nat) : Int), .int .u64 ((d64 Z.2 3 : Nat) : Int)] 66)).heap.size by have h1 := HS0.out; have h2 := HWC.out.size; have h3 := HWB.out.size; rw [World.size_alloc]; omega)
            go_wp2_with (first | ((with_reducible refine at_load 66 (.tmp 10) ?_); refine wpList_load_row rfl 66 _ rfl g10 rfl 66 #[.bool Z.1, .int .u64 ((d64 Z.2 0 : Nat) : Int), .int .u64 ((d64 Z.2 1 : Nat) : Int), .int .u64 ((d64 Z.2 2 : Nat) : Int), .int .u64 ((d64 Z.2 3 : Nat) : Int)] (0, 0) _ KZ.out Tryd.underlying66 rfl (by kernel_rfl) ?_) | (at_builtin; go_loud (refine wpList_append_wn rfl (.tmp 37) (.tmp 39) _ rfl (g + 1) Tryd.underlying96 u7 i LS HLS.out Z rfl HOW2.out wz.heap.size 66 rfl (show Blk (wz.alloc (.cells #[.bool Z.1, .int .u64 ((d64 Z.2 0 : Nat) : Int), .int .u64 ((d64 Z.2 1 : Nat) : Int), .int .u64 ((d64 Z.2 2 : Nat) : Int), .int .u64 ((d64 Z.2 3 : Nat) : Int)] 66)) wz.heap.size 66 (nV Z.1 Z.2) from Blk.new wz 66 #[.bool Z.1, .int .u64 ((d64 Z.2 0 : Nat) : Int), .int .u64 ((d64 Z.2 1 : Nat) : Int), .int .u64 ((d64 Z.2 2 : Nat) : Int), .int .u64 ((d64 Z.2 3 : Nat) : Int)]) (by omega) HGZ.out ?_; intro v7 w7 hown hgr; have hb1 := Bw.grownN HS0.out (Bw.alloc (HWC.out.trans HWB.out) (.cells #[.bool Z.1, .int .u64 ((d64 Z.2 0 : Nat) : Int), .int .u64 ((d64 Z.2 1 : Nat) : Int), .int .u64 ((d64 Z.2 2 : Nat) : Int), .int .u64 ((d64 Z.2 3 : Nat) : Int)] 66)) HOW2.out hgr; have HB1 := Lib.hid hb1; have HO1 := Lib.hid hown; clear hown hgr hb1)))
            rw [HRG.out] at HO1
            go_roundg (n - (i + 1))
            case measure => omega
            case rel => exact ⟨i + 1, by omega, by omega, by go_num, HB1, HO1⟩
end Go.Proofs.Sky

namespace Go.Proofs.Sky
open Go Go.RowKit Go.Shelf
set_option maxHeartbeats 4000000
set_option maxRecDepth 8000
/-! chapter 26: the reference's within and Check -/
theorem RdI.litN (w : World) (cs : Array Value) (t : TypeId) (zs : List Int) (n : Nat) (hn : w.heap.size = n) (h : cs.toList = zs.map (Value.int .i64)) (hl : zs.length ≤ 9223372036854775807) : RdI (w.alloc (.cells cs t)) (.slice (some ⟨n, 0, none⟩) zs.length zs.length) zs := by
  subst hn; exact RdI.lit w cs t zs h hl
def okZ (b z : Int) : Bool := decide (lowR b true ≤ z ∧ z ≤ highR b true)
theorem okZ_T (x : Nat → Int) (b : Int) (j : Nat) : okT x (b, true, j) = okZ b (x j) := rfl
theorem rwithin26_any (n b : Int) (hb : b = 16 ∨ b = 22 ∨ b = 24 ∨ b = 32) (w : World) : Calls Tryd.prog 49 #[.int .i64 n, .int .i64 b] w fun e w' => e = .returned (.bool (okZ b n)) ∧ Bw w w' := by
  obtain ⟨O, hO⟩ : ∃ O, O = okZ b n := ⟨_, rfl⟩
  rw [← hO]
  rcases hb with rfl | rfl | rfl | rfl
  · have HO := Lib.hid (hO.trans (show okZ 16 n = decide (-32768 ≤ n ∧ n < 32768) from decide_eq_decide.2 (by rw [show lowR 16 true = -32768 from by decide, show highR 16 true = 32767 from by decide]; omega)))
    clear hO
    by_cases q1 : n < -32768
    · have q1b : decide (-32768 ≤ n) = false := decide_eq_false (by omega)
      have HG := Lib.hid (HO.out.trans (decide_eq_false (by omega)))
      go_enter Tryd.func49, Tryd.ntmps49
      go_wp2
      go_ret
      exact ⟨ret_bool HG.out.symm, Bw.refl _⟩
    · have q1b : decide (-32768 ≤ n) = true := decide_eq_true (by omega)
      have HG := Lib.hid (HO.out.trans (show _ = decide (n < 32768) from decide_eq_decide.2 (by omega)))
      go_enter Tryd.func49, Tryd.ntmps49
      go_wp2
      go_ret
      exact ⟨ret_bool HG.out.symm, Bw.refl _⟩
  · have HO := Lib.hid (hO.trans (show okZ 22 n = decide (-2097152 ≤ n ∧ n < 2097152) from decide_eq_decide.2 (by rw [show lowR 22 true = -2097152 from by decide, show highR 22 true = 2097151 from by decide]; omega)))
    clear hO
    by_cases q1 : n < -2097152
    · have q1b : decide (-2097152 ≤ n) = false := decide_eq_false (by omega)
      have HG := Lib.hid (HO.out.trans (decide_eq_false (by omega)))
      go_enter Tryd.func49, Tryd.ntmps49
      go_wp2
      go_ret
      exact ⟨ret_bool HG.out.symm, Bw.refl _⟩
    · have q1b : decide (-2097152 ≤ n) = true := decide_eq_true (by omega)
      have HG := Lib.hid (HO.out.trans (show _ = decide (n < 2097152) from decide_eq_decide.2 (by omega)))
      go_enter Tryd.func49, Tryd.ntmps49
      go_wp2
      go_ret
      exact ⟨ret_bool HG.out.symm, Bw.refl _⟩
  · have HO := Lib.hid (hO.trans (show okZ 24 n = decide (-8388608 ≤ n ∧ n < 8388608) from decide_eq_decide.2 (by rw [show lowR 24 true = -8388608 from by decide, show highR 24 true = 8388607 from by decide]; omega)))
    clear hO
    by_cases q1 : n < -8388608
    · have q1b : decide (-8388608 ≤ n) = false := decide_eq_false (by omega)
      have HG := Lib.hid (HO.out.trans (decide_eq_false (by omega)))
      go_enter Tryd.func49, Tryd.ntmps49
      go_wp2
      go_ret
      exact ⟨ret_bool HG.out.symm, Bw.refl _⟩
    · have q1b : decide (-8388608 ≤ n) = true := decide_eq_true (by omega)
      have HG := Lib.hid (HO.out.trans (show _ = decide (n < 8388608) from decide_eq_decide.2 (by omega)))
      go_enter Tryd.func49, Tryd.ntmps49
      go_wp2
      go_ret
      exact ⟨ret_bool HG.out.symm, Bw.refl _⟩
  · have HO := Lib.hid (hO.trans (show okZ 32 n = decide (-2147483648 ≤ n ∧ n < 2147483648) from decide_eq_decide.2 (by rw [show lowR 32 true = -2147483648 from by decide, show highR 32 true = 2147483647 from by decide]; omega)))
    clear hO
    by_cases q1 : n < -2147483648
    · have q1b : decide (-2147483648 ≤ n) = false := decide_eq_false (by omega)
      have HG := Lib.hid (HO.out.trans (decide_eq_false (by omega)))
      go_enter Tryd.func49, Tryd.ntmps49
      go_wp2
      go_ret
      exact ⟨ret_bool HG.out.symm, Bw.refl _⟩
    · have q1b : decide (-2147483648 ≤ n) = true := decide_eq_true (by omega)
      have HG := Lib.hid (HO.out.trans (show _ = decide (n < 2147483648) from decide_eq_decide.2 (by omega)))
      go_enter Tryd.func49, Tryd.ntmps49
      go_wp2
      go_ret
      exact ⟨ret_bool HG.out.symm, Bw.refl _⟩
def clB (i : Nat) : Int := if i = 0 then 32 else if i = 1 then 24 else 16
def axB (i : Nat) : Int := if i = 0 then 32 else if i = 2 then 22 else 24
theorem clB_ok (i : Nat) : clB i = 16 ∨ clB i = 22 ∨ clB i = 24 ∨ clB i = 32 := by unfold clB; split; · simp
                                                                                   split <;> simp
theorem axB_ok (i : Nat) : axB i = 16 ∨ axB i = 22 ∨ axB i = 24 ∨ axB i = 32 := by unfold axB; split; · simp
                                                                                   split <;> simp
theorem errE_cl {x : Nat → Int} {i : Nat} (hi : i < 3) (h : okZ (clB i) (x (4 + i)) = false) : errE x = 2 := by
  match i, hi with
  | 0, _ => exact errE_bad (k := 0) (i := 4) (by decide) (by decide) h
  | 1, _ => exact errE_bad (k := 0) (i := 5) (by decide) (by decide) h
  | 2, _ => exact errE_bad (k := 0) (i := 6) (by decide) (by decide) h
theorem errE_ax {x : Nat → Int} {i : Nat} (hi : i < 4) (h : okZ (axB i) (x (7 + i)) = false ∨ okZ (axB i) (x (11 + i)) = false ∨ okZ (axB i) (x (15 + i)) = false) : errE x = 2 := by
  match i, hi with
  | 0, _ => exact h.elim (errE_bad (k := 1) (i := 2) (by decide) (by decide)) (fun h => h.elim (errE_bad (k := 1) (i := 6) (by decide) (by decide)) (errE_bad (k := 2) (i := 4) (by decide) (by decide)))
  | 1, _ => exact h.elim (errE_bad (k := 1) (i := 3) (by decide) (by decide)) (fun h => h.elim (errE_bad (k := 1) (i := 7) (by decide) (by decide)) (errE_bad (k := 2) (i := 5) (by decide) (by decide)))
  | 2, _ => exact h.elim (errE_bad (k := 1) (i := 4) (by decide) (by decide)) (fun h => h.elim (errE_bad (k := 2) (i := 2) (by decide) (by decide)) (errE_bad (k := 2) (i := 6) (by decide) (by decide)))
  | 3, _ => exact h.elim (errE_bad (k := 1) (i := 5) (by decide) (by decide)) (fun h => h.elim (errE_bad (k := 2) (i := 3) (by decide) (by decide)) (errE_bad (k := 2) (i := 7) (by decide) (by decide)))
def hdE (x : Nat → Int) : Prop := 1 ≤ x 0 ∧ x 0 ≤ 63 ∧ 0 ≤ x 1 ∧ x 1 ≤ 255 ∧ 0 ≤ x 2 ∧ x 2 ≤ 604799 ∧ 0 ≤ x 3 ∧ x 3 ≤ 65535
theorem okT_un {x : Nat → Int} {b hi : Int} {j : Nat} (h : highR b false = hi) : okT x (b, false, j) = decide (0 ≤ x j ∧ x j ≤ hi) := by
  subst h; rfl
theorem errE_yes {x : Nat → Int} (h : hdE x) (h2 : ∀ i, i < 3 → okZ (clB i) (x (4 + i)) = true) (h3 : ∀ i, i < 4 → okZ (axB i) (x (7 + i)) = true ∧ okZ (axB i) (x (11 + i)) = true ∧ okZ (axB i) (x (15 + i)) = true) : errE x = 0 := by
  have u8 : ∀ j, okT x (8, false, j) = decide (0 ≤ x j ∧ x j ≤ 255) := fun j => okT_un (by decide)
  have u6 : ∀ j, okT x (6, false, j) = decide (0 ≤ x j ∧ x j ≤ 63) := fun j => okT_un (by decide)
  have u20 : ∀ j, okT x (20, false, j) = decide (0 ≤ x j ∧ x j ≤ 1048575) := fun j => okT_un (by decide)
  have u16 : ∀ j, okT x (16, false, j) = decide (0 ≤ x j ∧ x j ≤ 65535) := fun j => okT_un (by decide)
  have e0 : (LS 0).all (okT x) = (okT x (8, false, 1) && (okT x (6, false, 0) && (okT x (20, false, 2) && (okT x (16, false, 3) && (okZ 32 (x 4) && (okZ 24 (x 5) && (okZ 16 (x 6) && true))))))) := rfl
  have e1 : (LS 1).all (okT x) = (okT x (8, false, 1) && (okT x (6, false, 0) && (okZ 32 (x 7) && (okZ 24 (x 8) && (okZ 22 (x 9) && (okZ 24 (x 10) && (okZ 32 (x 11) && (okZ 24 (x 12) && true)))))))) := rfl
  have e2 : (LS 2).all (okT x) = (okT x (8, false, 1) && (okT x (6, false, 0) && (okZ 22 (x 13) && (okZ 24 (x 14) && (okZ 32 (x 15) && (okZ 24 (x 16) && (okZ 22 (x 17) && (okZ 24 (x 18) && true)))))))) := rfl
  obtain ⟨a1, a2, a3, a4, a5, a6, a7, a8⟩ := h
  have c0 : okZ 32 (x 4) = true := h2 0 (by omega)
  have c1 : okZ 24 (x 5) = true := h2 1 (by omega)
  have c2 : okZ 16 (x 6) = true := h2 2 (by omega)
  have d0 : okZ 32 (x 7) = true ∧ okZ 32 (x 11) = true ∧ okZ 32 (x 15) = true := h3 0 (by omega)
  have d1 : okZ 24 (x 8) = true ∧ okZ 24 (x 12) = true ∧ okZ 24 (x 16) = true := h3 1 (by omega)
  have d2 : okZ 22 (x 9) = true ∧ okZ 22 (x 13) = true ∧ okZ 22 (x 17) = true := h3 2 (by omega)
  have d3 : okZ 24 (x 10) = true ∧ okZ 24 (x 14) = true ∧ okZ 24 (x 18) = true := h3 3 (by omega)
  unfold errE
  rw [e0, e1, e2, u8, u6, u20, u16, c0, c1, c2, d0.1, d0.2.1, d0.2.2, d1.1, d1.2.1, d1.2.2, d2.1, d2.2.1, d2.2.2, d3.1, d3.2.1, d3.2.2, decide_eq_true (show 0 ≤ x 1 ∧ x 1 ≤ 255 by omega), decide_eq_true (show 0 ≤ x 0 ∧ x 0 ≤ 63 by omega), decide_eq_true (show 0 ≤ x 2 ∧ x 2 ≤ 1048575 by omega), decide_eq_true (show 0 ≤ x 3 ∧ x 3 ≤ 65535 by omega), decide_eq_true (show 1 ≤ x 0 ∧ x 2 < 604800 by omega)]
  rfl
theorem errE_hd {x : Nat → Int} (h : ¬ hdE x) : errE x = 2 := by
  have u8 : ∀ j, okT x (8, false, j) = decide (0 ≤ x j ∧ x j ≤ 255) := fun j => okT_un (by decide)
  have u6 : ∀ j, okT x (6, false, j) = decide (0 ≤ x j ∧ x j ≤ 63) := fun j => okT_un (by decide)
  have u20 : ∀ j, okT x (20, false, j) = decide (0 ≤ x j ∧ x j ≤ 1048575) := fun j => okT_un (by decide)
  have u16 : ∀ j, okT x (16, false, j) = decide (0 ≤ x j ∧ x j ≤ 65535) := fun j => okT_un (by decide)
  have e0 : (LS 0).all (okT x) = (okT x (8, false, 1) && (okT x (6, false, 0) && (okT x (20, false, 2) && (okT x (16, false, 3) && (okZ 32 (x 4) && (okZ 24 (x 5) && (okZ 16 (x 6) && true))))))) := rfl
  unfold errE
  rw [if_neg]
  intro h9
  apply h
  simp only [Bool.and_eq_true] at h9
  rw [e0, u8, u6, u20, u16] at h9
  simp only [Bool.and_eq_true, decide_eq_true_eq] at h9
  obtain ⟨⟨⟨⟨b1, b2, b3, b4, _⟩, _⟩, _⟩, b5⟩ := h9
  unfold hdE
  omega
theorem errE_parts {x : Nat → Int} (h : errE x = 0) : hdE x ∧ (∀ i, i < 3 → okZ (clB i) (x (4 + i)) = true) ∧ (∀ i, i < 4 → okZ (axB i) (x (7 + i)) = true ∧ okZ (axB i) (x (11 + i)) = true ∧ okZ (axB i) (x (15 + i)) = true) := by
  refine ⟨Classical.byContradiction fun h9 => ?_, fun i hi => ?_, fun i hi => ⟨?_, ?_, ?_⟩⟩
  · rw [errE_hd h9] at h; cases h
  · cases hq : okZ (clB i) (x (4 + i)) with
    | true => rfl
    | false => rw [errE_cl hi hq] at h; cases h
  · cases hq : okZ (axB i) (x (7 + i)) with
    | true => rfl
    | false => rw [errE_ax hi (.inl hq)] at h; cases h
  · cases hq : okZ (axB i) (x (11 + i)) with
    | true => rfl
    | false => rw [errE_ax hi (.inr (.inl hq))] at h; cases h
  · cases hq : okZ (axB i) (x (15 + i)) with
    | true => rfl
    | false => rw [errE_ax hi (.inr (.inr hq))] at h; cases h
end Go.Proofs.Sky

namespace Go.Proofs.Sky
open Go Go.RowKit Go.Shelf
set_option maxHeartbeats 2000000
set_option maxRecDepth 8000
/-! chapter 28: unit, at, point, axes -/
def unitW (p s : Nat) : Wn := secW p (ofW (2 ^ s))
theorem unit28_any (p s : Nat) (hp : p ≤ 10) (hs : s ≤ 62) (w : World) : Calls Tryd.prog 37 #[.int .i64 (p : Int), .int .i64 (s : Int)] w fun e w' => e = .returned (.agg (nV (unitW p s).1 (unitW p s).2)) ∧ Bw w w' := by
  have OF : Hid (∀ W, Calls Tryd.prog 54 #[.int .i64 (2 ^ s)] W fun e w' => e = .returned (.agg (nV (ofW (2 ^ s)).1 (ofW (2 ^ s)).2)) ∧ Bw W w') := Lib.hid (fun W => of28_any (2 ^ s) W (pow62 hs))
  obtain ⟨PW, hPW⟩ : ∃ PW : Int, PW = 2 ^ s := ⟨_, rfl⟩
  have hwp : IntKind.i64.wrap ((2 : Int) ^ s) = PW := by
    have h9 := pow62 hs
    rw [hPW, IntKind.wrap_i64]
    generalize (2 : Int) ^ s = m at *
    omega
  have hs0 : (0 : Int) ≤ s := by omega
  rw [← hPW] at OF
  have HU := Lib.hid (show unitW p s = secW p (ofW PW) by rw [hPW]; rfl)
  clear hPW
  generalize ofW PW = O at *
  have KR := Lib.hid (Blk.new w 66 #[.bool false, .int .u64 0, .int .u64 0, .int .u64 0, .int .u64 0])
  have HW := Lib.hid (Bw.alloc (Bw.refl w) (.cells #[.bool false, .int .u64 0, .int .u64 0, .int .u64 0, .int .u64 0] 66))
  obtain ⟨g, hg⟩ : ∃ g, w.heap.size = g := ⟨_, rfl⟩
  rw [hg] at KR
  have HG := Lib.hid hg
  go_enter Tryd.func37, Tryd.ntmps37
  go_upto_region 1 with fail
  obtain ⟨W0, hW0⟩ : ∃ W0, w.alloc (.cells #[.bool false, .int .u64 0, .int .u64 0, .int .u64 0, .int .u64 0] 66) = W0 := ⟨_, rfl⟩
  rw [hW0] at KR HW ⊢
  clear hW0 hg
  go_upto_region 2 with (first | (go_at_call 54; (with_reducible refine Calls.mono (OF.out _) ?_); rintro e1 w1 ⟨rfl, hb1⟩; replace KR := Lib.hid (KR.out.bw hb1); replace HW := Lib.hid (HW.out.trans hb1); clear hb1) | ((with_reducible refine at_store 66 (.tmp 5) (.tmp 8) ?_); refine wpList_store_row rfl 66 (.tmp 5) (.tmp 8) rfl w1.heap.size (nV O.1 O.2) rfl rfl 66 _ (Blk.new w1 66 #[.bool false, .int .u64 0, .int .u64 0, .int .u64 0, .int .u64 0]) (by kernel_rfl) rfl (nV_one _ _) ?_))
  obtain ⟨g5, hg5⟩ : ∃ g5, w1.heap.size = g5 := ⟨_, rfl⟩
  have hb1 := Bw.setRow (Bw.alloc (Bw.refl w1) (.cells #[.bool false, .int .u64 0, .int .u64 0, .int .u64 0, .int .u64 0] 66)) (Nat.le_of_eq hg5) (nV O.1 O.2)
  have KO := Lib.hid ((Blk.new w1 66 #[.bool false, .int .u64 0, .int .u64 0, .int .u64 0, .int .u64 0]).row (nV O.1 O.2))
  have HG5 := Lib.hid (show g < g5 by have := KR.out.lt; omega)
  rw [hg5] at KO ⊢
  replace KR := Lib.hid (KR.out.bw hb1)
  replace HW := Lib.hid (HW.out.trans hb1)
  clear hb1 hwp hs0 OF
  generalize World.setRow (World.alloc w1 _) _ _ = w2 at *
  clear hg5
  (try simp only [Act.put])
  go_wp2
  go_loopg [10] p (fun gg s10 wr => ∃ k : Nat, k ≤ p ∧ p - k ≤ gg ∧ s10 = .int .i64 k ∧ Hid (Bw w wr) ∧ Hid (Blk wr g 66 #[.bool false, .int .u64 0, .int .u64 0, .int .u64 0, .int .u64 0]) ∧ Hid (Blk wr g5 66 (nV (secW k O).1 (secW k O).2)))
  case atStart => exact ⟨0, by omega, by omega, rfl, HW, KR, KO⟩
  case round =>
    clear KO KR HW
    obtain ⟨k, hk, hgg, rfl, HW, KR, KO⟩ := hrel
    obtain ⟨wb, rfl⟩ : ∃ wb, wb = wr := ⟨_, rfl⟩
    by_cases c3 : k < p
    case pos =>
      have c3z : (k : Int) < p := by omega
      have HSU := Lib.hid (show secW (k + 1) O = timesW (secW k O) 1000000000 from rfl)
      have TM := Lib.hid (fun W => times28 (secW k O) 1000000000 (by decide) W)
      generalize secW k O = X2 at *
      obtain ⟨X3, hX3⟩ : ∃ X3, X3 = timesW X2 1000000000 := ⟨_, rfl⟩
      rw [← hX3] at TM HSU
      clear hX3
      go_wp2_with (first | ((with_reducible refine at_load 66 (.tmp 5) ?_); refine wpList_load_row rfl 66 _ rfl g5 rfl 66 (nV X2.1 X2.2) (0, 0) _ KO.out Tryd.underlying66 rfl (by kernel_rfl) ?_) | (go_at_call 38; (with_reducible refine Calls.mono (TM.out _) ?_); rintro e1 w7 ⟨rfl, hb1⟩; replace KO := Lib.hid (KO.out.bw hb1); replace KR := Lib.hid (KR.out.bw hb1); replace HW := Lib.hid (HW.out.trans hb1); clear hb1) | ((with_reducible refine at_store 66 (.tmp 5) (.tmp 13) ?_); refine wpList_store_row rfl 66 (.tmp 5) (.tmp 13) rfl g5 (nV X3.1 X3.2) rfl rfl 66 _ KO.out (by kernel_rfl) rfl (nV_one _ _) ?_))
      have hkx := Kx.row KO.out.lt (nV X3.1 X3.2)
      replace HW := Lib.hid (hkx.bw HW.out (by have := HG.out; have := HG5.out; omega))
      replace KR := Lib.hid (hkx.blk KR.out (by have := HG5.out; omega))
      replace KO := Lib.hid (KO.out.row (nV X3.1 X3.2))
      go_roundg (p - (k + 1))
      case measure => omega
      case rel => exact ⟨k + 1, by omega, by omega, by go_num, HW, KR, by rw [HSU.out]; exact KO⟩
    case neg =>
      have c3z : ¬ (k : Int) < p := by omega
      obtain rfl : k = p := by omega
      rw [← HU.out] at KO
      obtain ⟨UV, hUV⟩ : ∃ UV, UV = unitW k s := ⟨_, rfl⟩
      rw [← hUV] at KO
      have HUV := Lib.hid hUV
      clear hUV
      go_wp2_with (first | ((with_reducible refine at_load 66 (.tmp 5) ?_); refine wpList_load_row rfl 66 _ rfl g5 rfl 66 (nV UV.1 UV.2) (0, 0) _ KO.out Tryd.underlying66 rfl (by kernel_rfl) ?_) | ((with_reducible refine at_store 66 (.tmp 4) (.tmp 15) ?_); refine wpList_store_row rfl 66 (.tmp 4) (.tmp 15) rfl g (nV UV.1 UV.2) rfl rfl 66 _ KR.out (by kernel_rfl) rfl (nV_one _ _) ?_))
      have F9 := KR.out.row (nV UV.1 UV.2)
      have B9 := Bw.setRow HW.out (show w.heap.size ≤ g by have := HG.out; omega) (nV UV.1 UV.2)
      refine bodyPost_ret (v := .agg (nV UV.1 UV.2)) ?_ rfl ⟨by rw [HUV.out], B9⟩
      exact results_cell_row (p := 4) rfl _ _ g _ _ (0, 0) _ rfl F9 Tryd.underlying66 rfl (by kernel_rfl)
def wk : Int := 604800000000000
def turn1 (d : Int) : Int := if d + 604800000000000 ≤ 7200000000000 ∧ -7200000000000 ≤ d + 604800000000000 then d + 604800000000000 else d
def turn2 (d : Int) : Int := if d - 604800000000000 ≤ 7200000000000 ∧ -7200000000000 ≤ d - 604800000000000 then d - 604800000000000 else d
/-- the distance of a time from an ephemeris' own, or the error -/
def atE (X : Nat → Int) (t : Int) : Int × Int :=
  if errE X ≠ 0 then (0, errE X) else if t < 0 ∨ 604800000000000 ≤ t then (0, 2) else
    if 7200000000000 < turn2 (turn1 (t - X 2 * 1000000000)) ∨ turn2 (turn1 (t - X 2 * 1000000000)) < -7200000000000 then (0, 17) else (turn2 (turn1 (t - X 2 * 1000000000)), 0)
theorem idx2 (x y : Int) (i : Nat) (hi : i < 2) (W : World) : (Instr.index 95 (.agg #[.int .i64 x, .int .i64 y]) (.int .i64 (i : Int))).run Tryd.prog W = .ok (.int .i64 (if i = 0 then x else y)) W := by
  rcases (by omega : i = 0 ∨ i = 1) with rfl | rfl
  · exact (show (Instr.index 95 (.agg #[.int .i64 x, .int .i64 y]) (.int .i64 0)).run Tryd.prog W = .ok (.int .i64 x) W by kernel_rfl)
  · exact (show (Instr.index 95 (.agg #[.int .i64 x, .int .i64 y]) (.int .i64 1)).run Tryd.prog W = .ok (.int .i64 y) W by kernel_rfl)
theorem t0_bd {X : Nat → Int} (h : errE X = 0) : 0 ≤ X 2 ∧ X 2 ≤ 604799 := by
  have h9 := (errE_parts h).1
  unfold hdE at h9
  omega
theorem at28_any (X : Nat → Int) (t : Int) (w : World) : Calls Tryd.prog 34 #[.agg (eV X), .int .i64 t] w fun e w' => e = .returned (.tuple #[.int .i64 (atE X t).1, .int .i64 (atE X t).2]) ∧ Bw w w' := by
  have CK := Lib.hid (fun W => ECheck_any X W)
  have HB := Lib.hid (fun (h : errE X = 0) => t0_bd h)
  have KX := Lib.hid (Blk.new w 25 (eV X))
  have HW := Lib.hid (Bw.alloc (Bw.refl w) (.cells (eV X) 25))
  have HSZ : Hid ((Tryd.prog.info? 25).map (·.size) = some (eV X).size) := Lib.hid (by kernel_rfl)
  have t2 : (eV X)[2]? = some (.int .i64 (X 2)) := rfl
  obtain ⟨g, hg⟩ : ∃ g, w.heap.size = g := ⟨_, rfl⟩
  rw [hg] at KX
  obtain ⟨er, her⟩ : ∃ er, er = errE X := ⟨_, rfl⟩
  have HAT := Lib.hid (show atE X t = if er ≠ 0 then (0, er) else if t < 0 ∨ 604800000000000 ≤ t then (0, 2) else
    if 7200000000000 < turn2 (turn1 (t - X 2 * 1000000000)) ∨ turn2 (turn1 (t - X 2 * 1000000000)) < -7200000000000 then (0, 17) else (turn2 (turn1 (t - X 2 * 1000000000)), 0) by rw [her]; rfl)
  rw [← her] at CK HB
  clear her
  obtain ⟨T0, hT0⟩ : ∃ T0, T0 = X 2 := ⟨_, rfl⟩
  rw [← hT0] at HB HAT t2
  clear hT0
  obtain ⟨R, hR⟩ : ∃ R, R = atE X t := ⟨_, rfl⟩
  rw [← hR] at HAT ⊢
  clear hR
  obtain ⟨A, hA⟩ : ∃ A, A = eV X := ⟨_, rfl⟩
  rw [← hA] at CK KX HW HSZ t2 ⊢
  clear hA
  go_enter Tryd.func34, Tryd.ntmps34
  go_upto_region 1 with fail
  obtain ⟨W0, hW0⟩ : ∃ W0, w.alloc (.cells A 25) = W0 := ⟨_, rfl⟩
  rw [hW0] at KX HW ⊢
  clear hW0 hg
  go_upto_region 2 with (first | ((with_reducible refine at_load 25 (.tmp 2) ?_); refine wpList_load_row rfl 25 _ rfl g rfl 25 A (0, 0) _ KX.out Tryd.underlying25 rfl HSZ.out ?_) | (go_at_call 22; (with_reducible refine Calls.mono (CK.out _) ?_); rintro e1 w1 ⟨rfl, hb1⟩; replace KX := Lib.hid (KX.out.bw hb1); replace HW := Lib.hid (HW.out.trans hb1); clear hb1))
  by_cases c1 : er = 0
  case neg =>
    have c1z : (er != 0) = true := by simpa using c1
    have HR := Lib.hid (HAT.out.trans (if_pos c1))
    clear c1 HAT
    go_wp2
    refine bodyPost_ret (v := .tuple #[.int .i64 0, .int .i64 er]) ?_ rfl ⟨by rw [HR.out], HW.out⟩
    simp [results, Tryd.results34, go_sem]
  have hbd := HB.out c1
  subst c1
  rw [if_neg (by simp)] at HAT
  by_cases c2 : t < 0
  · have HR := Lib.hid (HAT.out.trans (if_pos (Or.inl c2)))
    go_wp2
    refine bodyPost_ret (v := .tuple #[.int .i64 0, .int .i64 2]) ?_ rfl ⟨by rw [HR.out], HW.out⟩
    simp [results, Tryd.results34, go_sem]
  by_cases c3 : 604800000000000 ≤ t
  · have HR := Lib.hid (HAT.out.trans (if_pos (Or.inr c3)))
    go_wp2
    refine bodyPost_ret (v := .tuple #[.int .i64 0, .int .i64 2]) ?_ rfl ⟨by rw [HR.out], HW.out⟩
    simp [results, Tryd.results34, go_sem]
  rw [if_neg (by omega)] at HAT
  have x2 := KX.out.cell t2
  go_upto_region 7 with fail
  obtain ⟨d0, hd0⟩ : ∃ d0, d0 = t - T0 * 1000000000 := ⟨_, rfl⟩
  rw [← hd0] at HAT ⊢
  have hdb : -604800000000000 ≤ d0 ∧ d0 ≤ 604800000000000 := by omega
  clear hd0 x2 hbd c2 c3
  go_wp2
  go_loopg [7, 27] 2 (fun gg s7 s27 wr => ∃ i : Nat, i ≤ 2 ∧ 2 - i ≤ gg ∧ s27 = .int .i64 i ∧ s7 = .int .i64 (if i = 0 then d0 else if i = 1 then turn1 d0 else turn2 (turn1 d0)) ∧ wr = w1)
  case atStart => exact ⟨0, by omega, by omega, rfl, rfl, rfl⟩
  case round =>
    obtain ⟨i, hi, hgg, rfl, rfl, rfl⟩ := hrel
    rcases (by omega : i = 0 ∨ i = 1 ∨ i = 2) with rfl | rfl | rfl
    · show Code.wp _ _ _ _ _
      simp only [if_pos]
      clear HAT
      have ix : ∀ W, (Instr.index 95 (.agg #[.int .i64 604800000000000, .int .i64 (-604800000000000)]) (.int .i64 0)).run Tryd.prog W = .ok (.int .i64 (604800000000000)) W := fun W => by kernel_rfl
      by_cases p : d0 + 604800000000000 ≤ 7200000000000
      · by_cases q : -7200000000000 ≤ d0 + 604800000000000
        · have HN := Lib.hid (show turn1 d0 = d0 + 604800000000000 by unfold turn1; rw [if_pos (by omega)])
          go_wp2
          go_roundg (2 - 1)
          case measure => omega
          case rel => exact ⟨1, by omega, by omega, by go_num, by show _ = Value.int .i64 (turn1 d0); rw [HN.out], rfl⟩
        · have HN := Lib.hid (show turn1 d0 = d0 by unfold turn1; rw [if_neg (by omega)])
          go_wp2
          go_roundg (2 - 1)
          case measure => omega
          case rel => exact ⟨1, by omega, by omega, by go_num, by show _ = Value.int .i64 (turn1 d0); rw [HN.out], rfl⟩
      · have HN := Lib.hid (show turn1 d0 = d0 by unfold turn1; rw [if_neg (by omega)])
        go_wp2
        go_roundg (2 - 1)
        case measure => omega
        case rel => exact ⟨1, by omega, by omega, by go_num, by show _ = Value.int .i64 (turn1 d0); rw [HN.out], rfl⟩
    · simp only [Nat.one_ne_zero, if_false, if_pos]
      have hd1b : -604800000000000 ≤ turn1 d0 ∧ turn1 d0 ≤ 604800000000000 := by unfold turn1; split <;> omega
      obtain ⟨d1, hd1⟩ : ∃ d1, turn1 d0 = d1 := ⟨_, rfl⟩
      rw [hd1] at hd1b ⊢
      have HD1 := Lib.hid hd1
      clear HAT hd1
      have ix : ∀ W, (Instr.index 95 (.agg #[.int .i64 604800000000000, .int .i64 (-604800000000000)]) (.int .i64 1)).run Tryd.prog W = .ok (.int .i64 (-604800000000000)) W := fun W => by kernel_rfl
      by_cases p : d1 + -604800000000000 ≤ 7200000000000
      · by_cases q : -7200000000000 ≤ d1 + -604800000000000
        · have HN := Lib.hid (show turn2 d1 = d1 + -604800000000000 by unfold turn2; rw [if_pos (by omega)]; omega)
          go_wp2
          go_roundg (2 - 2)
          case measure => omega
          case rel => exact ⟨2, by omega, by omega, by go_num, by show _ = Value.int .i64 (turn2 (turn1 d0)); rw [HD1.out, HN.out], rfl⟩
        · have HN := Lib.hid (show turn2 d1 = d1 by unfold turn2; rw [if_neg (by omega)])
          go_wp2
          go_roundg (2 - 2)
          case measure => omega
          case rel => exact ⟨2, by omega, by omega, by go_num, by show _ = Value.int .i64 (turn2 (turn1 d0)); rw [HD1.out, HN.out], rfl⟩
      · have HN := Lib.hid (show turn2 d1 = d1 by unfold turn2; rw [if_neg (by omega)])
        go_wp2
        go_roundg (2 - 2)
        case measure => omega
        case rel => exact ⟨2, by omega, by omega, by go_num, by show _ = Value.int .i64 (turn2 (turn1 d0)); rw [HD1.out, HN.out], rfl⟩
    · have hd2b : -1300000000000000 ≤ turn2 (turn1 d0) ∧ turn2 (turn1 d0) ≤ 1300000000000000 := by unfold turn2 turn1; split <;> split <;> omega
      simp only [show ¬ (2 : Nat) = 0 from by decide, show ¬ (2 : Nat) = 1 from by decide, if_false]
      generalize turn2 (turn1 d0) = d2 at *
      by_cases p : 7200000000000 < d2
      · rw [if_pos (Or.inl p)] at HAT
        have HR := HAT
        clear HAT
        go_wp2
        refine bodyPost_ret (v := .tuple #[.int .i64 0, .int .i64 17]) ?_ rfl ⟨by rw [HR.out], HW.out⟩
        simp [results, Tryd.results34, go_sem]
      by_cases q : d2 < -7200000000000
      · rw [if_pos (Or.inr q)] at HAT
        have HR := HAT
        clear HAT
        go_wp2
        refine bodyPost_ret (v := .tuple #[.int .i64 0, .int .i64 17]) ?_ rfl ⟨by rw [HR.out], HW.out⟩
        simp [results, Tryd.results34, go_sem]
      · rw [if_neg (by omega)] at HAT
        have HR := HAT
        clear HAT
        go_wp2
        refine bodyPost_ret (v := .tuple #[.int .i64 d2, .int .i64 0]) ?_ rfl ⟨by rw [HR.out], HW.out⟩
        simp [results, Tryd.results34, go_sem]
end Go.Proofs.Sky

namespace Go.Proofs.Sky
def rndQ (S P : Int) : Int := if S < 0 then -((2 * -S + P) / 2 / P) else (2 * S + P) / 2 / P
end Go.Proofs.Sky

namespace Go.Proofs.Sky
open Go Go.RowKit Go.Shelf
set_option maxHeartbeats 2000000
set_option maxRecDepth 8000
/-! chapter 28, plain: what the wide numbers amount to -/
theorem over_q (x : Wn) (V : Nat) (hV : 0 < V) : overR x.1 x.2 V = rndQ (zW x) V := by
  obtain ⟨s, N⟩ := x
  have h1 : (N + N + V) / (V + V) = (2 * N + V) / 2 / V := by rw [Nat.div_div_eq_div_mul]; congr 1 <;> omega
  have h2 : ((2 * (N : Int) + V) / 2 / V) = (((2 * N + V) / 2 / V : Nat) : Int) := by push_cast; rfl
  unfold overR rndQ zW
  dsimp only
  cases s with
  | false =>
    simp only [if_neg (show ¬ (false = true) by decide), Bool.false_eq_true, if_false]
    rw [if_neg (by omega), h1, h2]
  | true =>
    simp only [if_true]
    by_cases h0 : N = 0
    · subst h0
      rw [h1]
      have h3 : (2 * 0 + V) / 2 / V = 0 := Nat.div_eq_of_lt (by omega)
      rw [h3] at h2 ⊢
      rw [if_neg (by simp)]
      simp at h2 ⊢
      exact h2.symm
    · rw [if_pos (by omega), h1, Int.neg_neg, h2]
theorem mag_step {x y : Wn} {d : Int} {A B D : Nat} (hx : x.2 ≤ A) (hy : y.2 ≤ B) (hd : d.natAbs ≤ D) : (timesW x d).2 ≤ A * D ∧ (plusW (timesW x d) y).2 ≤ A * D + B := by
  have h1 : (timesW x d).2 ≤ A * D := Nat.mul_le_mul hx hd
  exact ⟨h1, Nat.le_trans (plusW_le _ _) (Nat.add_le_add h1 hy)⟩
theorem secW_mag {x : Wn} {A : Nat} (h : x.2 ≤ A) : ∀ j, (secW j x).2 ≤ A * 1000000000 ^ j
  | 0 => by rw [Nat.pow_zero, Nat.mul_one]; exact h
  | j + 1 => by
    show (secW j x).2 * 1000000000 ≤ _
    rw [Nat.pow_succ, ← Nat.mul_assoc]
    exact Nat.mul_le_mul (secW_mag h j) (Nat.le_refl _)
theorem secW_z (x : Wn) : ∀ j, zW (secW j x) = zW x * 1000000000 ^ j
  | 0 => by rw [Int.pow_zero, Int.mul_one]; rfl
  | j + 1 => by
    show zW (timesW (secW j x) 1000000000) = _
    rw [zW_times, secW_z x j, Int.pow_succ, Int.mul_assoc]
theorem lW_mag {cs shs : List Int} {n i : Nat} {A : Nat} {sh : Nat} (hc : (cs.getD i 0).natAbs ≤ A) (hs : (shs.getD i 0).toNat = sh) : (lW cs shs n i).2 ≤ A * 2 ^ sh * 1000000000 ^ (n - 1 - i) := by
  unfold lW
  refine secW_mag ?_ _
  rw [hs]
  show (cs.getD i 0).natAbs * ((2 : Int) ^ sh).natAbs ≤ _
  rw [Int.natAbs_pow]
  exact Nat.mul_le_mul hc (Nat.le_refl _)
theorem lW_z {cs shs : List Int} {n i : Nat} : zW (lW cs shs n i) = cs.getD i 0 * 2 ^ (shs.getD i 0).toNat * 1000000000 ^ (n - 1 - i) := by
  unfold lW
  rw [secW_z, zW_times, zW_of]
theorem unitW_2 (p s : Nat) : (unitW p s).2 = 2 ^ s * 1000000000 ^ p := by
  unfold unitW
  have h : ∀ (x : Wn) (j : Nat), (secW j x).2 = x.2 * 1000000000 ^ j := by
    intro x j
    induction j with
    | zero => rw [Nat.pow_zero, Nat.mul_one]; rfl
    | succ j ih => show (secW j x).2 * 1000000000 = _; rw [ih, Nat.pow_succ, Nat.mul_assoc]
  rw [h]
  show ((2 : Int) ^ s).natAbs * _ = _
  rw [Int.natAbs_pow]
  rfl
/-- four coefficients of a place, by their greatest absolute values -/
theorem place4 {c0 c1 c2 c3 d : Int} (h0 : c0.natAbs ≤ 2147483648) (h1 : c1.natAbs ≤ 8388608) (h2 : c2.natAbs ≤ 2097152) (h3 : c3.natAbs ≤ 8388608) (hd : d.natAbs ≤ 7200000000000) :
    (∀ i, i + 1 < 4 → (timesW (hW d ((xsW [c0, c1, c2, c3] [30, 26, 16, 0] 4).drop (i + 1))) d).2 < M256 ∧ ((xsW [c0, c1, c2, c3] [30, 26, 16, 0] 4).getD i (false, 0)).2 < M256) ∧
      (hW d (xsW [c0, c1, c2, c3] [30, 26, 16, 0] 4)).2 ≤ 17000000000000000000000000000000000000000000000 := by
  have a0 := lW_mag (cs := [c0, c1, c2, c3]) (shs := [30, 26, 16, 0]) (n := 4) (i := 0) (sh := 30) h0 rfl
  have a1 := lW_mag (cs := [c0, c1, c2, c3]) (shs := [30, 26, 16, 0]) (n := 4) (i := 1) (sh := 26) h1 rfl
  have a2 := lW_mag (cs := [c0, c1, c2, c3]) (shs := [30, 26, 16, 0]) (n := 4) (i := 2) (sh := 16) h2 rfl
  have a3 := lW_mag (cs := [c0, c1, c2, c3]) (shs := [30, 26, 16, 0]) (n := 4) (i := 3) (sh := 0) h3 rfl
  have e : xsW [c0, c1, c2, c3] [30, 26, 16, 0] 4 = [lW [c0, c1, c2, c3] [30, 26, 16, 0] 4 0, lW [c0, c1, c2, c3] [30, 26, 16, 0] 4 1, lW [c0, c1, c2, c3] [30, 26, 16, 0] 4 2, lW [c0, c1, c2, c3] [30, 26, 16, 0] 4 3] := rfl
  rw [e]
  generalize lW [c0, c1, c2, c3] [30, 26, 16, 0] 4 0 = x0 at *
  generalize lW [c0, c1, c2, c3] [30, 26, 16, 0] 4 1 = x1 at *
  generalize lW [c0, c1, c2, c3] [30, 26, 16, 0] 4 2 = x2 at *
  generalize lW [c0, c1, c2, c3] [30, 26, 16, 0] 4 3 = x3 at *
  obtain ⟨m3, s3⟩ := mag_step a3 a2 hd
  obtain ⟨m2, s2⟩ := mag_step s3 a1 hd
  obtain ⟨m1, s1⟩ := mag_step s2 a0 hd
  refine ⟨fun i hi => ?_, Nat.le_trans (show (hW d [x0, x1, x2, x3]).2 ≤ _ from s1) (by decide)⟩
  rcases (by omega : i = 0 ∨ i = 1 ∨ i = 2) with rfl | rfl | rfl
  · exact ⟨Nat.lt_of_le_of_lt (show (timesW (hW d [x1, x2, x3]) d).2 ≤ _ from m1) (by decide), Nat.lt_of_le_of_lt a0 (by decide)⟩
  · exact ⟨Nat.lt_of_le_of_lt (show (timesW (hW d [x2, x3]) d).2 ≤ _ from m2) (by decide), Nat.lt_of_le_of_lt a1 (by decide)⟩
  · exact ⟨Nat.lt_of_le_of_lt (show (timesW (hW d [x3]) d).2 ≤ _ from m3) (by decide), Nat.lt_of_le_of_lt a2 (by decide)⟩
theorem place4_z (c0 c1 c2 c3 d : Int) : zW (hW d (xsW [c0, c1, c2, c3] [30, 26, 16, 0] 4)) = c0 * 16 * 1000000000 * 1000000000 * 1000000000 * 67108864 + c1 * d * 1000000000 * 1000000000 * 67108864 + c2 * d * d * 1000000000 * 65536 + c3 * d * d * d := by
  have e : xsW [c0, c1, c2, c3] [30, 26, 16, 0] 4 = [lW [c0, c1, c2, c3] [30, 26, 16, 0] 4 0, lW [c0, c1, c2, c3] [30, 26, 16, 0] 4 1, lW [c0, c1, c2, c3] [30, 26, 16, 0] 4 2, lW [c0, c1, c2, c3] [30, 26, 16, 0] 4 3] := rfl
  rw [e]
  show zW (plusW (timesW (plusW (timesW (plusW (timesW (lW [c0, c1, c2, c3] [30, 26, 16, 0] 4 3) d) (lW [c0, c1, c2, c3] [30, 26, 16, 0] 4 2)) d) (lW [c0, c1, c2, c3] [30, 26, 16, 0] 4 1)) d) (lW [c0, c1, c2, c3] [30, 26, 16, 0] 4 0)) = _
  simp only [zW_plus, zW_times, lW_z]
  show ((c3 * 2 ^ 0 * 1000000000 ^ 0 * d + c2 * 2 ^ 16 * 1000000000 ^ 1) * d + c1 * 2 ^ 26 * 1000000000 ^ 2) * d + c0 * 2 ^ 30 * 1000000000 ^ 3 = _
  simp only [Int.add_mul]
  have f3 : c3 * 2 ^ 0 * 1000000000 ^ 0 * d * d * d = c3 * d * d * d := by simp
  have f2 : c2 * 2 ^ 16 * 1000000000 ^ 1 * d * d = c2 * d * d * 65536000000000 := by
    rw [show c2 * 2 ^ 16 * 1000000000 ^ 1 = c2 * 65536000000000 by rw [Int.mul_assoc]; rfl, Int.mul_right_comm c2, Int.mul_right_comm (c2 * d)]
  have f1 : c1 * 2 ^ 26 * 1000000000 ^ 2 * d = c1 * d * 67108864000000000000000000 := by
    rw [show c1 * 2 ^ 26 * 1000000000 ^ 2 = c1 * 67108864000000000000000000 by rw [Int.mul_assoc]; rfl, Int.mul_right_comm c1]
  have f0 : c0 * 2 ^ 30 * 1000000000 ^ 3 = c0 * 1073741824000000000000000000000000000 := by rw [Int.mul_assoc]; rfl
  rw [f3, f2, f1, f0]
  generalize c3 * d * d * d = P3
  generalize c2 * d * d = P2
  generalize c1 * d = P1
  omega
end Go.Proofs.Sky
