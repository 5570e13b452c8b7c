/-
  lemmas for the theorems of this claim. No conditions beyond those written in the statements.
-/
import Derived.Test.YtgeojbmhkmmedaaE28
import Derived.Deep.CutRange
import Derived.Test.YtgeojbmhkmmedaaP28
import Derived.Test.YtgeojbmhkmmedaaProg
import Derived.Test.YtgeojbmhkmmedaaRdAt
import Derived.Test.YtgeojbmhkmmedaaAppP
import Derived.Test.YtgeojbmhkmmedaaHeld
import Derived.Test.YtgeojbmhkmmedaaBits
import Derived.Deep.Cut
set_option linter.unusedVariables false
set_option linter.unusedSimpArgs false
set_option linter.unnecessarySimpa false
namespace Go.Proofs.Sky
open Go Go.RowKit Go.Shelf
set_option maxHeartbeats 2000000
set_option maxRecDepth 8000
/-! chapter 28: valued -/
theorem zeroTW (w : World) : (zeroValue 51).run Try.prog w = .ok (.agg #[.bool false, .int .u64 0, .int .u64 0, .int .u64 0, .int .u64 0]) w := by kernel_rfl
theorem infoWn : (Try.prog.info? 51).map (fun i => (i.zero, i.size, i.bytes)) = some (some (.agg #[.bool false, .int .u64 0, .int .u64 0, .int .u64 0, .int .u64 0]), 5, 40) := by kernel_rfl
section
variable {ops : Array Oper} {rest : List Oper} {o : Oper} {a : Act} {w : World} {K : Act → World → Prop} {Q : Exit → Act → World → Prop}
theorem blk_newW {w : World} {b : Nat} {T : TypeId} {f : Wn} (hb : Blk w b T (nV f.1 f.2)) : ∀ (j : Nat) (u : Value), (wcs f)[j]? = some u → w.cell? ((⟨b, 0, none⟩ : Addr).add j) = some u := fun j u hu => by
  have h := hb.cell (j := j) (v := u) (by simpa [wcs] using hu)
  have e : (⟨b, 0, none⟩ : Addr).add j = ⟨b, j, none⟩ := by
    have h1 : ∀ off : Nat, (⟨b, off, none⟩ : Addr).add j = ⟨b, off + j, none⟩ := fun off => by simp [Addr.add]
    rw [h1, Nat.zero_add]
  rw [e]; exact h
theorem wcs_one (f : Wn) : ∀ u ∈ wcs f, u.oneCell' = true := fun u hu => by
  simp only [wcs, nV, wV, List.mem_cons, List.not_mem_nil, or_false] at hu
  rcases hu with rfl | rfl | rfl | rfl | rfl <;> rfl
theorem wpList_append_wn (hgd : o.guard = none) (s x : Operand) (t : TypeId)
    (ho : o.op = .call { callee := .builtin .append, args := #[s, x], argTypes := #[t, t] })
    (base : Nat) (ht : Try.prog.underlying t = some (.slice 51))
    (v : Value) (n : Nat) (fs : List Wn) (hfn : fs.length = n) (f : Wn) (hs : a.eval s = v) (hown : w.ownsRow base 51 5 v n (flatW fs))
    (b : Nat) (T : TypeId) (hx : a.eval x = .slice (some ⟨b, 0, none⟩) 1 1) (hb : Blk w b T (nV f.1 f.2))
    (hn : n + 1 ≤ 1000000) (hbase : base ≤ w.heap.size)
    (h : ∀ v' w', w'.ownsRow base 51 5 v' (n + 1) (flatW (fs ++ [f])) → w.grownBy w' v.ownBlock → wpList Try.prog ops Q rest (a.put o.dst v') w') : wpList Try.prog ops Q (o :: rest) a w := by
  obtain ⟨i, hi, hzz⟩ := Option.map_eq_some_iff.1 infoWn
  simp only [Prod.mk.injEq] at hzz
  obtain ⟨hz0, hz1, hz2⟩ := hzz
  refine wpList_append_own w hgd s x t ho base 51 i _ 5 40 ht hi hz0 hz1 hz2 rfl (by decide) v n (flatW fs) hs hown ⟨b, 0, none⟩ 1 1 (wcs f) hx rfl (blk_newW hb) (wcs_one f) (by unfold maxLen; omega) (by omega) hbase (fun v' w' h2 h3 _ => h v' w' ?_ h3)
  rw [flatW_append, flatW_one]; exact h2
end
def secW : Nat → Wn → Wn
  | 0, x => x
  | j + 1, x => timesW (secW j x) 1000000000
/-- the coefficient i of n, brought to the common denominator -/
def lW (cs shs : List Int) (n i : Nat) : Wn := secW (n - 1 - i) (timesW (ofW (cs.getD i 0)) (2 ^ (shs.getD i 0).toNat))
def xsW (cs shs : List Int) (n : Nat) : List Wn := (List.range n).map (lW cs shs n)
theorem pow62 {n : Nat} (h : n ≤ 62) : -9000000000000000000 ≤ (2 : Int) ^ n ∧ (2 : Int) ^ n ≤ 9000000000000000000 := by
  have h1 : (2 : Nat) ^ n ≤ 2 ^ 62 := Nat.pow_le_pow_right (by decide) h
  have h2 : (2 : Int) ^ n = ((2 ^ n : Nat) : Int) := by push_cast; rfl
  rw [h2]
  have h3 : (2 : Nat) ^ 62 = 4611686018427387904 := by decide
  rw [h3] at h1
  generalize (2 : Nat) ^ n = m at *
  omega
theorem valued_any (cs shs : List Int) (d : Int) (v vs : Value) (w : World) (hv : RdI w v cs) (hs : RdI w vs shs) (h0 : 0 < cs.length) (h1 : cs.length ≤ 100) (hl : shs.length = cs.length)
    (hc : ∀ i, i < cs.length → -9000000000000000000 ≤ cs.getD i 0 ∧ cs.getD i 0 ≤ 9000000000000000000) (hsh : ∀ i, i < cs.length → 0 ≤ shs.getD i 0 ∧ shs.getD i 0 ≤ 62)
    (hd : -9000000000000000000 ≤ d ∧ d ≤ 9000000000000000000)
    (hb : ∀ i, i + 1 < cs.length → (timesW (hW d ((xsW cs shs cs.length).drop (i + 1))) d).2 < M256 ∧ ((xsW cs shs cs.length).getD i (false, 0)).2 < M256) :
    Calls Try.prog 22 #[v, vs, .int .i64 d] w fun e w' => e = .returned (.agg (nV (hW d (xsW cs shs cs.length)).1 (hW d (xsW cs shs cs.length)).2)) ∧ Bw w w' := by
  obtain ⟨n, hn⟩ : ∃ n, n = cs.length := ⟨_, rfl⟩
  have hxl : (xsW cs shs n).length = n := by simp [xsW]
  have HO : Hid (∀ W v', RdW W v' (xsW cs shs n) → Calls Try.prog 41 #[v', .int .i64 d, .func (.func 31) #[] #[], .func (.func 42) #[] #[]] W fun e w' => e = .returned (.agg (nV (hW d (xsW cs shs n)).1 (hW d (xsW cs shs n)).2)) ∧ Bw W w') := Lib.hid (fun W v' hr => horner_any (xsW cs shs n) d v' W hr (by rw [hxl]; omega) (by rw [hxl]; omega) hd (by rw [hxl, hn]; exact hb))
  rw [← hn] at hc hsh h0 h1 hl ⊢
  obtain ⟨ad, cap, rfl⟩ := hv.form
  obtain ⟨ads, caps, rfl⟩ := hs.form
  rw [hl] at hs ⊢
  rw [← hn] at hv ⊢
  have HV := Lib.hid hv
  have HVS := Lib.hid hs
  have HC := Lib.hid hc
  have HSHB := Lib.hid hsh
  have HN := Lib.hid (And.intro hn hl)
  clear hv hs hc hsh hn hl hb hd
  obtain ⟨RES, hRES⟩ : ∃ RES, RES = hW d (xsW cs shs n) := ⟨_, rfl⟩
  rw [← hRES] at HO ⊢
  clear hRES
  have KR := Lib.hid (Blk.new w 51 #[.bool false, .int .u64 0, .int .u64 0, .int .u64 0, .int .u64 0])
  have HW := Lib.hid (Bw.alloc (Bw.refl w) (.cells #[.bool false, .int .u64 0, .int .u64 0, .int .u64 0, .int .u64 0] 51))
  obtain ⟨g, hg⟩ : ∃ g, w.heap.size = g := ⟨_, rfl⟩
  have HS0 := Lib.hid (show (w.alloc (.cells #[.bool false, .int .u64 0, .int .u64 0, .int .u64 0, .int .u64 0] 51)).heap.size = g + 1 by rw [World.size_alloc, hg])
  rw [hg] at KR
  have HG := Lib.hid hg
  go_enter Try.func22, Try.ntmps22
  go_upto_region 1 with fail
  obtain ⟨W0, hW0⟩ : ∃ W0, w.alloc (.cells #[.bool false, .int .u64 0, .int .u64 0, .int .u64 0, .int .u64 0] 51) = W0 := ⟨_, rfl⟩
  rw [hW0] at KR HW HS0 ⊢
  clear hW0 hg
  go_wp2
  go_loopg [7, 14] n (fun gg s7 s14 wr => ∃ i : Nat, i ≤ n ∧ n - i ≤ gg ∧ s14 = .int .i64 i ∧ Hid (Bw W0 wr) ∧ Hid (wr.ownsRow (g + 1) 51 5 s7 i (flatW ((List.range i).map (lW cs shs n)))))
  case atStart => exact ⟨0, by omega, by omega, rfl, Lib.hid (Bw.refl _), Lib.hid (World.ownsRow_nil _ _ _ _)⟩
  case round =>
    obtain ⟨i, hi, hgg, rfl, HWC, HOW⟩ := hrel
    obtain ⟨wb, rfl⟩ : ∃ wb, wb = wr := ⟨_, rfl⟩
    by_cases c3 : i < n
    case neg =>
      have c3z : ¬ (i : Int) < n := by omega
      obtain rfl : i = n := by omega
      have HRW := Lib.hid (show RdW wb u7 (xsW cs shs i) from own_rdW (by rw [hxl]; exact HOW.out))
      replace KR := Lib.hid (KR.out.bw HWC.out)
      replace HW := Lib.hid (HW.out.trans HWC.out)
      go_wp2_with (first | (go_at_call 41; (with_reducible refine Calls.mono (HO.out _ _ HRW.out) ?_); rintro e1 w7 ⟨rfl, hb1⟩; replace KR := Lib.hid (KR.out.bw hb1); replace HW := Lib.hid (HW.out.trans hb1); clear hb1) | ((with_reducible refine at_store 51 (.tmp 6) (.tmp 44) ?_); refine wpList_store_row rfl 51 (.tmp 6) (.tmp 44) rfl g (nV RES.1 RES.2) rfl rfl 51 _ KR.out (by kernel_rfl) rfl (nV_one _ _) ?_))
      have F9 := KR.out.row (nV RES.1 RES.2)
      have B9 := Bw.setRow HW.out (show w.heap.size ≤ g by have := HG.out; omega) (nV RES.1 RES.2)
      refine bodyPost_ret (v := .agg (nV RES.1 RES.2)) ?_ rfl ⟨rfl, B9⟩
      exact results_cell_row (p := 6) rfl _ _ g _ _ (0, 0) _ rfl F9 Try.underlying51 rfl (by kernel_rfl)
    case pos =>
      have c3z : (i : Int) < n := by omega
      have hi0 : (0 : Int) ≤ i := by omega
      obtain ⟨bc, oc, cc, hvc, _, hcc⟩ := (HV.out.mono (HW.out.trans HWC.out)).at (by have := HN.out; omega)
      injection hvc with i1 i2 i3
      subst i1
      clear i2 i3
      have cc0 := hcc i (by have := HN.out; omega)
      clear hcc
      obtain ⟨bs, os, css, hvs, _, hcs⟩ := (HVS.out.mono (HW.out.trans HWC.out)).at (by have := HN.out; omega)
      injection hvs with i1 i2 i3
      subst i1
      clear i2 i3
      have shc := hcs i (by have := HN.out; omega)
      clear hcs
      obtain ⟨C, hC⟩ : ∃ C, C = cs.getD i 0 := ⟨_, rfl⟩
      obtain ⟨sn, hsn⟩ : ∃ sn : Nat, shs.getD i 0 = (sn : Int) := ⟨(shs.getD i 0).toNat, by have := HSHB.out i c3; omega⟩
      have hsn62 : sn ≤ 62 := by have := HSHB.out i c3; omega
      have HLW := Lib.hid (show lW cs shs n i = secW (n - 1 - i) (timesW (ofW C) (2 ^ sn)) by unfold lW; rw [hC, hsn]; rfl)
      have hCb := HC.out i c3
      rw [← hC] at cc0 hCb
      rw [hsn] at shc
      clear hC hsn
      have OF : Hid (∀ W, Calls Try.prog 40 #[.int .i64 C] W fun e w' => e = .returned (.agg (nV (ofW C).1 (ofW C).2)) ∧ Bw W w') := Lib.hid (fun W => of28_any C W hCb)
      have TM := Lib.hid (fun W => times28 (ofW C) (2 ^ sn) (pow62 hsn62) W)
      obtain ⟨X1, hX1⟩ : ∃ X1, X1 = timesW (ofW C) (2 ^ sn) := ⟨_, rfl⟩
      rw [← hX1] at TM HLW
      clear hX1 hCb
      generalize ofW C = O1 at *
      obtain ⟨PW, hPW⟩ : ∃ PW : Int, PW = 2 ^ sn := ⟨_, rfl⟩
      rw [← hPW] at TM
      have hwp : IntKind.i64.wrap ((2 : Int) ^ sn) = PW := by
        have h9 := pow62 hsn62
        rw [hPW, IntKind.wrap_i64]
        generalize (2 : Int) ^ sn = m at *
        omega
      clear hPW
      have hsn0 : (0 : Int) ≤ sn := by omega
      go_upto_region 5 with fail
      clear cc0
      go_cut [10] from 45 (fun s10 wx => ∃ g10, s10 = .pointer (some ⟨g10, 0, none⟩) ∧ wb.heap.size ≤ g10 ∧ Hid (Bw wb wx) ∧ Hid (Blk wx g10 51 (nV X1.1 X1.2)))
      case first =>
        refine wp_region_held_drew (S := Bw wb) (by kernel_rfl) (Bw.drew (Bw.refl _)) (fun hS => ?_)
        generalize World.drew _ = wd at hS ⊢
        refine take1 (i := 0) (some 19) rfl rfl (by kernel_rfl) (by kernel_rfl) (by kernel_rfl) (fun _ _ _ _ h => h) rfl hS ?_
        apply Exists.intro
        apply And.intro
        · intro W9 hW9; have y0 := hW9.cell' shc; go_simp; try with_reducible rfl
        simp only [Act.put, List.setIfInBounds_toArray, List.set_cons_zero, List.set_cons_succ]
        refine take1 (i := 2) (some 21) rfl rfl (by kernel_rfl) (by kernel_rfl) (by kernel_rfl) (fun _ _ _ _ h => h) rfl hS ?_
        apply Exists.intro
        apply And.intro
        · intro W9 hW9; have y0 := hW9.cell' shc; go_simp; try with_reducible rfl
        simp only [Act.put, List.setIfInBounds_toArray, List.set_cons_zero, List.set_cons_succ]
        refine take1 (i := 3) (some 22) rfl rfl (by kernel_rfl) (by kernel_rfl) (by kernel_rfl) (fun _ _ _ _ h => h) rfl hS ?_
        apply Exists.intro
        apply And.intro
        · intro W9 hW9; have y0 := hW9.cell' shc; go_simp; try with_reducible rfl
        simp only [Act.put, List.setIfInBounds_toArray, List.set_cons_zero, List.set_cons_succ]
        refine take1 (i := 4) (some 23) rfl rfl (by kernel_rfl) (by kernel_rfl) (by kernel_rfl) (fun _ _ _ _ h => h) rfl hS ?_
        apply Exists.intro
        apply And.intro
        · intro W9 hW9; have y0 := hW9.cell' shc; go_simp; try with_reducible rfl
        simp only [Act.put, List.setIfInBounds_toArray, List.set_cons_zero, List.set_cons_succ]
        refine take1 (i := 5) (some 24) rfl rfl (by kernel_rfl) (by kernel_rfl) (by kernel_rfl) (fun _ _ _ _ h => h) rfl hS ?_
        apply Exists.intro
        apply And.intro
        · intro W9 hW9; have y0 := hW9.cell' shc; go_simp; try with_reducible rfl
        simp only [Act.put, List.setIfInBounds_toArray, List.set_cons_zero, List.set_cons_succ]
        refine take1 (i := 6) (some 25) rfl rfl (by kernel_rfl) (by kernel_rfl) (by kernel_rfl) (fun _ _ _ _ h => h) rfl hS ?_
        refine Exists.intro (.int .i64 PW) ?_
        apply And.intro
        · intro W9 hW9; have y0 := hW9.cell' shc; go_simp; (try with_reducible rfl); (try trivial)
        simp only [Act.put, List.setIfInBounds_toArray, List.set_cons_zero, List.set_cons_succ]
        refine wpAnyH_ready (rs := [1, 8]) (by kernel_rfl) (by simp) ?_
        refine AllReadyH.cons rfl (fun K hK => ?_) ?_
        go_simp
        go_wp2_with (go_at_call 40; (with_reducible refine Calls.mono (OF.out _) ?_); rintro e1 w13 ⟨rfl, hb13⟩)
        refine hK.out _ _ (hS.trans hb13) (fun hS => ?_)
        clear hK K
        clear hb13
        refine wpAnyH_ready (rs := [7, 8]) (by kernel_rfl) (by simp) ?_
        refine AllReadyH.cons rfl (fun K hK => ?_) ?_
        go_simp
        go_wp2_with (go_at_call 31; (with_reducible refine Calls.mono (TM.out _) ?_); rintro e1 w14 ⟨rfl, hb13⟩)
        refine hK.out _ _ (hS.trans hb13) (fun hS => ?_)
        clear hK K
        clear hb13
        refine wpAnyH_ready (rs := [8]) (by kernel_rfl) (by simp) ?_
        refine AllReadyH.cons rfl (fun K hK => ?_) ?_
        rw [if_pos (by rfl)]
        refine wp_alloc_new28 51 rfl (some 10) rfl _ (zeroTW _) ?_
        intro g10 w5 hg5 hN hbw
        simp only [Act.put, List.setIfInBounds_toArray, List.set_cons_zero, List.set_cons_succ]
        have KT := Lib.hid hN
        have HT5 := Lib.hid (Nat.le_trans hS.size hg5)
        clear hN
        refine hK.out _ _ (hS.trans hbw) (fun hS => ?_)
        clear hK K
        clear hbw hg5
        refine wpAnyH_ready (rs := [9]) (by kernel_rfl) (by simp) ?_
        refine AllReadyH.cons rfl (fun K hK => ?_) ?_
        rw [if_pos (by rfl)]
        refine wp_store_row0 51 _ _ rfl rfl g10 (nV X1.1 X1.2) rfl rfl 51 #[.bool false, .int .u64 0, .int .u64 0, .int .u64 0, .int .u64 0] KT.out (by kernel_rfl) rfl (nV_one _ _) ?_
        replace KT := Lib.hid (KT.out.row (nV X1.1 X1.2))
        refine hK.out _ _ (Bw.setRow hS HT5.out (nV X1.1 X1.2)) (fun hS => ?_)
        clear hK K
        refine wpAnyH_done (by kernel_rfl) ?_ _
        rotate_left
        exact AllReadyH.nil
        exact AllReadyH.nil
        refine AllReadyH.cons rfl (fun K hK => ?_) ?_
        rw [if_pos (by rfl)]
        refine wp_alloc_new28 51 rfl (some 10) rfl _ (zeroTW _) ?_
        intro g10 w5 hg5 hN hbw
        simp only [Act.put, List.setIfInBounds_toArray, List.set_cons_zero, List.set_cons_succ]
        have KT := Lib.hid hN
        have HT5 := Lib.hid (Nat.le_trans hS.size hg5)
        clear hN
        refine hK.out _ _ (hS.trans hbw) (fun hS => ?_)
        clear hK K
        clear hbw hg5
        refine wpAnyH_ready (rs := [7]) (by kernel_rfl) (by simp) ?_
        refine AllReadyH.cons rfl (fun K hK => ?_) ?_
        go_simp
        go_wp2_with (go_at_call 31; (with_reducible refine Calls.mono (TM.out _) ?_); rintro e1 w14 ⟨rfl, hb13⟩)
        replace KT := Lib.hid (KT.out.bw hb13)
        refine hK.out _ _ (hS.trans hb13) (fun hS => ?_)
        clear hK K
        clear hb13
        refine wpAnyH_ready (rs := [9]) (by kernel_rfl) (by simp) ?_
        refine AllReadyH.cons rfl (fun K hK => ?_) ?_
        rw [if_pos (by rfl)]
        refine wp_store_row0 51 _ _ rfl rfl g10 (nV X1.1 X1.2) rfl rfl 51 #[.bool false, .int .u64 0, .int .u64 0, .int .u64 0, .int .u64 0] KT.out (by kernel_rfl) rfl (nV_one _ _) ?_
        replace KT := Lib.hid (KT.out.row (nV X1.1 X1.2))
        refine hK.out _ _ (Bw.setRow hS HT5.out (nV X1.1 X1.2)) (fun hS => ?_)
        clear hK K
        refine wpAnyH_done (by kernel_rfl) ?_ _
        rotate_left
        exact AllReadyH.nil
        exact AllReadyH.nil
        exact AllReadyH.nil
        refine AllReadyH.cons rfl (fun K hK => ?_) ?_
        rw [if_pos (by rfl)]
        refine wp_alloc_new28 51 rfl (some 10) rfl _ (zeroTW _) ?_
        intro g10 w5 hg5 hN hbw
        simp only [Act.put, List.setIfInBounds_toArray, List.set_cons_zero, List.set_cons_succ]
        have KT := Lib.hid hN
        have HT5 := Lib.hid (Nat.le_trans hS.size hg5)
        clear hN
        refine hK.out _ _ (hS.trans hbw) (fun hS => ?_)
        clear hK K
        clear hbw hg5
        refine wpAnyH_ready (rs := [1]) (by kernel_rfl) (by simp) ?_
        refine AllReadyH.cons rfl (fun K hK => ?_) ?_
        go_simp
        go_wp2_with (go_at_call 40; (with_reducible refine Calls.mono (OF.out _) ?_); rintro e1 w13 ⟨rfl, hb13⟩)
        replace KT := Lib.hid (KT.out.bw hb13)
        refine hK.out _ _ (hS.trans hb13) (fun hS => ?_)
        clear hK K
        clear hb13
        refine wpAnyH_ready (rs := [7]) (by kernel_rfl) (by simp) ?_
        refine AllReadyH.cons rfl (fun K hK => ?_) ?_
        go_simp
        go_wp2_with (go_at_call 31; (with_reducible refine Calls.mono (TM.out _) ?_); rintro e1 w14 ⟨rfl, hb13⟩)
        replace KT := Lib.hid (KT.out.bw hb13)
        refine hK.out _ _ (hS.trans hb13) (fun hS => ?_)
        clear hK K
        clear hb13
        refine wpAnyH_ready (rs := [9]) (by kernel_rfl) (by simp) ?_
        refine AllReadyH.cons rfl (fun K hK => ?_) ?_
        rw [if_pos (by rfl)]
        refine wp_store_row0 51 _ _ rfl rfl g10 (nV X1.1 X1.2) rfl rfl 51 #[.bool false, .int .u64 0, .int .u64 0, .int .u64 0, .int .u64 0] KT.out (by kernel_rfl) rfl (nV_one _ _) ?_
        replace KT := Lib.hid (KT.out.row (nV X1.1 X1.2))
        refine hK.out _ _ (Bw.setRow hS HT5.out (nV X1.1 X1.2)) (fun hS => ?_)
        clear hK K
        refine wpAnyH_done (by kernel_rfl) ?_ _
        rotate_left
        exact AllReadyH.nil
        exact AllReadyH.nil
        exact AllReadyH.nil
        exact AllReadyH.nil
        all_goals
          go_wp2
          go_meet
          exact ⟨g10, rfl, HT5.out, Lib.hid hS, KT⟩
      case rest =>
        clear shc hwp hsn0 hsn62 OF TM
        obtain ⟨g10, rfl, h10, hb1, KT⟩ := hcut
        have HT := Lib.hid h10
        have HWB := hb1
        clear h10 hb1
        obtain ⟨wy, hwy⟩ : ∃ wy, wy = wc := ⟨_, rfl⟩
        subst hwy
        go_wp2
        go_loopg [11] n (fun gg s11 wr => ∃ k : Nat, i ≤ k ∧ k ≤ n - 1 ∧ n - k ≤ gg ∧ s11 = .int .i64 k ∧ Hid (Bw wb wr) ∧ Hid (Blk wr g10 51 (nV (secW (k - i) X1).1 (secW (k - i) X1).2)))
        case atStart => exact ⟨i, by omega, by omega, by omega, rfl, HWB, by rw [Nat.sub_self]; exact KT⟩
        case round =>
          clear KT HWB
          obtain ⟨k, hk1, hk2, hgg2, rfl, HWB, KT⟩ := hrel
          obtain ⟨wz, rfl⟩ : ∃ wz, wz = wr := ⟨_, rfl⟩
          by_cases c4 : k < n - 1
          case pos =>
            have c4z : (k : Int) < (n : Int) - 1 := by omega
            have hsu : secW (k + 1 - i) X1 = timesW (secW (k - i) X1) 1000000000 := by rw [show k + 1 - i = (k - i) + 1 by omega]; rfl
            have HSU := Lib.hid hsu
            clear hsu
            have TM := Lib.hid (fun W => times28 (secW (k - i) X1) 1000000000 (by decide) W)
            generalize secW (k - i) X1 = X2 at *
            obtain ⟨X3, hX3⟩ : ∃ X3, X3 = timesW X2 1000000000 := ⟨_, rfl⟩
            rw [← hX3] at TM HSU
            clear hX3
            go_wp2_with (first | ((with_reducible refine at_load 51 (.tmp 10) ?_); refine wpList_load_row rfl 51 _ rfl g10 rfl 51 (nV X2.1 X2.2) (0, 0) _ KT.out Try.underlying51 rfl (by kernel_rfl) ?_) | (go_at_call 31; (with_reducible refine Calls.mono (TM.out _) ?_); rintro e1 w7 ⟨rfl, hb1⟩; replace KT := Lib.hid (KT.out.bw hb1); replace HWB := Lib.hid (HWB.out.trans hb1); clear hb1) | ((with_reducible refine at_store 51 (.tmp 10) (.tmp 36) ?_); refine wpList_store_row rfl 51 (.tmp 10) (.tmp 36) rfl g10 (nV X3.1 X3.2) rfl rfl 51 _ KT.out (by kernel_rfl) rfl (nV_one _ _) ?_))
            replace HWB := Lib.hid (Bw.setRow HWB.out HT.out (nV X3.1 X3.2))
            replace KT := Lib.hid (KT.out.row (nV X3.1 X3.2))
            go_roundg (n - (k + 1))
            case measure => omega
            case rel => exact ⟨k + 1, by omega, by omega, by omega, by go_num, HWB, by rw [HSU.out]; exact KT⟩
          case neg =>
            have c4z : ¬ (k : Int) < (n : Int) - 1 := by omega
            obtain rfl : k = n - 1 := by omega
            rw [← HLW.out] at KT
            have hrg : (List.range i).map (lW cs shs n) ++ [lW cs shs n i] = (List.range (i + 1)).map (lW cs shs n) := by rw [List.range_succ, List.map_append]; rfl
            have HRG := Lib.hid hrg
            clear hrg HLW
            obtain ⟨Z, hZ⟩ : ∃ Z, Z = lW cs shs n i := ⟨_, rfl⟩
            rw [← hZ] at KT HRG
            clear hZ
            have KZ := Lib.hid (show Blk wz g10 51 #[.bool Z.1, .int .u64 ((d64 Z.2 0 : Nat) : Int), .int .u64 ((d64 Z.2 1 : Nat) : Int), .int .u64 ((d64 Z.2 2 : Nat) : Int), .int .u64 ((d64 Z.2 3 : Nat) : Int)] from KT.out)
            clear KT
            have HOW2 := Lib.hid (own_bw HOW.out (Bw.alloc HWB.out (.cells #[.bool Z.1, .int .u64 ((d64 Z.2 0 : Nat) : Int), .int .u64 ((d64 Z.2 1 : Nat) : Int), .int .u64 ((d64 Z.2 2 : Nat) : Int), .int .u64 ((d64 Z.2 3 : Nat) : Int)] 51)))
            have HLS := Lib.hid (show ((List.range i).map (lW cs shs n)).length = i by simp)
            generalize (List.range i).map (lW cs shs n) = LS at *
            have HGZ := Lib.hid (show g + 1 ≤ (wz.alloc (.cells #[.bool Z.1, .int .u64 ((d64 Z.2 0 : Nat) : Int), .int .u64 ((d64 Z.2 1 : Nat) : Int), .int .u64 ((d64 Z.2 2 : Nat) : Int), .int .u64 ((d64 Z.2 3 : Nat) : Int)] 51)).heap.size by have h1 := HS0.out; have h2 := HWC.out.size; have h3 := HWB.out.size; rw [World.size_alloc]; omega)
            go_wp2_with (first | ((with_reducible refine at_load 51 (.tmp 10) ?_); refine wpList_load_row rfl 51 _ rfl g10 rfl 51 #[.bool Z.1, .int .u64 ((d64 Z.2 0 : Nat) : Int), .int .u64 ((d64 Z.2 1 : Nat) : Int), .int .u64 ((d64 Z.2 2 : Nat) : Int), .int .u64 ((d64 Z.2 3 : Nat) : Int)] (0, 0) _ KZ.out Try.underlying51 rfl (by kernel_rfl) ?_) | (at_builtin; go_loud (refine wpList_append_wn rfl (.tmp 37) (.tmp 39) _ rfl (g + 1) Try.underlying71 u7 i LS HLS.out Z rfl HOW2.out wz.heap.size 51 rfl (show Blk (wz.alloc (.cells #[.bool Z.1, .int .u64 ((d64 Z.2 0 : Nat) : Int), .int .u64 ((d64 Z.2 1 : Nat) : Int), .int .u64 ((d64 Z.2 2 : Nat) : Int), .int .u64 ((d64 Z.2 3 : Nat) : Int)] 51)) wz.heap.size 51 (nV Z.1 Z.2) from Blk.new wz 51 #[.bool Z.1, .int .u64 ((d64 Z.2 0 : Nat) : Int), .int .u64 ((d64 Z.2 1 : Nat) : Int), .int .u64 ((d64 Z.2 2 : Nat) : Int), .int .u64 ((d64 Z.2 3 : Nat) : Int)]) (by omega) HGZ.out ?_; intro v7 w7 hown hgr; have hb1 := Bw.grownN HS0.out (Bw.alloc (HWC.out.trans HWB.out) (.cells #[.bool Z.1, .int .u64 ((d64 Z.2 0 : Nat) : Int), .int .u64 ((d64 Z.2 1 : Nat) : Int), .int .u64 ((d64 Z.2 2 : Nat) : Int), .int .u64 ((d64 Z.2 3 : Nat) : Int)] 51)) HOW2.out hgr; have HB1 := Lib.hid hb1; have HO1 := Lib.hid hown; clear hown hgr hb1)))
            rw [HRG.out] at HO1
            go_roundg (n - (i + 1))
            case measure => omega
            case rel => exact ⟨i + 1, by omega, by omega, by go_num, HB1, HO1⟩
end Go.Proofs.Sky

namespace Go.Proofs.Sky
open Go Go.RowKit Go.Shelf
set_option maxHeartbeats 2000000
set_option maxRecDepth 8000
/-! chapter 28: unit, at, point, axes -/
def unitW (p s : Nat) : Wn := secW p (ofW (2 ^ s))
theorem unit28_any (p s : Nat) (hp : p ≤ 10) (hs : s ≤ 62) (w : World) : Calls Try.prog 24 #[.int .i64 (p : Int), .int .i64 (s : Int)] w fun e w' => e = .returned (.agg (nV (unitW p s).1 (unitW p s).2)) ∧ Bw w w' := by
  have OF : Hid (∀ W, Calls Try.prog 40 #[.int .i64 (2 ^ s)] W fun e w' => e = .returned (.agg (nV (ofW (2 ^ s)).1 (ofW (2 ^ s)).2)) ∧ Bw W w') := Lib.hid (fun W => of28_any (2 ^ s) W (pow62 hs))
  obtain ⟨PW, hPW⟩ : ∃ PW : Int, PW = 2 ^ s := ⟨_, rfl⟩
  have hwp : IntKind.i64.wrap ((2 : Int) ^ s) = PW := by
    have h9 := pow62 hs
    rw [hPW, IntKind.wrap_i64]
    generalize (2 : Int) ^ s = m at *
    omega
  have hs0 : (0 : Int) ≤ s := by omega
  rw [← hPW] at OF
  have HU := Lib.hid (show unitW p s = secW p (ofW PW) by rw [hPW]; rfl)
  clear hPW
  generalize ofW PW = O at *
  have KR := Lib.hid (Blk.new w 51 #[.bool false, .int .u64 0, .int .u64 0, .int .u64 0, .int .u64 0])
  have HW := Lib.hid (Bw.alloc (Bw.refl w) (.cells #[.bool false, .int .u64 0, .int .u64 0, .int .u64 0, .int .u64 0] 51))
  obtain ⟨g, hg⟩ : ∃ g, w.heap.size = g := ⟨_, rfl⟩
  rw [hg] at KR
  have HG := Lib.hid hg
  go_enter Try.func24, Try.ntmps24
  go_upto_region 1 with fail
  obtain ⟨W0, hW0⟩ : ∃ W0, w.alloc (.cells #[.bool false, .int .u64 0, .int .u64 0, .int .u64 0, .int .u64 0] 51) = W0 := ⟨_, rfl⟩
  rw [hW0] at KR HW ⊢
  clear hW0 hg
  go_upto_region 2 with (first | (go_at_call 40; (with_reducible refine Calls.mono (OF.out _) ?_); rintro e1 w1 ⟨rfl, hb1⟩; replace KR := Lib.hid (KR.out.bw hb1); replace HW := Lib.hid (HW.out.trans hb1); clear hb1) | ((with_reducible refine at_store 51 (.tmp 5) (.tmp 8) ?_); refine wpList_store_row rfl 51 (.tmp 5) (.tmp 8) rfl w1.heap.size (nV O.1 O.2) rfl rfl 51 _ (Blk.new w1 51 #[.bool false, .int .u64 0, .int .u64 0, .int .u64 0, .int .u64 0]) (by kernel_rfl) rfl (nV_one _ _) ?_))
  obtain ⟨g5, hg5⟩ : ∃ g5, w1.heap.size = g5 := ⟨_, rfl⟩
  have hb1 := Bw.setRow (Bw.alloc (Bw.refl w1) (.cells #[.bool false, .int .u64 0, .int .u64 0, .int .u64 0, .int .u64 0] 51)) (Nat.le_of_eq hg5) (nV O.1 O.2)
  have KO := Lib.hid ((Blk.new w1 51 #[.bool false, .int .u64 0, .int .u64 0, .int .u64 0, .int .u64 0]).row (nV O.1 O.2))
  have HG5 := Lib.hid (show g < g5 by have := KR.out.lt; omega)
  rw [hg5] at KO ⊢
  replace KR := Lib.hid (KR.out.bw hb1)
  replace HW := Lib.hid (HW.out.trans hb1)
  clear hb1 hwp hs0 OF
  generalize World.setRow (World.alloc w1 _) _ _ = w2 at *
  clear hg5
  (try simp only [Act.put])
  go_wp2
  go_loopg [10] p (fun gg s10 wr => ∃ k : Nat, k ≤ p ∧ p - k ≤ gg ∧ s10 = .int .i64 k ∧ Hid (Bw w wr) ∧ Hid (Blk wr g 51 #[.bool false, .int .u64 0, .int .u64 0, .int .u64 0, .int .u64 0]) ∧ Hid (Blk wr g5 51 (nV (secW k O).1 (secW k O).2)))
  case atStart => exact ⟨0, by omega, by omega, rfl, HW, KR, KO⟩
  case round =>
    clear KO KR HW
    obtain ⟨k, hk, hgg, rfl, HW, KR, KO⟩ := hrel
    obtain ⟨wb, rfl⟩ : ∃ wb, wb = wr := ⟨_, rfl⟩
    by_cases c3 : k < p
    case pos =>
      have c3z : (k : Int) < p := by omega
      have HSU := Lib.hid (show secW (k + 1) O = timesW (secW k O) 1000000000 from rfl)
      have TM := Lib.hid (fun W => times28 (secW k O) 1000000000 (by decide) W)
      generalize secW k O = X2 at *
      obtain ⟨X3, hX3⟩ : ∃ X3, X3 = timesW X2 1000000000 := ⟨_, rfl⟩
      rw [← hX3] at TM HSU
      clear hX3
      go_wp2_with (first | ((with_reducible refine at_load 51 (.tmp 5) ?_); refine wpList_load_row rfl 51 _ rfl g5 rfl 51 (nV X2.1 X2.2) (0, 0) _ KO.out Try.underlying51 rfl (by kernel_rfl) ?_) | (go_at_call 31; (with_reducible refine Calls.mono (TM.out _) ?_); rintro e1 w7 ⟨rfl, hb1⟩; replace KO := Lib.hid (KO.out.bw hb1); replace KR := Lib.hid (KR.out.bw hb1); replace HW := Lib.hid (HW.out.trans hb1); clear hb1) | ((with_reducible refine at_store 51 (.tmp 5) (.tmp 13) ?_); refine wpList_store_row rfl 51 (.tmp 5) (.tmp 13) rfl g5 (nV X3.1 X3.2) rfl rfl 51 _ KO.out (by kernel_rfl) rfl (nV_one _ _) ?_))
      have hkx := Kx.row KO.out.lt (nV X3.1 X3.2)
      replace HW := Lib.hid (hkx.bw HW.out (by have := HG.out; have := HG5.out; omega))
      replace KR := Lib.hid (hkx.blk KR.out (by have := HG5.out; omega))
      replace KO := Lib.hid (KO.out.row (nV X3.1 X3.2))
      go_roundg (p - (k + 1))
      case measure => omega
      case rel => exact ⟨k + 1, by omega, by omega, by go_num, HW, KR, by rw [HSU.out]; exact KO⟩
    case neg =>
      have c3z : ¬ (k : Int) < p := by omega
      obtain rfl : k = p := by omega
      rw [← HU.out] at KO
      obtain ⟨UV, hUV⟩ : ∃ UV, UV = unitW k s := ⟨_, rfl⟩
      rw [← hUV] at KO
      have HUV := Lib.hid hUV
      clear hUV
      go_wp2_with (first | ((with_reducible refine at_load 51 (.tmp 5) ?_); refine wpList_load_row rfl 51 _ rfl g5 rfl 51 (nV UV.1 UV.2) (0, 0) _ KO.out Try.underlying51 rfl (by kernel_rfl) ?_) | ((with_reducible refine at_store 51 (.tmp 4) (.tmp 15) ?_); refine wpList_store_row rfl 51 (.tmp 4) (.tmp 15) rfl g (nV UV.1 UV.2) rfl rfl 51 _ KR.out (by kernel_rfl) rfl (nV_one _ _) ?_))
      have F9 := KR.out.row (nV UV.1 UV.2)
      have B9 := Bw.setRow HW.out (show w.heap.size ≤ g by have := HG.out; omega) (nV UV.1 UV.2)
      refine bodyPost_ret (v := .agg (nV UV.1 UV.2)) ?_ rfl ⟨by rw [HUV.out], B9⟩
      exact results_cell_row (p := 4) rfl _ _ g _ _ (0, 0) _ rfl F9 Try.underlying51 rfl (by kernel_rfl)
def wk : Int := 604800000000000
def turn1 (d : Int) : Int := if d + 604800000000000 ≤ 7200000000000 ∧ -7200000000000 ≤ d + 604800000000000 then d + 604800000000000 else d
def turn2 (d : Int) : Int := if d - 604800000000000 ≤ 7200000000000 ∧ -7200000000000 ≤ d - 604800000000000 then d - 604800000000000 else d
/-- the distance of a time from an ephemeris' own, or the error -/
def atE (X : Nat → Int) (t : Int) : Int × Int :=
  if errE X ≠ 0 then (0, errE X) else if t < 0 ∨ 604800000000000 ≤ t then (0, 2) else
    if 7200000000000 < turn2 (turn1 (t - X 2 * 1000000000)) ∨ turn2 (turn1 (t - X 2 * 1000000000)) < -7200000000000 then (0, 17) else (turn2 (turn1 (t - X 2 * 1000000000)), 0)
theorem idx2 (x y : Int) (i : Nat) (hi : i < 2) (W : World) : (Instr.index 70 (.agg #[.int .i64 x, .int .i64 y]) (.int .i64 (i : Int))).run Try.prog W = .ok (.int .i64 (if i = 0 then x else y)) W := by
  rcases (by omega : i = 0 ∨ i = 1) with rfl | rfl
  · exact (show (Instr.index 70 (.agg #[.int .i64 x, .int .i64 y]) (.int .i64 0)).run Try.prog W = .ok (.int .i64 x) W by kernel_rfl)
  · exact (show (Instr.index 70 (.agg #[.int .i64 x, .int .i64 y]) (.int .i64 1)).run Try.prog W = .ok (.int .i64 y) W by kernel_rfl)
theorem t0_bd {X : Nat → Int} (h : errE X = 0) : 0 ≤ X 2 ∧ X 2 ≤ 604799 := by
  have h9 := (errE_parts h).1
  unfold hdE at h9
  omega
theorem at28_any (X : Nat → Int) (t : Int) (w : World) : Calls Try.prog 20 #[.agg (eV X), .int .i64 t] w fun e w' => e = .returned (.tuple #[.int .i64 (atE X t).1, .int .i64 (atE X t).2]) ∧ Bw w w' := by
  have CK := Lib.hid (fun W => ECheck_any X W)
  have HB := Lib.hid (fun (h : errE X = 0) => t0_bd h)
  have KX := Lib.hid (Blk.new w 25 (eV X))
  have HW := Lib.hid (Bw.alloc (Bw.refl w) (.cells (eV X) 25))
  have HSZ : Hid ((Try.prog.info? 25).map (·.size) = some (eV X).size) := Lib.hid (by kernel_rfl)
  have t2 : (eV X)[2]? = some (.int .i64 (X 2)) := rfl
  obtain ⟨g, hg⟩ : ∃ g, w.heap.size = g := ⟨_, rfl⟩
  rw [hg] at KX
  obtain ⟨er, her⟩ : ∃ er, er = errE X := ⟨_, rfl⟩
  have HAT := Lib.hid (show atE X t = if er ≠ 0 then (0, er) else if t < 0 ∨ 604800000000000 ≤ t then (0, 2) else
    if 7200000000000 < turn2 (turn1 (t - X 2 * 1000000000)) ∨ turn2 (turn1 (t - X 2 * 1000000000)) < -7200000000000 then (0, 17) else (turn2 (turn1 (t - X 2 * 1000000000)), 0) by rw [her]; rfl)
  rw [← her] at CK HB
  clear her
  obtain ⟨T0, hT0⟩ : ∃ T0, T0 = X 2 := ⟨_, rfl⟩
  rw [← hT0] at HB HAT t2
  clear hT0
  obtain ⟨R, hR⟩ : ∃ R, R = atE X t := ⟨_, rfl⟩
  rw [← hR] at HAT ⊢
  clear hR
  obtain ⟨A, hA⟩ : ∃ A, A = eV X := ⟨_, rfl⟩
  rw [← hA] at CK KX HW HSZ t2 ⊢
  clear hA
  go_enter Try.func20, Try.ntmps20
  go_upto_region 1 with fail
  obtain ⟨W0, hW0⟩ : ∃ W0, w.alloc (.cells A 25) = W0 := ⟨_, rfl⟩
  rw [hW0] at KX HW ⊢
  clear hW0 hg
  go_upto_region 2 with (first | ((with_reducible refine at_load 25 (.tmp 2) ?_); refine wpList_load_row rfl 25 _ rfl g rfl 25 A (0, 0) _ KX.out Try.underlying25 rfl HSZ.out ?_) | (go_at_call 37; (with_reducible refine Calls.mono (CK.out _) ?_); rintro e1 w1 ⟨rfl, hb1⟩; replace KX := Lib.hid (KX.out.bw hb1); replace HW := Lib.hid (HW.out.trans hb1); clear hb1))
  by_cases c1 : er = 0
  case neg =>
    have c1z : (er != 0) = true := by simpa using c1
    have HR := Lib.hid (HAT.out.trans (if_pos c1))
    clear c1 HAT
    go_wp2
    refine bodyPost_ret (v := .tuple #[.int .i64 0, .int .i64 er]) ?_ rfl ⟨by rw [HR.out], HW.out⟩
    simp [results, Try.results20, go_sem]
  have hbd := HB.out c1
  subst c1
  rw [if_neg (by simp)] at HAT
  by_cases c2 : t < 0
  · have HR := Lib.hid (HAT.out.trans (if_pos (Or.inl c2)))
    go_wp2
    refine bodyPost_ret (v := .tuple #[.int .i64 0, .int .i64 2]) ?_ rfl ⟨by rw [HR.out], HW.out⟩
    simp [results, Try.results20, go_sem]
  by_cases c3 : 604800000000000 ≤ t
  · have HR := Lib.hid (HAT.out.trans (if_pos (Or.inr c3)))
    go_wp2
    refine bodyPost_ret (v := .tuple #[.int .i64 0, .int .i64 2]) ?_ rfl ⟨by rw [HR.out], HW.out⟩
    simp [results, Try.results20, go_sem]
  rw [if_neg (by omega)] at HAT
  have x2 := KX.out.cell t2
  go_upto_region 7 with fail
  obtain ⟨d0, hd0⟩ : ∃ d0, d0 = t - T0 * 1000000000 := ⟨_, rfl⟩
  rw [← hd0] at HAT ⊢
  have hdb : -604800000000000 ≤ d0 ∧ d0 ≤ 604800000000000 := by omega
  clear hd0 x2 hbd c2 c3
  go_wp2
  go_loopg [7, 27] 2 (fun gg s7 s27 wr => ∃ i : Nat, i ≤ 2 ∧ 2 - i ≤ gg ∧ s27 = .int .i64 i ∧ s7 = .int .i64 (if i = 0 then d0 else if i = 1 then turn1 d0 else turn2 (turn1 d0)) ∧ wr = w1)
  case atStart => exact ⟨0, by omega, by omega, rfl, rfl, rfl⟩
  case round =>
    obtain ⟨i, hi, hgg, rfl, rfl, rfl⟩ := hrel
    rcases (by omega : i = 0 ∨ i = 1 ∨ i = 2) with rfl | rfl | rfl
    · show Code.wp _ _ _ _ _
      simp only [if_pos]
      clear HAT
      have ix : ∀ W, (Instr.index 70 (.agg #[.int .i64 604800000000000, .int .i64 (-604800000000000)]) (.int .i64 0)).run Try.prog W = .ok (.int .i64 (604800000000000)) W := fun W => by kernel_rfl
      by_cases p : d0 + 604800000000000 ≤ 7200000000000
      · by_cases q : -7200000000000 ≤ d0 + 604800000000000
        · have HN := Lib.hid (show turn1 d0 = d0 + 604800000000000 by unfold turn1; rw [if_pos (by omega)])
          go_wp2
          go_roundg (2 - 1)
          case measure => omega
          case rel => exact ⟨1, by omega, by omega, by go_num, by show _ = Value.int .i64 (turn1 d0); rw [HN.out], rfl⟩
        · have HN := Lib.hid (show turn1 d0 = d0 by unfold turn1; rw [if_neg (by omega)])
          go_wp2
          go_roundg (2 - 1)
          case measure => omega
          case rel => exact ⟨1, by omega, by omega, by go_num, by show _ = Value.int .i64 (turn1 d0); rw [HN.out], rfl⟩
      · have HN := Lib.hid (show turn1 d0 = d0 by unfold turn1; rw [if_neg (by omega)])
        go_wp2
        go_roundg (2 - 1)
        case measure => omega
        case rel => exact ⟨1, by omega, by omega, by go_num, by show _ = Value.int .i64 (turn1 d0); rw [HN.out], rfl⟩
    · simp only [Nat.one_ne_zero, if_false, if_pos]
      have hd1b : -604800000000000 ≤ turn1 d0 ∧ turn1 d0 ≤ 604800000000000 := by unfold turn1; split <;> omega
      obtain ⟨d1, hd1⟩ : ∃ d1, turn1 d0 = d1 := ⟨_, rfl⟩
      rw [hd1] at hd1b ⊢
      have HD1 := Lib.hid hd1
      clear HAT hd1
      have ix : ∀ W, (Instr.index 70 (.agg #[.int .i64 604800000000000, .int .i64 (-604800000000000)]) (.int .i64 1)).run Try.prog W = .ok (.int .i64 (-604800000000000)) W := fun W => by kernel_rfl
      by_cases p : d1 + -604800000000000 ≤ 7200000000000
      · by_cases q : -7200000000000 ≤ d1 + -604800000000000
        · have HN := Lib.hid (show turn2 d1 = d1 + -604800000000000 by unfold turn2; rw [if_pos (by omega)]; omega)
          go_wp2
          go_roundg (2 - 2)
          case measure => omega
          case rel => exact ⟨2, by omega, by omega, by go_num, by show _ = Value.int .i64 (turn2 (turn1 d0)); rw [HD1.out, HN.out], rfl⟩
        · have HN := Lib.hid (show turn2 d1 = d1 by unfold turn2; rw [if_neg (by omega)])
          go_wp2
          go_roundg (2 - 2)
          case measure => omega
          case rel => exact ⟨2, by omega, by omega, by go_num, by show _ = Value.int .i64 (turn2 (turn1 d0)); rw [HD1.out, HN.out], rfl⟩
      · have HN := Lib.hid (show turn2 d1 = d1 by unfold turn2; rw [if_neg (by omega)])
        go_wp2
        go_roundg (2 - 2)
        case measure => omega
        case rel => exact ⟨2, by omega, by omega, by go_num, by show _ = Value.int .i64 (turn2 (turn1 d0)); rw [HD1.out, HN.out], rfl⟩
    · have hd2b : -1300000000000000 ≤ turn2 (turn1 d0) ∧ turn2 (turn1 d0) ≤ 1300000000000000 := by unfold turn2 turn1; split <;> split <;> omega
      simp only [show ¬ (2 : Nat) = 0 from by decide, show ¬ (2 : Nat) = 1 from by decide, if_false]
      generalize turn2 (turn1 d0) = d2 at *
      by_cases p : 7200000000000 < d2
      · rw [if_pos (Or.inl p)] at HAT
        have HR := HAT
        clear HAT
        go_wp2
        refine bodyPost_ret (v := .tuple #[.int .i64 0, .int .i64 17]) ?_ rfl ⟨by rw [HR.out], HW.out⟩
        simp [results, Try.results20, go_sem]
      by_cases q : d2 < -7200000000000
      · rw [if_pos (Or.inr q)] at HAT
        have HR := HAT
        clear HAT
        go_wp2
        refine bodyPost_ret (v := .tuple #[.int .i64 0, .int .i64 17]) ?_ rfl ⟨by rw [HR.out], HW.out⟩
        simp [results, Try.results20, go_sem]
      · rw [if_neg (by omega)] at HAT
        have HR := HAT
        clear HAT
        go_wp2
        refine bodyPost_ret (v := .tuple #[.int .i64 d2, .int .i64 0]) ?_ rfl ⟨by rw [HR.out], HW.out⟩
        simp [results, Try.results20, go_sem]
end Go.Proofs.Sky

/-! natural numbers in digits of 24 bits: plain -/
namespace Go.Proofs.Sky
/-- the value of the first n digits -/
def pv (f : Nat → Int) : Nat → Int
  | 0 => 0
  | n + 1 => pv f n + f n * 16777216 ^ n
def dg (ds : List Int) (i : Nat) : Int := ds.getD i 0
def Dg (f : Nat → Int) : Prop := ∀ i, 0 ≤ f i ∧ f i < 16777216
theorem pv_congr {f g : Nat → Int} : ∀ n, (∀ i, i < n → f i = g i) → pv f n = pv g n := by
  intro n
  induction n with
  | zero => intro _; rfl
  | succ n ih => intro h; rw [pv, pv, ih (fun i hi => h i (by omega)), h n (by omega)]
theorem pw24_pos (n : Nat) : (1 : Int) ≤ 16777216 ^ n := by
  induction n with
  | zero => simp
  | succ n ih => rw [Int.pow_succ]; omega
theorem pv_bd {f : Nat → Int} (h : Dg f) : ∀ n, 0 ≤ pv f n ∧ pv f n < 16777216 ^ n := by
  intro n
  induction n with
  | zero => simp [pv]
  | succ n ih =>
    have h1 := h n
    have hp := pw24_pos n
    rw [pv, Int.pow_succ]
    have h2 : f n * 16777216 ^ n ≤ 16777215 * 16777216 ^ n := Int.mul_le_mul_of_nonneg_right (by omega) (by omega)
    have h3 : 0 ≤ f n * 16777216 ^ n := Int.mul_nonneg h1.1 (by omega)
    omega
theorem pv_zero {f : Nat → Int} (n : Nat) : ∀ m, n ≤ m → (∀ i, n ≤ i → i < m → f i = 0) → pv f m = pv f n := by
  intro m
  induction m with
  | zero => intro h _; obtain rfl : n = 0 := (by omega); rfl
  | succ m ih =>
    intro h hz
    rcases Nat.lt_or_ge m n with h1 | h1
    · obtain rfl : n = m + 1 := by omega
      rfl
    · rw [pv, ih h1 (fun i h2 h3 => hz i h2 (by omega)), hz m h1 (by omega)]; omega
theorem pv_mono {f : Nat → Int} (h : Dg f) (n : Nat) : ∀ m, n ≤ m → pv f n ≤ pv f m := by
  intro m
  induction m with
  | zero => intro h1; obtain rfl : n = 0 := (by omega); omega
  | succ m ih =>
    intro h1
    rcases Nat.lt_or_ge m n with h2 | h2
    · obtain rfl : n = m + 1 := by omega
      omega
    · have := ih h2
      have h3 : 0 ≤ f m * 16777216 ^ m := Int.mul_nonneg (h m).1 (by have := pw24_pos m; omega)
      rw [pv]; omega
theorem dg_out (ds : List Int) (i : Nat) (h : ds.length ≤ i) : dg ds i = 0 := by
  unfold dg; rw [List.getD_eq_getElem?_getD, List.getElem?_eq_none h]; rfl
/-- the value of a list of digits -/
def dv (ds : List Int) : Int := pv (dg ds) ds.length
theorem dv_at (ds : List Int) (n : Nat) (h : ds.length ≤ n) : pv (dg ds) n = dv ds := pv_zero ds.length n h (fun i h1 _ => dg_out ds i h1)
/-- no zero at the end -/
def Tr (ds : List Int) : Prop := ds.length = 0 ∨ dg ds (ds.length - 1) ≠ 0
theorem tr_ge {ds : List Int} (h : Tr ds) (hd : Dg (dg ds)) (h0 : 0 < ds.length) : 16777216 ^ (ds.length - 1) ≤ dv ds := by
  obtain ⟨n, hn⟩ : ∃ n, ds.length = n + 1 := ⟨ds.length - 1, by omega⟩
  rcases h with h | h
  · omega
  · unfold dv
    rw [hn] at h ⊢
    rw [Nat.add_sub_cancel] at h ⊢
    have h1 := hd n
    have h2 := pv_bd hd n
    have hp := pw24_pos n
    rw [pv]
    have h3 : 1 * 16777216 ^ n ≤ dg ds n * 16777216 ^ n := Int.mul_le_mul_of_nonneg_right (by omega) (by omega)
    omega
theorem pw24_le {a b : Nat} (h : a ≤ b) : (16777216 : Int) ^ a ≤ 16777216 ^ b := by
  obtain ⟨c, rfl⟩ := Nat.exists_eq_add_of_le h
  rw [Int.pow_add]
  have h1 := pw24_pos a
  have h2 := pw24_pos c
  have : (16777216 : Int) ^ a * 1 ≤ 16777216 ^ a * 16777216 ^ c := Int.mul_le_mul_of_nonneg_left h2 (by omega)
  omega
/-- a trimmed number below a power has so few digits -/
theorem tr_len {ds : List Int} (h : Tr ds) (hd : Dg (dg ds)) (m : Nat) (hv : dv ds < 16777216 ^ m) : ds.length ≤ m := by
  rcases Nat.lt_or_ge m ds.length with h1 | h1
  · have h2 := tr_ge h hd (by omega)
    have h3 := pw24_le (a := m) (b := ds.length - 1) (by omega)
    omega
  · exact h1
theorem len_lt {az bs : List Int} (ha : Dg (dg az)) (hb : Dg (dg bs)) (htb : Tr bs) (h : az.length < bs.length) : dv az < dv bs := by
  have h1 := (pv_bd ha az.length).2
  have h2 := tr_ge htb hb (by omega)
  have h3 := pw24_le (a := az.length) (b := bs.length - 1) (by omega)
  have h4 : dv az < 16777216 ^ az.length := h1
  omega
/-- the same from a place on -/
theorem pv_top {f g : Nat → Int} (n : Nat) : ∀ m, n ≤ m → (∀ i, n ≤ i → i < m → f i = g i) → pv f m - pv f n = pv g m - pv g n := by
  intro m
  induction m with
  | zero => intro h _; obtain rfl : n = 0 := (by omega); simp
  | succ m ih =>
    intro h hz
    rcases Nat.lt_or_ge m n with h1 | h1
    · obtain rfl : n = m + 1 := by omega
      omega
    · have := ih h1 (fun i h2 h3 => hz i h2 (by omega))
      rw [pv, pv, hz m h1 (by omega)]; omega
theorem top_lt {f g : Nat → Int} (hf : Dg f) (hg : Dg g) (n m : Nat) (h : n < m) (he : ∀ i, n < i → i < m → f i = g i) (hl : f n < g n) : pv f m < pv g m := by
  have h1 := pv_top (f := f) (g := g) (n + 1) m (by omega) (fun i h2 h3 => he i (by omega) h3)
  have h2 := pv_bd hf n
  have h3 := pv_bd hg n
  have e1 : pv f (n + 1) = pv f n + f n * 16777216 ^ n := rfl
  have e2 : pv g (n + 1) = pv g n + g n * 16777216 ^ n := rfl
  have h4 : (f n + 1) * 16777216 ^ n ≤ g n * 16777216 ^ n := Int.mul_le_mul_of_nonneg_right (by omega) (by have := pw24_pos n; omega)
  rw [Int.add_mul, Int.one_mul] at h4
  omega
/-- one step of a sum with a carry -/
theorem carry_step {f : Nat → Int} (k : Nat) (c X Y d : Int) (h : pv f k + c * 16777216 ^ k = X) (hf : f k = (c + d) % 16777216) (hy : Y = X + d * 16777216 ^ k) : pv f (k + 1) + (c + d) / 16777216 * 16777216 ^ (k + 1) = Y := by
  rw [pv, hf, Int.pow_succ, hy, ← h]
  have e : c + d = 16777216 * ((c + d) / 16777216) + (c + d) % 16777216 := by omega
  have e2 : (c + d) * 16777216 ^ k = (16777216 * ((c + d) / 16777216) + (c + d) % 16777216) * 16777216 ^ k := congrArg (· * 16777216 ^ k) e
  rw [Int.add_mul, Int.add_mul, Int.mul_assoc, Int.mul_left_comm] at e2
  rw [Int.mul_comm (16777216 ^ k) 16777216]
  omega
end Go.Proofs.Sky

namespace Go.Proofs.Sky
open Go Go.RowKit Go.Shelf
set_option maxHeartbeats 2000000
set_option maxRecDepth 4000
/-! the kit's sums of products: numbers in digits of 24 bits -/
theorem infoIntS : (Try.prog.info? 3).map (fun i => (i.zero, i.size, i.bytes)) = some (some (.int .i64 0), 1, 8) := by kernel_rfl
theorem bw_grownS {a b c : World} {e : TypeId} {k : Nat} {v : Value} {m n : Nat} {xs : List Value} (hn : a.heap.size = n) (h : Bw a b) (ho : b.ownsRow n e k v m xs) (hg : b.grownBy c v.ownBlock) : Bw a c := by
  subst hn; exact h.grown ho hg
theorem and24 (n : Int) : bits .and .i64 n 16777215 = n % 16777216 := by
  have h1 : (BitVec.ofInt 64 16777215).toNat = 2 ^ 24 - 1 := by decide
  have key : (BitVec.ofInt 64 n &&& BitVec.ofInt 64 16777215).toNat = (n % ((2 ^ 64 : Nat) : Int)).toNat % 2 ^ 24 := by
    rw [BitVec.toNat_and, BitVec.toNat_ofInt, h1, Nat.and_two_pow_sub_one_eq_mod]
  show IntKind.i64.wrap ((BitVec.ofInt 64 n &&& BitVec.ofInt 64 16777215).toNat : Nat) = n % 16777216
  rw [key, IntKind.wrap_i64]
  omega
/-- a number in digits: the value of a slice -/
def Wd (w : World) (base : Nat) (v : Value) (N : Int) : Prop := ∃ ds, RdI w v ds ∧ Fresh base v ∧ Dg (dg ds) ∧ Tr ds ∧ dv ds = N
theorem Wd.mono {w w' : World} {base : Nat} {v : Value} {N : Int} (h : Wd w base v N) (hb : Bw w w') : Wd w' base v N := by
  obtain ⟨ds, h1, h2⟩ := h; exact ⟨ds, h1.mono hb, h2⟩
theorem Wd.down {w : World} {base base' : Nat} {v : Value} {N : Int} (h : Wd w base v N) (hb : base' ≤ base) : Wd w base' v N := by
  obtain ⟨ds, h1, h2, h3⟩ := h; exact ⟨ds, h1, h2.mono hb, h3⟩
theorem Wd.zero (w : World) (base : Nat) : Wd w base (.slice none 0 0) 0 := ⟨[], RdI.nil _, Fresh.nil _ _ _, fun i => by simp [dg], .inl rfl, rfl⟩
theorem Wd.pos {w : World} {base : Nat} {v : Value} {N : Int} (h : Wd w base v N) : 0 ≤ N := by
  obtain ⟨ds, _, _, h3, _, rfl⟩ := h; exact (pv_bd h3 _).1
def NumP31 (base : Nat) (N : Int) (e : Ending) (w' : World) : Prop := ∃ v', e = .returned v' ∧ Wd w' base v' N
theorem rdI_take {w : World} {a : Option Addr} {n c : Nat} {zs : List Int} (h : RdI w (.slice a n c) zs) (k : Nat) (hk : k ≤ n) : RdI w (.slice a k c) (zs.take k) := by
  obtain ⟨h2, a', cap, he, h4⟩ := h
  injection he with e1 e2 e3
  subst e1 e2 e3
  have hl : (zs.take k).length = k := by rw [List.length_take]; omega
  refine ⟨by omega, _, _, by rw [hl], ?_⟩
  rcases h4 with h4 | ⟨b, off, hb, h6, h7⟩
  · left; rw [h4]; simp
  · right
    refine ⟨b, off, hb, h6, fun i hi => ?_⟩
    rw [hl] at hi
    have e : (zs.take k).getD i 0 = zs.getD i 0 := by rw [List.getD_eq_getElem?_getD, List.getElem?_take, if_pos hi, List.getD_eq_getElem?_getD]
    rw [e]
    exact h7 i (by omega)
theorem fresh_len {base : Nat} {a : Option Addr} {n c : Nat} (h : Fresh base (.slice a n c)) (k c' : Nat) : Fresh base (.slice a k c') := by
  intro b e
  cases a with
  | none => simp [Value.ownBlock] at e
  | some p => exact h b (by simpa [Value.ownBlock] using e)
theorem dg_take (ds : List Int) (k i : Nat) (h : i < k) : dg (ds.take k) i = dg ds i := by
  unfold dg
  rw [List.getD_eq_getElem?_getD, List.getElem?_take, if_pos h, List.getD_eq_getElem?_getD]
theorem Dg.take {ds : List Int} (h : Dg (dg ds)) (k : Nat) : Dg (dg (ds.take k)) := by
  intro i
  rcases Nat.lt_or_ge i k with h1 | h1
  · rw [dg_take ds k i h1]; exact h i
  · rw [dg_out _ _ (by rw [List.length_take]; omega)]; omega
theorem own_caps {w : World} {base : Nat} {e : TypeId} {k : Nat} {v : Value} {n : Nat} {xs : List Value} (h : w.ownsRow base e k v n xs) : ∀ a m c, v = .slice a m c → m ≤ c ∧ c ≤ 9223372036854775807 := by
  intro a m c hv
  rcases h.2 with ⟨rfl, rfl⟩ | ⟨g, cap, cur, rfl, _, _, hnc, hcm, _⟩
  · injection hv with h1 h2 h3; omega
  · injection hv with h1 h2 h3; subst h2 h3; exact ⟨hnc, by unfold maxLen at hcm; omega⟩
theorem trim_any (ds : List Int) (a : Option Addr) (c base : Nat) (w : World) (hv : RdI w (.slice a ds.length c) ds) (hc : ds.length ≤ c ∧ c ≤ 9223372036854775807) (hf : Fresh base (.slice a ds.length c)) (hd : Dg (dg ds)) (N : Int) (hN : dv ds = N) :
    Calls Try.prog 60 #[.slice a ds.length c] w fun e w' => NumP31 base N e w' ∧ Bw w w' := by
  have HV := Lib.hid hv
  have HF := Lib.hid hf
  have HD := Lib.hid hd
  have HN := Lib.hid hN
  have hle := hv.1
  clear hv hf hd hN
  obtain ⟨n, hn⟩ : ∃ n, n = ds.length := ⟨_, rfl⟩
  rw [← hn] at HV HF hc hle ⊢
  have HL := Lib.hid hn
  clear hn
  go_enter Try.func60, Try.ntmps60
  go_wp2
  go_loopg [0] n (fun gg s0 wr => ∃ k : Nat, k ≤ n ∧ k ≤ gg ∧ s0 = .slice a k c ∧ wr = w ∧ Hid (∀ i, k ≤ i → dg ds i = 0))
  case atStart => exact ⟨n, Nat.le_refl _, Nat.le_refl _, rfl, rfl, Lib.hid (fun i h => dg_out ds i (by have := HL.out; omega))⟩
  case round =>
    obtain ⟨k, hk, hgg, rfl, hwr, HI⟩ := hrel
    replace hwr := hwr.symm
    subst hwr
    have HG : Hid (k = 0 ∨ dg ds (k - 1) ≠ 0 → NumP31 base N (.returned (.slice a k c)) w) := Lib.hid (fun hk0 => by
      refine ⟨_, rfl, ds.take k, rdI_take HV.out k hk, fresh_len HF.out k c, HD.out.take k, ?_, ?_⟩
      · have hl : (ds.take k).length = k := by rw [List.length_take]; have := HL.out; omega
        rcases hk0 with h | h
        · left; omega
        · right; rw [hl]
          rcases Nat.eq_zero_or_pos k with h0 | h0
          · subst h0; exact absurd (HI.out _ (Nat.zero_le _)) h
          · rw [dg_take ds k (k - 1) (by omega)]; exact h
      · have hl : (ds.take k).length = k := by rw [List.length_take]; have := HL.out; omega
        rw [← HN.out]
        unfold dv
        rw [hl, pv_congr k (fun i hi => dg_take ds k i hi)]
        exact (pv_zero k ds.length (by have := HL.out; omega) (fun i h1 _ => HI.out i h1)).symm)
    rcases Nat.eq_zero_or_pos k with h0 | h0
    · subst h0
      replace HG := Lib.hid (HG.out (.inl rfl))
      go_wp2
      go_ret
      exact ⟨HG.out, Bw.refl _⟩
    · obtain ⟨b1, o1, cc, hv1, hb1, hd1⟩ := HV.out.at (by have := HL.out; omega)
      injection hv1 with i1 i2 i3; subst i1; clear i2 i3 hb1
      obtain ⟨m, rfl⟩ : ∃ m, k = m + 1 := ⟨k - 1, by omega⟩
      have d1 := hd1 m (by have := HL.out; omega)
      have hkz : (0 : Int) < ((m + 1 : Nat) : Int) := by omega
      have hkm : ((m + 1 : Nat) : Int) - 1 = (m : Int) := by omega
      have hdm : dg ds m = ds.getD m 0 := rfl
      rw [Nat.add_sub_cancel, hdm] at HG
      have HI2 := Lib.hid (show ds.getD m 0 = 0 → ∀ i, m ≤ i → dg ds i = 0 from fun h i hi => by
        rcases Nat.lt_or_ge m i with h1 | h1
        · exact HI.out i (by omega)
        · obtain rfl : i = m := by omega
          exact h)
      have hmc : m ≤ c := by omega
      clear hd1 hdm h0
      generalize ds.getD m 0 = z at d1 HG HI2
      by_cases hz : z = 0
      · subst hz
        have HI3 := Lib.hid (HI2.out rfl)
        clear HG HI2
        go_wp2
        go_roundg m
        case measure => omega
        case rel => exact ⟨m, by omega, by omega, by go_num, rfl, HI3⟩
      · have HG3 := Lib.hid (HG.out (.inr hz))
        have hzb : (z == 0) = false := by simpa using hz
        clear HG HI2 hz
        go_wp2
        go_ret
        exact ⟨HG3.out, Bw.refl _⟩
theorem dg_snoc (os : List Int) (x : Int) (i : Nat) : dg (os ++ [x]) i = if i = os.length then x else dg os i := by
  unfold dg
  rw [List.getD_eq_getElem?_getD, List.getD_eq_getElem?_getD]
  by_cases h : i < os.length
  · rw [List.getElem?_append_left h, if_neg (by omega)]
  · rw [List.getElem?_append_right (by omega)]
    by_cases h2 : i = os.length
    · rw [if_pos h2, h2]; simp
    · rw [if_neg h2, List.getElem?_eq_none (by simp; omega), List.getElem?_eq_none (by omega)]
theorem Dg.snoc {os : List Int} (h : Dg (dg os)) {x : Int} (h0 : 0 ≤ x) (h1 : x < 16777216) : Dg (dg (os ++ [x])) := by
  intro i
  rw [dg_snoc]
  split
  · omega
  · exact h i
theorem pv_snoc (os : List Int) (x : Int) (k : Nat) (h : os.length = k) : pv (dg (os ++ [x])) k = pv (dg os) k ∧ dg (os ++ [x]) k = x :=
  ⟨pv_congr k (fun i hi => by rw [dg_snoc, if_neg (by omega)]), by rw [dg_snoc, if_pos h.symm]⟩
theorem wideOf_any (n : Int) (w : World) (h0 : 0 ≤ n) (h1 : n ≤ 9223372036854775807) : Calls Try.prog 48 #[.int .i64 n] w fun e w' => NumP31 w.heap.size n e w' ∧ Bw w w' := by
  obtain ⟨BB, hBB⟩ : ∃ BB, w.heap.size = BB := ⟨_, rfl⟩
  have HB := Lib.hid hBB
  rw [hBB]
  clear hBB
  go_enter Try.func48, Try.ntmps48
  go_wp2
  go_loopg [0, 3] n.toNat (fun gg s0 s3 wr => ∃ (m : Int) (os : List Int), s0 = .int .i64 m ∧ 0 ≤ m ∧ m ≤ n ∧ m.toNat ≤ gg ∧ os.length ≤ 30 ∧ Hid (Dg (dg os)) ∧ Hid (m = 0 → Tr os) ∧ Hid (pv (dg os) os.length + m * 16777216 ^ os.length = n) ∧ Hid (Bw w wr) ∧ Hid (wr.ownsRow BB 3 1 s3 os.length (os.map (Value.int .i64))))
  case atStart => exact ⟨n, [], rfl, h0, Int.le_refl _, Nat.le_refl _, by simp, Lib.hid (fun i => by simp [dg]), Lib.hid (fun _ => .inl rfl), Lib.hid (by simp [pv]), Lib.hid (Bw.refl _), Lib.hid (World.ownsRow_nil _ _ _ _)⟩
  case round =>
    obtain ⟨m, os, rfl, hm0, hmn, hgg, hl, HD, HT, HP, HW, O1⟩ := hrel
    by_cases hm : 0 < m
    · have hl30 : os.length + 1 ≤ 30 := by
        have h2 := HP.out
        have h3 := (pv_bd HD.out os.length).1
        have h4 := pw24_pos os.length
        have h5 : 1 * (16777216 : Int) ^ os.length ≤ m * 16777216 ^ os.length := Int.mul_le_mul_of_nonneg_right (by omega) (by omega)
        rcases Nat.lt_or_ge os.length 29 with h | h
        · omega
        · have h6 := pw24_le h
          have h7 : (9223372036854775807 : Int) < 16777216 ^ 29 := by decide
          omega
      have hA := and24 m
      have HD2 := Lib.hid (HD.out.snoc (x := m % 16777216) (by omega) (by omega))
      obtain ⟨e1, e2⟩ := pv_snoc os (m % 16777216) os.length rfl
      have HP2 := Lib.hid (show pv (dg (os ++ [m % 16777216])) (os ++ [m % 16777216]).length + m / 16777216 * 16777216 ^ (os ++ [m % 16777216]).length = n by
        have h9 := carry_step (f := dg (os ++ [m % 16777216])) os.length m n n 0 (by rw [e1]; exact HP.out) (by rw [e2, Int.add_zero]) (by omega)
        rw [Int.add_zero] at h9
        simpa using h9)
      have HT2 := Lib.hid (show m / 16777216 = 0 → Tr (os ++ [m % 16777216]) from fun h => by
        right
        have hll : (os ++ [m % 16777216]).length - 1 = os.length := by simp
        rw [hll, e2]; omega)
      clear e1 e2
      go_wp2_with (at_builtin; have hba := Bw.alloc (Bw.refl wr) (.cells #[.int .i64 (m % 16777216)] 3); replace O1 := Lib.hid (own_bw O1.out hba); replace HW := Lib.hid (HW.out.trans hba); clear hba; refine wpList_append_int1 rfl (.tmp 8) (.tmp 11) _ rfl BB 3 Try.underlying60 infoIntS _ os (m % 16777216) rfl O1.out _ rfl (by simp [go_sem]) (by omega) (by have := HW.out.size; have := HB.out; simp only [World.size_alloc] at *; omega) ?_; intro v8 w8 hown hgr; replace HW := Lib.hid (bw_grownS HB.out HW.out O1.out hgr); replace O1 := Lib.hid hown; clear hown hgr)
      go_roundg (m / 16777216).toNat
      case measure => omega
      case rel => exact ⟨m / 16777216, os ++ [m % 16777216], by go_num, by omega, by omega, by omega, by simp; omega, HD2, HT2, HP2, HW, O1⟩
    · obtain rfl : m = 0 := by omega
      have HR := Lib.hid (own_rd O1.out (by omega))
      have HG : Hid (∀ v, RdI wr v os ∧ Fresh BB v → NumP31 BB n (.returned v) wr) := Lib.hid (fun v h => ⟨v, rfl, os, h.1, h.2, HD.out, HT.out rfl, by have := HP.out; unfold dv; omega⟩)
      have HG2 := Lib.hid (HG.out _ HR.out)
      clear HG HR
      go_wp2
      go_ret
      exact ⟨HG2.out, HW.out⟩
end Go.Proofs.Sky
