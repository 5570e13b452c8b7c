/-
  lemmas for the theorems of this claim. No conditions beyond those written in the statements.
-/
import Derived.Test.YtmndialneggbjaaTF21
import Derived.Deep.CutRange
set_option linter.unusedVariables false
set_option linter.unusedSimpArgs false
set_option linter.unnecessarySimpa false
namespace Go.Proofs.Sky
open Go Go.RowKit Go.Shelf
set_option maxHeartbeats 4000000
set_option maxRecDepth 4000
theorem rFeed_bad (ch : List Int) (v : Value) (S x y : Int) (l : List (Int × Int)) (vl : Value) (w : World) (hv : RdI w v ch) (hl : RdS w vl l) (h0 : errS ch S (x, y) ≠ 0) :
    Calls Try.prog 23 #[.agg #[v, .int .i64 S, .int .i64 x, .int .i64 y], vl] w fun e w' => SyP w.heap.size [] 0 (0, 0) (errS ch S (x, y)) e w' ∧ Bw w w' := by
  have HV := Lib.hid hv
  obtain ⟨ad, cap, rfl⟩ := hv.form
  obtain ⟨al, cl, rfl⟩ := hl.form
  clear hv hl
  have HC := Lib.hid (fun W hW => rCheck_any ch (.slice ad ch.length cap) S x y W hW)
  generalize errS ch S (x, y) = er at HC h0 ⊢
  have hne : (er != 0) = true := by simpa using h0
  obtain ⟨n, hn⟩ : ∃ n, n = ch.length := ⟨_, rfl⟩
  rw [← hn] at HC HV ⊢
  clear hn
  have HBW := Lib.hid (Bw.alloc (Bw.alloc (Bw.refl w) (.cells #[.slice ad n cap, .int .i64 S, .int .i64 x, .int .i64 y] 36)) (.cells #[.slice none 0 0, .int .i64 0, .int .i64 0, .int .i64 0] 36))
  have KX := Lib.hid ((Blk.new w 36 #[.slice ad n cap, .int .i64 S, .int .i64 x, .int .i64 y]).alloc (.cells #[.slice none 0 0, .int .i64 0, .int .i64 0, .int .i64 0] 36))
  have ZX : Hid (Blk ((w.alloc (.cells #[.slice ad n cap, .int .i64 S, .int .i64 x, .int .i64 y] 36)).alloc (.cells #[.slice none 0 0, .int .i64 0, .int .i64 0, .int .i64 0] 36)) (w.heap.size + 1) 36 #[.slice none 0 0, .int .i64 0, .int .i64 0, .int .i64 0]) := Lib.hid (by have h9 := Blk.new (w.alloc (.cells #[.slice ad n cap, .int .i64 S, .int .i64 x, .int .i64 y] 36)) 36 #[.slice none 0 0, .int .i64 0, .int .i64 0, .int .i64 0]; simpa using h9)
  go_enter Try.func23, Try.ntmps23
  go_wp2_with (go_at_call 27; (with_reducible refine Calls.mono (HC.out _ (HV.out.mono HBW.out)) ?_); rintro e1 w1 ⟨rfl, hb1⟩; replace HBW := Lib.hid (HBW.out.trans hb1); replace KX := Lib.hid (KX.out.bw hb1); replace ZX := Lib.hid (ZX.out.bw hb1); clear hb1; have k0 : w1.cell? ⟨w.heap.size, 0, none⟩ = some (.slice ad n cap) := KX.out.cell rfl; have k1 : w1.cell? ⟨w.heap.size, 1, none⟩ = some (.int .i64 S) := KX.out.cell rfl; have k2 : w1.cell? ⟨w.heap.size, 2, none⟩ = some (.int .i64 x) := KX.out.cell rfl; have k3 : w1.cell? ⟨w.heap.size, 3, none⟩ = some (.int .i64 y) := KX.out.cell rfl; have z0 : w1.cell? ⟨w.heap.size + 1, 0, none⟩ = some (.slice none 0 0) := ZX.out.cell rfl; have z1 : w1.cell? ⟨w.heap.size + 1, 1, none⟩ = some (.int .i64 0) := ZX.out.cell rfl; have z2 : w1.cell? ⟨w.heap.size + 1, 2, none⟩ = some (.int .i64 0) := ZX.out.cell rfl; have z3 : w1.cell? ⟨w.heap.size + 1, 3, none⟩ = some (.int .i64 0) := ZX.out.cell rfl; have q0 := ZX.out.frozen 0; have q1 := ZX.out.frozen 1; have q2 := ZX.out.frozen 2; have q3 := ZX.out.frozen 3)
  have B9 := (((ZX.out.set 0 (.slice none 0 0)).set 1 (.int .i64 0)).set 2 (.int .i64 0)).set 3 (.int .i64 0)
  have m0 := B9.cell (j := 0) rfl
  have m1 := B9.cell (j := 1) rfl
  have m2 := B9.cell (j := 2) rfl
  have m3 := B9.cell (j := 3) rfl
  refine bodyPost_ret (v := .tuple #[.agg #[.slice none 0 0, .int .i64 0, .int .i64 0, .int .i64 0], .int .i64 er]) ?_ rfl ⟨⟨_, rfl, RdI.nil _, Fresh.nil _ _ _⟩, Bw.setCell (Bw.setCell (Bw.setCell (Bw.setCell HBW.out (p := ⟨w.heap.size + 1, 0, none⟩) (by simp; try omega) _) (p := ⟨w.heap.size + 1, 1, none⟩) (by simp; try omega) _) (p := ⟨w.heap.size + 1, 2, none⟩) (by simp; try omega) _) (p := ⟨w.heap.size + 1, 3, none⟩) (by simp; try omega) _⟩
  simp [results, Try.results23, go_sem, m0, m1, m2, m3]
theorem rFeed_long (ch : List Int) (v : Value) (S x y : Int) (l : List (Int × Int)) (vl : Value) (w : World) (hv : RdI w v ch) (hl : RdS w vl l) (h0 : errS ch S (x, y) = 0) (hlen : 10000 < l.length) :
    Calls Try.prog 23 #[.agg #[v, .int .i64 S, .int .i64 x, .int .i64 y], vl] w fun e w' => SyP w.heap.size [] 0 (0, 0) 4 e w' ∧ Bw w w' := by
  have HV := Lib.hid hv
  obtain ⟨ad, cap, rfl⟩ := hv.form
  obtain ⟨al, cl, rfl⟩ := hl.form
  clear hv hl
  have HC := Lib.hid (fun W hW => rCheck_any ch (.slice ad ch.length cap) S x y W hW)
  rw [h0] at HC
  clear h0
  obtain ⟨n, hn⟩ : ∃ n, n = ch.length := ⟨_, rfl⟩
  rw [← hn] at HC HV ⊢
  clear hn
  have hli : (10000 : Int) < l.length := by omega
  have HBW := Lib.hid (Bw.alloc (Bw.alloc (Bw.refl w) (.cells #[.slice ad n cap, .int .i64 S, .int .i64 x, .int .i64 y] 36)) (.cells #[.slice none 0 0, .int .i64 0, .int .i64 0, .int .i64 0] 36))
  have KX := Lib.hid ((Blk.new w 36 #[.slice ad n cap, .int .i64 S, .int .i64 x, .int .i64 y]).alloc (.cells #[.slice none 0 0, .int .i64 0, .int .i64 0, .int .i64 0] 36))
  have ZX : Hid (Blk ((w.alloc (.cells #[.slice ad n cap, .int .i64 S, .int .i64 x, .int .i64 y] 36)).alloc (.cells #[.slice none 0 0, .int .i64 0, .int .i64 0, .int .i64 0] 36)) (w.heap.size + 1) 36 #[.slice none 0 0, .int .i64 0, .int .i64 0, .int .i64 0]) := Lib.hid (by have h9 := Blk.new (w.alloc (.cells #[.slice ad n cap, .int .i64 S, .int .i64 x, .int .i64 y] 36)) 36 #[.slice none 0 0, .int .i64 0, .int .i64 0, .int .i64 0]; simpa using h9)
  go_enter Try.func23, Try.ntmps23
  go_wp2_with (go_at_call 27; (with_reducible refine Calls.mono (HC.out _ (HV.out.mono HBW.out)) ?_); rintro e1 w1 ⟨rfl, hb1⟩; replace HBW := Lib.hid (HBW.out.trans hb1); replace KX := Lib.hid (KX.out.bw hb1); replace ZX := Lib.hid (ZX.out.bw hb1); clear hb1; have k0 : w1.cell? ⟨w.heap.size, 0, none⟩ = some (.slice ad n cap) := KX.out.cell rfl; have k1 : w1.cell? ⟨w.heap.size, 1, none⟩ = some (.int .i64 S) := KX.out.cell rfl; have k2 : w1.cell? ⟨w.heap.size, 2, none⟩ = some (.int .i64 x) := KX.out.cell rfl; have k3 : w1.cell? ⟨w.heap.size, 3, none⟩ = some (.int .i64 y) := KX.out.cell rfl; have z0 : w1.cell? ⟨w.heap.size + 1, 0, none⟩ = some (.slice none 0 0) := ZX.out.cell rfl; have z1 : w1.cell? ⟨w.heap.size + 1, 1, none⟩ = some (.int .i64 0) := ZX.out.cell rfl; have z2 : w1.cell? ⟨w.heap.size + 1, 2, none⟩ = some (.int .i64 0) := ZX.out.cell rfl; have z3 : w1.cell? ⟨w.heap.size + 1, 3, none⟩ = some (.int .i64 0) := ZX.out.cell rfl; have q0 := ZX.out.frozen 0; have q1 := ZX.out.frozen 1; have q2 := ZX.out.frozen 2; have q3 := ZX.out.frozen 3)
  have B9 := (((ZX.out.set 0 (.slice none 0 0)).set 1 (.int .i64 0)).set 2 (.int .i64 0)).set 3 (.int .i64 0)
  have m0 := B9.cell (j := 0) rfl
  have m1 := B9.cell (j := 1) rfl
  have m2 := B9.cell (j := 2) rfl
  have m3 := B9.cell (j := 3) rfl
  refine bodyPost_ret (v := .tuple #[.agg #[.slice none 0 0, .int .i64 0, .int .i64 0, .int .i64 0], .int .i64 4]) ?_ rfl ⟨⟨_, rfl, RdI.nil _, Fresh.nil _ _ _⟩, Bw.setCell (Bw.setCell (Bw.setCell (Bw.setCell HBW.out (p := ⟨w.heap.size + 1, 0, none⟩) (by simp; try omega) _) (p := ⟨w.heap.size + 1, 1, none⟩) (by simp; try omega) _) (p := ⟨w.heap.size + 1, 2, none⟩) (by simp; try omega) _) (p := ⟨w.heap.size + 1, 3, none⟩) (by simp; try omega) _⟩
  simp [results, Try.results23, go_sem, m0, m1, m2, m3]
theorem rFeed_main (ch : List Int) (v : Value) (S : Nat) (x y : Int) (l : List (Int × Int)) (vl : Value) (w : World) (hv : RdI w v ch) (hl : RdS w vl l) (h0 : errS ch S (x, y) = 0) (hlen : l.length ≤ 10000) :
    Calls Try.prog 23 #[.agg #[v, .int .i64 S, .int .i64 x, .int .i64 y], vl] w fun e w' => SyP w.heap.size (feedL ch S (x, y) l).1.1 (feedL ch S (x, y) l).1.2.1 (feedL ch S (x, y) l).1.2.2 (feedL ch S (x, y) l).2 e w' ∧ Bw w w' := by
  have HZ0 := Lib.hid h0
  have HLL := Lib.hid hl
  obtain ⟨al, cl, rfl⟩ := hl.form
  clear hl
  have HV := Lib.hid hv
  obtain ⟨b, off, cap, rfl, _, _⟩ := hv.at (by have := (errS_zero h0).1.1; omega)
  clear hv
  have hz := errS_zero h0
  have HC := Lib.hid (fun W hW => rCheck_any ch (.slice (some ⟨b, off, none⟩) ch.length cap) S x y W hW)
  rw [h0] at HC
  clear h0
  obtain ⟨n, hn⟩ : ∃ n, n = ch.length := ⟨_, rfl⟩
  rw [← hn] at HC HV hz ⊢
  have HN := Lib.hid hn
  clear hn
  obtain ⟨m, hm⟩ : ∃ m, m = l.length := ⟨_, rfl⟩
  rw [← hm] at HLL hlen ⊢
  have HM := Lib.hid hm
  clear hm
  obtain ⟨⟨n1, n2⟩, ⟨_, n3⟩, hil, hcb⟩ := hz
  clear hil hcb
  have hli : ¬ (10000 : Int) < m := by omega
  obtain ⟨FF, hFF⟩ : ∃ FF, FF = feedL ch S (x, y) l := ⟨_, rfl⟩
  rw [← hFF]
  have HF := Lib.hid hFF
  clear hFF
  have HBW := Lib.hid (Bw.alloc (Bw.alloc (Bw.refl w) (.cells #[.slice (some ⟨b, off, none⟩) n cap, .int .i64 S, .int .i64 x, .int .i64 y] 36)) (.cells #[.slice none 0 0, .int .i64 0, .int .i64 0, .int .i64 0] 36))
  have KX := Lib.hid ((Blk.new w 36 #[.slice (some ⟨b, off, none⟩) n cap, .int .i64 S, .int .i64 x, .int .i64 y]).alloc (.cells #[.slice none 0 0, .int .i64 0, .int .i64 0, .int .i64 0] 36))
  have ZX : Hid (Blk ((w.alloc (.cells #[.slice (some ⟨b, off, none⟩) n cap, .int .i64 S, .int .i64 x, .int .i64 y] 36)).alloc (.cells #[.slice none 0 0, .int .i64 0, .int .i64 0, .int .i64 0] 36)) (w.heap.size + 1) 36 #[.slice none 0 0, .int .i64 0, .int .i64 0, .int .i64 0]) := Lib.hid (by have h9 := Blk.new (w.alloc (.cells #[.slice (some ⟨b, off, none⟩) n cap, .int .i64 S, .int .i64 x, .int .i64 y] 36)) 36 #[.slice none 0 0, .int .i64 0, .int .i64 0, .int .i64 0]; simpa using h9)
  go_enter Try.func23, Try.ntmps23
  go_upto_region 6 with (go_at_call 27; (with_reducible refine Calls.mono (HC.out _ (HV.out.mono HBW.out)) ?_); rintro e1 w1 ⟨rfl, hb1⟩; replace HBW := Lib.hid (HBW.out.trans hb1); replace KX := Lib.hid (KX.out.bw hb1); replace ZX := Lib.hid (ZX.out.bw hb1); clear hb1; have k0 : w1.cell? ⟨w.heap.size, 0, none⟩ = some (.slice (some ⟨b, off, none⟩) n cap) := KX.out.cell rfl; have k1 : w1.cell? ⟨w.heap.size, 1, none⟩ = some (.int .i64 S) := KX.out.cell rfl; have k2 : w1.cell? ⟨w.heap.size, 2, none⟩ = some (.int .i64 x) := KX.out.cell rfl; have k3 : w1.cell? ⟨w.heap.size, 3, none⟩ = some (.int .i64 y) := KX.out.cell rfl; have z0 : w1.cell? ⟨w.heap.size + 1, 0, none⟩ = some (.slice none 0 0) := ZX.out.cell rfl; have z1 : w1.cell? ⟨w.heap.size + 1, 1, none⟩ = some (.int .i64 0) := ZX.out.cell rfl; have z2 : w1.cell? ⟨w.heap.size + 1, 2, none⟩ = some (.int .i64 0) := ZX.out.cell rfl; have z3 : w1.cell? ⟨w.heap.size + 1, 3, none⟩ = some (.int .i64 0) := ZX.out.cell rfl; have q0 := ZX.out.frozen 0; have q1 := ZX.out.frozen 1; have q2 := ZX.out.frozen 2; have q3 := ZX.out.frozen 3)
  obtain ⟨BB, hBB⟩ : ∃ BB, w1.heap.size = BB := ⟨_, rfl⟩
  have HBB := Lib.hid hBB
  have HZB := Lib.hid (show w.heap.size + 1 < BB by rw [← hBB]; exact ZX.out.lt)
  clear hBB
  go_cut [7] from 11 (fun s7 wc => ∃ g3 ga ca, s7 = .pointer (some ⟨g3, 0, none⟩) ∧ Hid (Bw w1 wc) ∧ Hid (Blk wc g3 36 #[.slice (some ⟨ga, 0, none⟩) n ca, .int .i64 S, .int .i64 x, .int .i64 y]) ∧ Hid (wc.ownsRow BB 3 1 (.slice (some ⟨ga, 0, none⟩) n ca) n (ch.map (Value.int .i64))) ∧ Hid (BB ≤ g3))
  case first =>
    clear k0 k1 k2 k3 z0 z1 z2 z3 q0 q1 q2 q3
    refine wp_region_held_drew (S := Bw w1) (by kernel_rfl) (Bw.drew (Bw.refl _)) (fun hS => ?_)
    generalize World.drew _ = wd at hS ⊢
    refine take1 (i := 1) (some 22) rfl rfl (by kernel_rfl) (by kernel_rfl) (by kernel_rfl) (fun _ _ _ _ h => h) rfl hS ?_
    apply Exists.intro
    apply And.intro
    · intro W9 hW9; skip; go_simp; try with_reducible rfl
    simp only [Act.put, List.setIfInBounds_toArray, List.set_cons_zero, List.set_cons_succ]
    refine take1 (i := 2) (some 23) rfl rfl (by kernel_rfl) (by kernel_rfl) (by kernel_rfl) (fun _ _ _ _ h => h) rfl hS ?_
    apply Exists.intro
    apply And.intro
    · intro W9 hW9; skip; have y0 := (KX.out.bw hW9).cell (j := 0) rfl; go_simp; try with_reducible rfl
    simp only [Act.put, List.setIfInBounds_toArray, List.set_cons_zero, List.set_cons_succ]
    refine take1 (i := 4) (some 25) rfl rfl (by kernel_rfl) (by kernel_rfl) (by kernel_rfl) (fun _ _ _ _ h => h) rfl hS ?_
    apply Exists.intro
    apply And.intro
    · intro W9 hW9; skip; go_simp; try with_reducible rfl
    simp only [Act.put, List.setIfInBounds_toArray, List.set_cons_zero, List.set_cons_succ]
    refine take1 (i := 5) (some 26) rfl rfl (by kernel_rfl) (by kernel_rfl) (by kernel_rfl) (fun _ _ _ _ h => h) rfl hS ?_
    apply Exists.intro
    apply And.intro
    · intro W9 hW9; skip; have y0 := (KX.out.bw hW9).cell (j := 1) rfl; go_simp; try with_reducible rfl
    simp only [Act.put, List.setIfInBounds_toArray, List.set_cons_zero, List.set_cons_succ]
    refine take1 (i := 6) (some 27) rfl rfl (by kernel_rfl) (by kernel_rfl) (by kernel_rfl) (fun _ _ _ _ h => h) rfl hS ?_
    apply Exists.intro
    apply And.intro
    · intro W9 hW9; skip; go_simp; try with_reducible rfl
    simp only [Act.put, List.setIfInBounds_toArray, List.set_cons_zero, List.set_cons_succ]
    refine take1 (i := 7) (some 28) rfl rfl (by kernel_rfl) (by kernel_rfl) (by kernel_rfl) (fun _ _ _ _ h => h) rfl hS ?_
    apply Exists.intro
    apply And.intro
    · intro W9 hW9; skip; have y2 := (KX.out.bw hW9).cell (j := 2) rfl; have y3 := (KX.out.bw hW9).cell (j := 3) rfl; go_simp; try with_reducible rfl
    simp only [Act.put, List.setIfInBounds_toArray, List.set_cons_zero, List.set_cons_succ]
    refine wpAnyH_ready (rs := [0, 9]) (by kernel_rfl) (by simp) ?_
    refine AllReadyH.cons rfl (fun K hK => ?_) ?_
    go_simp
    have hba := Bw.alloc (Bw.refl wd) (.cells #[] 3)
    obtain ⟨n0, hn0⟩ : ∃ n0, wd.heap.size = n0 := ⟨_, rfl⟩
    have HN0 := Lib.hid (show BB ≤ n0 by rw [← hn0]; exact Nat.le_trans (Nat.le_of_eq HBB.out.symm) hS.size)
    have O0 := Lib.hid (own_down (own0 (e := 3) wd n0 hn0) HN0.out)
    rw [hn0]
    refine hK.out _ _ (hS.trans hba) (fun hS => ?_)
    clear hK K
    clear hba hn0
    generalize World.alloc wd _ = wo at hS O0 ⊢
    refine wpAnyH_ready (rs := [3, 9]) (by kernel_rfl) (by simp) ?_
    refine AllReadyH.cons rfl (fun K hK => ?_) ?_
    rw [if_pos (by rfl)]
    refine wp_append_ints (.tmp 21) (.tmp 23) _ rfl (some 24) rfl BB 3 Try.underlying27 infoInt (.slice (some ⟨n0, 0, none⟩) 0 0) rfl O0.out ⟨b, off, none⟩ cap ch (congrArg (fun k => Value.slice (some ⟨b, off, none⟩) k cap) HN.out) (by rw [← HN.out]; exact HV.out.mono (HBW.out.trans hS)) (by have := HN.out; omega) (by rw [← HBB.out]; exact hS.size) ?_
    intro v9 wp hown hgr
    simp only [Act.put, List.setIfInBounds_toArray, List.set_cons_zero, List.set_cons_succ]
    have hb9 := Bw.grownN HBB.out hS O0.out hgr
    obtain ⟨ga, ca, rfl⟩ := own_some hown (by have := HN.out; omega)
    rw [← HN.out] at hown ⊢
    have O3 := Lib.hid hown
    clear hown hgr O0
    refine hK.out _ _ hb9 (fun hS => ?_)
    clear hK K
    refine take1 (i := 8) (some 29) rfl rfl (by kernel_rfl) (by kernel_rfl) (by kernel_rfl) (fun _ _ _ _ h => h) rfl hS ?_
    apply Exists.intro
    apply And.intro
    · intro W9 hW9; skip; go_simp; try with_reducible rfl
    simp only [Act.put, List.setIfInBounds_toArray, List.set_cons_zero, List.set_cons_succ]
    refine wpAnyH_ready (rs := [9]) (by kernel_rfl) (by simp) ?_
    refine AllReadyH.cons rfl (fun K hK => ?_) ?_
    rw [if_pos (by rfl)]
    refine wp_alloc_new 36 rfl (some 7) rfl _ (zeroSy _) ?_
    intro g3 wb hg3 hN hbw
    simp only [Act.put, List.setIfInBounds_toArray, List.set_cons_zero, List.set_cons_succ]
    have NB3 := Lib.hid hN
    have HG3 := Lib.hid (Nat.le_trans hS.size hg3)
    replace O3 := Lib.hid (own_bw O3.out hbw)
    clear hN
    refine hK.out _ _ (hS.trans hbw) (fun hS => ?_)
    clear hK K
    refine wpAnyH_ready (rs := [10]) (by kernel_rfl) (by simp) ?_
    refine AllReadyH.cons rfl (fun K hK => ?_) ?_
    rw [if_pos (by rfl)]
    refine wp_store_row0 36 _ _ rfl rfl g3 #[.slice (some ⟨ga, 0, none⟩) n ca, .int .i64 S, .int .i64 x, .int .i64 y] rfl rfl 36 #[.slice none 0 0, .int .i64 0, .int .i64 0, .int .i64 0] NB3.out (by kernel_rfl) rfl (by simp [Value.oneCell']) ?_
    have OB := NB3.out
    replace NB3 := Lib.hid (NB3.out.row #[.slice (some ⟨ga, 0, none⟩) n ca, .int .i64 S, .int .i64 x, .int .i64 y])
    replace O3 := Lib.hid (own_rowT O3.out OB (by decide) #[.slice (some ⟨ga, 0, none⟩) n ca, .int .i64 S, .int .i64 x, .int .i64 y])
    clear OB
    refine hK.out _ _ (Bw.setRow hS HG3.out #[.slice (some ⟨ga, 0, none⟩) n ca, .int .i64 S, .int .i64 x, .int .i64 y]) (fun hS => ?_)
    clear hK K
    refine wpAnyH_done (by kernel_rfl) ?_ _
    rotate_left
    exact AllReadyH.nil
    exact AllReadyH.nil
    refine AllReadyH.cons rfl (fun K hK => ?_) ?_
    rw [if_pos (by rfl)]
    refine wp_alloc_new 36 rfl (some 7) rfl _ (zeroSy _) ?_
    intro g3 wb hg3 hN hbw
    simp only [Act.put, List.setIfInBounds_toArray, List.set_cons_zero, List.set_cons_succ]
    have NB3 := Lib.hid hN
    have HG3 := Lib.hid (Nat.le_trans hS.size hg3)
    replace O0 := Lib.hid (own_bw O0.out hbw)
    clear hN
    refine hK.out _ _ (hS.trans hbw) (fun hS => ?_)
    clear hK K
    refine wpAnyH_ready (rs := [3]) (by kernel_rfl) (by simp) ?_
    refine AllReadyH.cons rfl (fun K hK => ?_) ?_
    rw [if_pos (by rfl)]
    refine wp_append_ints (.tmp 21) (.tmp 23) _ rfl (some 24) rfl BB 3 Try.underlying27 infoInt (.slice (some ⟨n0, 0, none⟩) 0 0) rfl O0.out ⟨b, off, none⟩ cap ch (congrArg (fun k => Value.slice (some ⟨b, off, none⟩) k cap) HN.out) (by rw [← HN.out]; exact HV.out.mono (HBW.out.trans hS)) (by have := HN.out; omega) (by rw [← HBB.out]; exact hS.size) ?_
    intro v9 wp hown hgr
    simp only [Act.put, List.setIfInBounds_toArray, List.set_cons_zero, List.set_cons_succ]
    have hb9 := Bw.grownN HBB.out hS O0.out hgr
    obtain ⟨ga, ca, rfl⟩ := own_some hown (by have := HN.out; omega)
    replace NB3 := Lib.hid (NB3.out.grownT O0.out hgr (by decide))
    rw [← HN.out] at hown ⊢
    have O3 := Lib.hid hown
    clear hown hgr O0
    refine hK.out _ _ hb9 (fun hS => ?_)
    clear hK K
    refine take1 (i := 8) (some 29) rfl rfl (by kernel_rfl) (by kernel_rfl) (by kernel_rfl) (fun _ _ _ _ h => h) rfl hS ?_
    apply Exists.intro
    apply And.intro
    · intro W9 hW9; skip; go_simp; try with_reducible rfl
    simp only [Act.put, List.setIfInBounds_toArray, List.set_cons_zero, List.set_cons_succ]
    refine wpAnyH_ready (rs := [10]) (by kernel_rfl) (by simp) ?_
    refine AllReadyH.cons rfl (fun K hK => ?_) ?_
    rw [if_pos (by rfl)]
    refine wp_store_row0 36 _ _ rfl rfl g3 #[.slice (some ⟨ga, 0, none⟩) n ca, .int .i64 S, .int .i64 x, .int .i64 y] rfl rfl 36 #[.slice none 0 0, .int .i64 0, .int .i64 0, .int .i64 0] NB3.out (by kernel_rfl) rfl (by simp [Value.oneCell']) ?_
    have OB := NB3.out
    replace NB3 := Lib.hid (NB3.out.row #[.slice (some ⟨ga, 0, none⟩) n ca, .int .i64 S, .int .i64 x, .int .i64 y])
    replace O3 := Lib.hid (own_rowT O3.out OB (by decide) #[.slice (some ⟨ga, 0, none⟩) n ca, .int .i64 S, .int .i64 x, .int .i64 y])
    clear OB
    refine hK.out _ _ (Bw.setRow hS HG3.out #[.slice (some ⟨ga, 0, none⟩) n ca, .int .i64 S, .int .i64 x, .int .i64 y]) (fun hS => ?_)
    clear hK K
    refine wpAnyH_done (by kernel_rfl) ?_ _
    rotate_left
    exact AllReadyH.nil
    exact AllReadyH.nil
    exact AllReadyH.nil
    refine AllReadyH.cons rfl (fun K hK => ?_) ?_
    rw [if_pos (by rfl)]
    refine wp_alloc_new 36 rfl (some 7) rfl _ (zeroSy _) ?_
    intro g3 wb hg3 hN hbw
    simp only [Act.put, List.setIfInBounds_toArray, List.set_cons_zero, List.set_cons_succ]
    have NB3 := Lib.hid hN
    have HG3 := Lib.hid (Nat.le_trans hS.size hg3)
    clear hN
    refine hK.out _ _ (hS.trans hbw) (fun hS => ?_)
    clear hK K
    refine wpAnyH_ready (rs := [0]) (by kernel_rfl) (by simp) ?_
    refine AllReadyH.cons rfl (fun K hK => ?_) ?_
    go_simp
    have hba := Bw.alloc (Bw.refl wb) (.cells #[] 3)
    obtain ⟨n0, hn0⟩ : ∃ n0, wb.heap.size = n0 := ⟨_, rfl⟩
    have HN0 := Lib.hid (show BB ≤ n0 by rw [← hn0]; exact Nat.le_trans (Nat.le_of_eq HBB.out.symm) hS.size)
    have O0 := Lib.hid (own_down (own0 (e := 3) wb n0 hn0) HN0.out)
    replace NB3 := Lib.hid (NB3.out.bw hba)
    rw [hn0]
    refine hK.out _ _ (hS.trans hba) (fun hS => ?_)
    clear hK K
    clear hba hn0
    generalize World.alloc wb _ = wo at hS O0 NB3 ⊢
    refine wpAnyH_ready (rs := [3]) (by kernel_rfl) (by simp) ?_
    refine AllReadyH.cons rfl (fun K hK => ?_) ?_
    rw [if_pos (by rfl)]
    refine wp_append_ints (.tmp 21) (.tmp 23) _ rfl (some 24) rfl BB 3 Try.underlying27 infoInt (.slice (some ⟨n0, 0, none⟩) 0 0) rfl O0.out ⟨b, off, none⟩ cap ch (congrArg (fun k => Value.slice (some ⟨b, off, none⟩) k cap) HN.out) (by rw [← HN.out]; exact HV.out.mono (HBW.out.trans hS)) (by have := HN.out; omega) (by rw [← HBB.out]; exact hS.size) ?_
    intro v9 wp hown hgr
    simp only [Act.put, List.setIfInBounds_toArray, List.set_cons_zero, List.set_cons_succ]
    have hb9 := Bw.grownN HBB.out hS O0.out hgr
    obtain ⟨ga, ca, rfl⟩ := own_some hown (by have := HN.out; omega)
    replace NB3 := Lib.hid (NB3.out.grownT O0.out hgr (by decide))
    rw [← HN.out] at hown ⊢
    have O3 := Lib.hid hown
    clear hown hgr O0
    refine hK.out _ _ hb9 (fun hS => ?_)
    clear hK K
    refine take1 (i := 8) (some 29) rfl rfl (by kernel_rfl) (by kernel_rfl) (by kernel_rfl) (fun _ _ _ _ h => h) rfl hS ?_
    apply Exists.intro
    apply And.intro
    · intro W9 hW9; skip; go_simp; try with_reducible rfl
    simp only [Act.put, List.setIfInBounds_toArray, List.set_cons_zero, List.set_cons_succ]
    refine wpAnyH_ready (rs := [10]) (by kernel_rfl) (by simp) ?_
    refine AllReadyH.cons rfl (fun K hK => ?_) ?_
    rw [if_pos (by rfl)]
    refine wp_store_row0 36 _ _ rfl rfl g3 #[.slice (some ⟨ga, 0, none⟩) n ca, .int .i64 S, .int .i64 x, .int .i64 y] rfl rfl 36 #[.slice none 0 0, .int .i64 0, .int .i64 0, .int .i64 0] NB3.out (by kernel_rfl) rfl (by simp [Value.oneCell']) ?_
    have OB := NB3.out
    replace NB3 := Lib.hid (NB3.out.row #[.slice (some ⟨ga, 0, none⟩) n ca, .int .i64 S, .int .i64 x, .int .i64 y])
    replace O3 := Lib.hid (own_rowT O3.out OB (by decide) #[.slice (some ⟨ga, 0, none⟩) n ca, .int .i64 S, .int .i64 x, .int .i64 y])
    clear OB
    refine hK.out _ _ (Bw.setRow hS HG3.out #[.slice (some ⟨ga, 0, none⟩) n ca, .int .i64 S, .int .i64 x, .int .i64 y]) (fun hS => ?_)
    clear hK K
    refine wpAnyH_done (by kernel_rfl) ?_ _
    rotate_left
    exact AllReadyH.nil
    exact AllReadyH.nil
    exact AllReadyH.nil
    exact AllReadyH.nil
    all_goals
      go_wp2
      go_meet
      exact ⟨g3, ga, ca, rfl, Lib.hid hS, NB3, O3, Lib.hid (by rw [← HBB.out]; exact HG3.out)⟩
  case rest =>
    obtain ⟨g7, ga, ca, rfl, hb2, B7, O3, HG7⟩ := hcut
    clear k0 k1 k2 k3 z0 z1 z2 z3 q0 q1 q2 q3
    replace HBW := Lib.hid (HBW.out.trans hb2.out)
    replace KX := Lib.hid (KX.out.bw hb2.out)
    replace ZX := Lib.hid (ZX.out.bw hb2.out)
    have RV := Lib.hid (own_rdN O3.out (by omega) HN.out.symm)
    have HFR := Lib.hid ((own_fresh O3.out).mono (show w.heap.size + 2 ≤ BB by have := HZB.out; omega))
    have HGG := Lib.hid (show w.heap.size + 2 ≤ g7 by have := HZB.out; have := HG7.out; omega)
    clear hb2 O3 HG7 KX
    go_wp2
    go_loopg [8] 10000 (fun gg s8 wr => ∃ k : Nat, k ≤ m ∧ m - k ≤ gg ∧ s8 = .int .i64 k ∧ ∃ (aa : Option Addr) (cc : Nat) (ch' : List Int) (S' : Nat) (x' y' : Int), Hid (Blk wr g7 36 #[.slice aa n cc, .int .i64 (S' : Int), .int .i64 x', .int .i64 y']) ∧ Hid (RdI wr (.slice aa n cc) ch') ∧ Hid (Fresh (w.heap.size + 2) (.slice aa n cc)) ∧ Hid (errS ch' S' (x', y') = 0) ∧ Hid (ch'.length = n) ∧ Hid (Bw w wr) ∧ Hid (Blk wr (w.heap.size + 1) 36 #[.slice none 0 0, .int .i64 0, .int .i64 0, .int .i64 0]) ∧ Hid (FF = feedL ch' S' (x', y') (l.drop k)))
    case atStart => exact ⟨0, Nat.zero_le _, by omega, rfl, _, _, ch, S, x, y, B7, RV, HFR, HZ0, Lib.hid HN.out.symm, HBW, ZX, Lib.hid (by rw [List.drop_zero]; exact HF.out)⟩
    case round =>
      clear B7 RV HFR HBW ZX HF HZ0
      obtain ⟨k, hk, hgg, rfl, aa, cc, ch', S', x', y', B7, RV, HFR, HZ, HLN, HBW, ZX, HF⟩ := hrel
      by_cases hlt : k < m
      · have hkz : (k : Int) < m := by omega
        have HD := Lib.hid (show l.drop k = l.getD k (0, 0) :: l.drop (k + 1) by
          have hkl : k < l.length := by have := HM.out; omega
          rw [List.getD_eq_getElem?_getD, List.getElem?_eq_getElem hkl]; exact List.drop_eq_getElem_cons hkl)
        obtain ⟨b4, o4, cc4, hv4, hb4, hd4⟩ := HLL.out.at (by have := HM.out; omega)
        injection hv4 with i1 i2 i3; subst i1; clear i2 i3 hb4
        have d1 := HBW.out.cell' (hd4 k (by have := HM.out; omega)).1
        have d2 := HBW.out.cell' (hd4 k (by have := HM.out; omega)).2
        clear hd4
        generalize l.getD k (0, 0) = P at d1 d2 HD
        obtain ⟨a1, a2⟩ := P
        simp only at d1 d2
        have ADD := Lib.hid (fun W (hW : RdI W (.slice aa n cc) ch') => rAdd_main ch' (.slice aa n cc) S' x' y' a1 a2 W hW HZ.out)
        unfold SyP at ADD
        have HST := Lib.hid (fun h => errS_step (a := (a1, a2)) HZ.out h)
        have HSN := Lib.hid (errS_zero HZ.out).2.1.2
        have HCL := Lib.hid (chN_len ch' S' (x', y') (a1, a2))
        have HFE := Lib.hid (show FF = if addE S' (a1, a2) = 0 then feedL (chN ch' S' (x', y') (a1, a2)) ((S' : Int) + 1) (a1, a2) (l.drop (k + 1)) else (([], 0, (0, 0)), addE S' (a1, a2)) by rw [HF.out, HD.out, feedL])
        clear HF HD HZ
        obtain ⟨er, her⟩ : ∃ er, er = addE S' (a1, a2) := ⟨_, rfl⟩
        rw [← her] at ADD HST HFE
        obtain ⟨s5, hs5⟩ : ∃ s5 : Int, s5 = if er = 0 then (S' : Int) + 1 else 0 := ⟨_, rfl⟩
        obtain ⟨l5, hl5⟩ : ∃ l5 : Int × Int, l5 = if er = 0 then (a1, a2) else (0, 0) := ⟨_, rfl⟩
        obtain ⟨ch5, hc5⟩ : ∃ ch5 : List Int, ch5 = if er = 0 then chN ch' S' (x', y') (a1, a2) else [] := ⟨_, rfl⟩
        rw [← hs5, ← hl5, ← hc5] at ADD
        obtain ⟨x5, y5⟩ := l5
        simp only at ADD
        have HS5 := Lib.hid hs5; have HL5 := Lib.hid hl5; have HC5 := Lib.hid hc5
        clear her hs5 hl5 hc5
        have HWL := Lib.hid ZX.out.lt
        have HGL := Lib.hid B7.out.lt
        go_upto_region 10 with fail
        go_cut [9, 10] from 30 to 49 (fun s9 s10 wc => ∃ g9 a5 c5, s9 = .pointer (some ⟨g9, 0, none⟩) ∧ s10 = .int .i64 er ∧ Hid (Bw wr wc) ∧ Hid (Blk wc g9 36 #[.slice a5 ch5.length c5, .int .i64 s5, .int .i64 x5, .int .i64 y5]) ∧ Hid (RdI wc (.slice a5 ch5.length c5) ch5) ∧ Hid (Fresh wr.heap.size (.slice a5 ch5.length c5)))
        case first =>
          refine wp_region_held_drew (S := Bw wr) (by kernel_rfl) (Bw.drew (Bw.refl _)) (fun hS => ?_)
          generalize World.drew _ = wd at hS ⊢
          refine take1 (i := 0) (some 37) rfl rfl (by kernel_rfl) (by kernel_rfl) (by kernel_rfl) (fun _ _ _ _ h => h) rfl hS ?_
          apply Exists.intro
          apply And.intro
          · intro W9 hW9; skip; exact run_load_row 36 _ rfl g7 rfl 36 _ _ (B7.out.bw hW9) Try.underlying36 rfl (by kernel_rfl)
          simp only [Act.put, List.setIfInBounds_toArray, List.set_cons_zero, List.set_cons_succ]
          refine take1 (i := 1) (some 38) rfl rfl (by kernel_rfl) (by kernel_rfl) (by kernel_rfl) (fun _ _ _ _ h => h) rfl hS ?_
          apply Exists.intro
          apply And.intro
          · intro W9 hW9; skip; go_simp; try with_reducible rfl
          simp only [Act.put, List.setIfInBounds_toArray, List.set_cons_zero, List.set_cons_succ]
          refine take1 (i := 2) (some 39) rfl rfl (by kernel_rfl) (by kernel_rfl) (by kernel_rfl) (fun _ _ _ _ h => h) rfl hS ?_
          apply Exists.intro
          apply And.intro
          · intro W9 hW9; skip; go_simp; try with_reducible rfl
          simp only [Act.put, List.setIfInBounds_toArray, List.set_cons_zero, List.set_cons_succ]
          refine take1 (i := 3) (some 40) rfl rfl (by kernel_rfl) (by kernel_rfl) (by kernel_rfl) (fun _ _ _ _ h => h) rfl hS ?_
          apply Exists.intro
          apply And.intro
          · intro W9 hW9; skip; go_simp; try with_reducible rfl
          simp only [Act.put, List.setIfInBounds_toArray, List.set_cons_zero, List.set_cons_succ]
          refine take1 (i := 4) (some 41) rfl rfl (by kernel_rfl) (by kernel_rfl) (by kernel_rfl) (fun _ _ _ _ h => h) rfl hS ?_
          apply Exists.intro
          apply And.intro
          · intro W9 hW9; skip; have y0 := hW9.cell' d1; have y1 := hW9.cell' d2; go_simp; try with_reducible rfl
          simp only [Act.put, List.setIfInBounds_toArray, List.set_cons_zero, List.set_cons_succ]
          refine wpAnyH_ready (rs := [5, 9]) (by kernel_rfl) (by simp) ?_
          refine AllReadyH.cons rfl (fun K hK => ?_) ?_
          go_simp
          go_wp2_with (go_at_call 29; (with_reducible refine Calls.mono (ADD.out _ (RV.out.mono hS)) ?_); rintro e1 w15 ⟨⟨v15, rfl, hr15, hf15⟩, hb15⟩)
          obtain ⟨a5, c5, rfl⟩ := hr15.form
          have hf16 := hf15.mono hS.size
          have HD5 := Lib.hid hr15
          have HF5 := Lib.hid hf16
          clear hr15 hf15 hf16
          refine hK.out _ _ (hS.trans hb15) (fun hS => ?_)
          clear hK K
          refine take1 (i := 6) (some 36) rfl rfl (by kernel_rfl) (by kernel_rfl) (by kernel_rfl) (fun _ _ _ _ h => h) rfl hS ?_
          apply Exists.intro
          apply And.intro
          · intro W9 hW9; skip; go_simp; try with_reducible rfl
          simp only [Act.put, List.setIfInBounds_toArray, List.set_cons_zero, List.set_cons_succ]
          refine take1 (i := 7) (some 43) rfl rfl (by kernel_rfl) (by kernel_rfl) (by kernel_rfl) (fun _ _ _ _ h => h) rfl hS ?_
          apply Exists.intro
          apply And.intro
          · intro W9 hW9; skip; go_simp; try with_reducible rfl
          simp only [Act.put, List.setIfInBounds_toArray, List.set_cons_zero, List.set_cons_succ]
          refine take1 (i := 8) (some 44) rfl rfl (by kernel_rfl) (by kernel_rfl) (by kernel_rfl) (fun _ _ _ _ h => h) rfl hS ?_
          apply Exists.intro
          apply And.intro
          · intro W9 hW9; skip; go_simp; try with_reducible rfl
          simp only [Act.put, List.setIfInBounds_toArray, List.set_cons_zero, List.set_cons_succ]
          refine wpAnyH_ready (rs := [9]) (by kernel_rfl) (by simp) ?_
          refine AllReadyH.cons rfl (fun K hK => ?_) ?_
          rw [if_pos (by rfl)]
          refine wp_alloc_new 36 rfl (some 9) rfl _ (zeroSy _) ?_
          intro g3 w7 hg3 hN hbw
          simp only [Act.put, List.setIfInBounds_toArray, List.set_cons_zero, List.set_cons_succ]
          have NB3 := Lib.hid hN
          have NB3L := Lib.hid hN.lt
          have HG3 := Lib.hid (Nat.le_trans hS.size hg3)
          have NE3 := Lib.hid (HD5.out.off hg3)
          replace HD5 := Lib.hid (HD5.out.mono hbw)
          clear hN
          refine hK.out _ _ (hS.trans hbw) (fun hS => ?_)
          clear hK K
          refine wpAnyH_ready (rs := [10]) (by kernel_rfl) (by simp) ?_
          refine AllReadyH.cons rfl (fun K hK => ?_) ?_
          rw [if_pos (by rfl)]
          refine wp_store_row0 36 _ _ rfl rfl g3 #[.slice a5 ch5.length c5, .int .i64 s5, .int .i64 x5, .int .i64 y5] rfl rfl 36 #[.slice none 0 0, .int .i64 0, .int .i64 0, .int .i64 0] NB3.out (by kernel_rfl) rfl (by simp [Value.oneCell']) ?_
          replace NB3 := Lib.hid (NB3.out.row #[.slice a5 ch5.length c5, .int .i64 s5, .int .i64 x5, .int .i64 y5])
          replace HD5 := Lib.hid (HD5.out.rowOff NE3.out #[.slice a5 ch5.length c5, .int .i64 s5, .int .i64 x5, .int .i64 y5])
          refine hK.out _ _ (Bw.setRow hS HG3.out #[.slice a5 ch5.length c5, .int .i64 s5, .int .i64 x5, .int .i64 y5]) (fun hS => ?_)
          clear hK K
          refine take1 (i := 11) (some 10) rfl rfl (by kernel_rfl) (by kernel_rfl) (by kernel_rfl) (fun _ _ _ _ h => h) rfl hS ?_
          apply Exists.intro
          apply And.intro
          · intro W9 hW9; skip; go_simp; try with_reducible rfl
          simp only [Act.put, List.setIfInBounds_toArray, List.set_cons_zero, List.set_cons_succ]
          refine wpAnyH_done (by kernel_rfl) ?_ _
          rotate_left
          exact AllReadyH.nil
          exact AllReadyH.nil
          refine AllReadyH.cons rfl (fun K hK => ?_) ?_
          rw [if_pos (by rfl)]
          refine wp_alloc_new 36 rfl (some 9) rfl _ (zeroSy _) ?_
          intro g3 w7 hg3 hN hbw
          simp only [Act.put, List.setIfInBounds_toArray, List.set_cons_zero, List.set_cons_succ]
          have NB3 := Lib.hid hN
          have NB3L := Lib.hid hN.lt
          have HG3 := Lib.hid (Nat.le_trans hS.size hg3)
          clear hN
          refine hK.out _ _ (hS.trans hbw) (fun hS => ?_)
          clear hK K
          refine wpAnyH_ready (rs := [5]) (by kernel_rfl) (by simp) ?_
          refine AllReadyH.cons rfl (fun K hK => ?_) ?_
          go_simp
          go_wp2_with (go_at_call 29; (with_reducible refine Calls.mono (ADD.out _ (RV.out.mono hS)) ?_); rintro e1 w15 ⟨⟨v15, rfl, hr15, hf15⟩, hb15⟩)
          obtain ⟨a5, c5, rfl⟩ := hr15.form
          have hf16 := hf15.mono hS.size
          replace NB3 := Lib.hid (NB3.out.bw hb15)
          have NE3 := Lib.hid (hf15.off (Nat.lt_of_lt_of_le NB3L.out (Nat.le_refl _)) ch5)
          have HD5 := Lib.hid hr15
          have HF5 := Lib.hid hf16
          clear hr15 hf15 hf16
          refine hK.out _ _ (hS.trans hb15) (fun hS => ?_)
          clear hK K
          refine take1 (i := 6) (some 36) rfl rfl (by kernel_rfl) (by kernel_rfl) (by kernel_rfl) (fun _ _ _ _ h => h) rfl hS ?_
          apply Exists.intro
          apply And.intro
          · intro W9 hW9; skip; go_simp; try with_reducible rfl
          simp only [Act.put, List.setIfInBounds_toArray, List.set_cons_zero, List.set_cons_succ]
          refine take1 (i := 7) (some 43) rfl rfl (by kernel_rfl) (by kernel_rfl) (by kernel_rfl) (fun _ _ _ _ h => h) rfl hS ?_
          apply Exists.intro
          apply And.intro
          · intro W9 hW9; skip; go_simp; try with_reducible rfl
          simp only [Act.put, List.setIfInBounds_toArray, List.set_cons_zero, List.set_cons_succ]
          refine take1 (i := 8) (some 44) rfl rfl (by kernel_rfl) (by kernel_rfl) (by kernel_rfl) (fun _ _ _ _ h => h) rfl hS ?_
          apply Exists.intro
          apply And.intro
          · intro W9 hW9; skip; go_simp; try with_reducible rfl
          simp only [Act.put, List.setIfInBounds_toArray, List.set_cons_zero, List.set_cons_succ]
          refine wpAnyH_ready (rs := [10]) (by kernel_rfl) (by simp) ?_
          refine AllReadyH.cons rfl (fun K hK => ?_) ?_
          rw [if_pos (by rfl)]
          refine wp_store_row0 36 _ _ rfl rfl g3 #[.slice a5 ch5.length c5, .int .i64 s5, .int .i64 x5, .int .i64 y5] rfl rfl 36 #[.slice none 0 0, .int .i64 0, .int .i64 0, .int .i64 0] NB3.out (by kernel_rfl) rfl (by simp [Value.oneCell']) ?_
          replace NB3 := Lib.hid (NB3.out.row #[.slice a5 ch5.length c5, .int .i64 s5, .int .i64 x5, .int .i64 y5])
          replace HD5 := Lib.hid (HD5.out.rowOff NE3.out #[.slice a5 ch5.length c5, .int .i64 s5, .int .i64 x5, .int .i64 y5])
          refine hK.out _ _ (Bw.setRow hS HG3.out #[.slice a5 ch5.length c5, .int .i64 s5, .int .i64 x5, .int .i64 y5]) (fun hS => ?_)
          clear hK K
          refine take1 (i := 11) (some 10) rfl rfl (by kernel_rfl) (by kernel_rfl) (by kernel_rfl) (fun _ _ _ _ h => h) rfl hS ?_
          apply Exists.intro
          apply And.intro
          · intro W9 hW9; skip; go_simp; try with_reducible rfl
          simp only [Act.put, List.setIfInBounds_toArray, List.set_cons_zero, List.set_cons_succ]
          refine wpAnyH_done (by kernel_rfl) ?_ _
          rotate_left
          exact AllReadyH.nil
          exact AllReadyH.nil
          exact AllReadyH.nil
          all_goals
            go_wp2
            go_meet
            exact ⟨g3, _, _, rfl, rfl, Lib.hid hS, NB3, HD5, HF5⟩
        case rest =>
          obtain ⟨g9, a5, c5, rfl, rfl, hb2, N9, HD5, HF5⟩ := hcut
          replace HBW := Lib.hid (HBW.out.trans hb2.out)
          replace ZX := Lib.hid (ZX.out.bw hb2.out)
          replace B7 := Lib.hid (B7.out.bw hb2.out)
          have HF6 := Lib.hid (HF5.out.mono (show w.heap.size + 2 ≤ wr.heap.size by have := HWL.out; omega))
          clear hb2 d1 d2 RV HFR ADD
          by_cases he : er = 0
          · subst he
            obtain rfl : s5 = ((S' + 1 : Nat) : Int) := by rw [HS5.out, if_pos rfl]; omega
            obtain ⟨rfl, rfl⟩ : x5 = a1 ∧ y5 = a2 := by have h := HL5.out; rw [if_pos rfl] at h; injection h with e1 e2; exact ⟨e1, e2⟩
            have HC6 := Lib.hid (show ch5 = chN ch' S' (x', y') (x5, y5) by rw [HC5.out, if_pos rfl])
            have HL6 := Lib.hid (show ch5.length = n by rw [HC6.out, HCL.out]; exact HLN.out)
            rw [HL6.out] at N9 HD5 HF5 HF6
            have HFN := Lib.hid (show FF = feedL ch5 ((S' + 1 : Nat) : Int) (x5, y5) (l.drop (k + 1)) by rw [HFE.out, if_pos rfl, HC6.out]; rfl)
            have HEN := Lib.hid (show errS ch5 ((S' + 1 : Nat) : Int) (x5, y5) = 0 by rw [HC6.out]; exact HST.out rfl)
            have c0 : wc.cell? ⟨g9, 0, none⟩ = some (.slice a5 n c5) := N9.out.cell rfl
            have c1 : wc.cell? ⟨g9, 1, none⟩ = some (.int .i64 ((S' + 1 : Nat) : Int)) := N9.out.cell rfl
            have c2 : wc.cell? ⟨g9, 2, none⟩ = some (.int .i64 x5) := N9.out.cell rfl
            have c3 : wc.cell? ⟨g9, 3, none⟩ = some (.int .i64 y5) := N9.out.cell rfl
            have f0 : wc.cell? ⟨g7, 0, none⟩ = some (.slice aa n cc) := B7.out.cell rfl
            have f1 : wc.cell? ⟨g7, 1, none⟩ = some (.int .i64 (S' : Int)) := B7.out.cell rfl
            have f2 : wc.cell? ⟨g7, 2, none⟩ = some (.int .i64 x') := B7.out.cell rfl
            have f3 : wc.cell? ⟨g7, 3, none⟩ = some (.int .i64 y') := B7.out.cell rfl
            have q0 := B7.out.frozen 0
            have q1 := B7.out.frozen 1
            have q2 := B7.out.frozen 2
            have q3 := B7.out.frozen 3
            have NB := Lib.hid ((((B7.out.set 0 (.slice a5 n c5)).set 1 (.int .i64 ((S' + 1 : Nat) : Int))).set 2 (.int .i64 x5)).set 3 (.int .i64 y5))
            have NZ := Lib.hid ((((ZX.out.set_other (show w.heap.size + 1 ≠ g7 by have := HGG.out; omega) 0 (.slice a5 n c5)).set_other (show w.heap.size + 1 ≠ g7 by have := HGG.out; omega) 1 (.int .i64 ((S' + 1 : Nat) : Int))).set_other (show w.heap.size + 1 ≠ g7 by have := HGG.out; omega) 2 (.int .i64 x5)).set_other (show w.heap.size + 1 ≠ g7 by have := HGG.out; omega) 3 (.int .i64 y5))
            have NW := Lib.hid (Bw.setCell (Bw.setCell (Bw.setCell (Bw.setCell HBW.out (p := ⟨g7, 0, none⟩) (by have := HGG.out; simp; omega) (.slice a5 n c5)) (p := ⟨g7, 1, none⟩) (by have := HGG.out; simp; omega) (.int .i64 ((S' + 1 : Nat) : Int))) (p := ⟨g7, 2, none⟩) (by have := HGG.out; simp; omega) (.int .i64 x5)) (p := ⟨g7, 3, none⟩) (by have := HGG.out; simp; omega) (.int .i64 y5))
            have ND := Lib.hid ((((HD5.out.set HF5.out HGL.out 0 (.slice a5 n c5)).set HF5.out HGL.out 1 (.int .i64 ((S' + 1 : Nat) : Int))).set HF5.out HGL.out 2 (.int .i64 x5)).set HF5.out HGL.out 3 (.int .i64 y5))
            have hsn := HSN.out
            have hs6 : ((S' + 1 : Nat) : Int) = (S' : Int) + 1 := by omega
            go_wp2
            go_roundg (m - (k + 1))
            case measure => omega
            case rel => exact ⟨k + 1, by omega, by omega, by go_num, a5, c5, ch5, S' + 1, x5, y5, Lib.hid (by simpa using NB.out), Lib.hid ND.out, HF6, HEN, HL6, Lib.hid NW.out, Lib.hid NZ.out, HFN⟩
          · have hne : (er != 0) = true := by simpa using he
            have HFE2 := Lib.hid (show FF = (([], 0, (0, 0)), er) by rw [HFE.out, if_neg he])
            have z0 : wc.cell? ⟨w.heap.size + 1, 0, none⟩ = some (.slice none 0 0) := ZX.out.cell rfl
            have z1 : wc.cell? ⟨w.heap.size + 1, 1, none⟩ = some (.int .i64 0) := ZX.out.cell rfl
            have z2 : wc.cell? ⟨w.heap.size + 1, 2, none⟩ = some (.int .i64 0) := ZX.out.cell rfl
            have z3 : wc.cell? ⟨w.heap.size + 1, 3, none⟩ = some (.int .i64 0) := ZX.out.cell rfl
            have q0 := ZX.out.frozen 0
            have q1 := ZX.out.frozen 1
            have q2 := ZX.out.frozen 2
            have q3 := ZX.out.frozen 3
            go_wp2
            have B9 := (((ZX.out.set 0 (.slice none 0 0)).set 1 (.int .i64 0)).set 2 (.int .i64 0)).set 3 (.int .i64 0)
            have m0 := B9.cell (j := 0) rfl
            have m1 := B9.cell (j := 1) rfl
            have m2 := B9.cell (j := 2) rfl
            have m3 := B9.cell (j := 3) rfl
            refine bodyPost_ret (v := .tuple #[.agg #[.slice none 0 0, .int .i64 0, .int .i64 0, .int .i64 0], .int .i64 er]) ?_ rfl ⟨by rw [HFE2.out]; exact ⟨_, rfl, RdI.nil _, Fresh.nil _ _ _⟩, Bw.setCell (Bw.setCell (Bw.setCell (Bw.setCell HBW.out (p := ⟨w.heap.size + 1, 0, none⟩) (by simp; try omega) _) (p := ⟨w.heap.size + 1, 1, none⟩) (by simp; try omega) _) (p := ⟨w.heap.size + 1, 2, none⟩) (by simp; try omega) _) (p := ⟨w.heap.size + 1, 3, none⟩) (by simp; try omega) _⟩
            simp [results, Try.results23, go_sem, m0, m1, m2, m3]
      · obtain rfl : m = k := by omega
        have hkz : ¬ (m : Int) < m := by omega
        have HFE2 := Lib.hid (show FF = ((ch', (S' : Int), (x', y')), 0) by rw [HF.out, List.drop_eq_nil_of_le (by have := HM.out; omega), feedL])
        have HZL : w.heap.size + 1 < w.heap.size + 2 := by omega
        have HRD := Lib.hid ((((RV.out.set HFR.out HZL 0 (.slice aa n cc)).set HFR.out HZL 1 (.int .i64 (S' : Int))).set HFR.out HZL 2 (.int .i64 x')).set HFR.out HZL 3 (.int .i64 y'))
        have HFS := Lib.hid (HFR.out.mono (show w.heap.size ≤ w.heap.size + 2 by omega))
        clear HZL RV HFR
        have c0 : wr.cell? ⟨g7, 0, none⟩ = some (.slice aa n cc) := B7.out.cell rfl
        have c1 : wr.cell? ⟨g7, 1, none⟩ = some (.int .i64 (S' : Int)) := B7.out.cell rfl
        have c2 : wr.cell? ⟨g7, 2, none⟩ = some (.int .i64 x') := B7.out.cell rfl
        have c3 : wr.cell? ⟨g7, 3, none⟩ = some (.int .i64 y') := B7.out.cell rfl
        have z0 : wr.cell? ⟨w.heap.size + 1, 0, none⟩ = some (.slice none 0 0) := ZX.out.cell rfl
        have z1 : wr.cell? ⟨w.heap.size + 1, 1, none⟩ = some (.int .i64 0) := ZX.out.cell rfl
        have z2 : wr.cell? ⟨w.heap.size + 1, 2, none⟩ = some (.int .i64 0) := ZX.out.cell rfl
        have z3 : wr.cell? ⟨w.heap.size + 1, 3, none⟩ = some (.int .i64 0) := ZX.out.cell rfl
        have q0 := ZX.out.frozen 0
        have q1 := ZX.out.frozen 1
        have q2 := ZX.out.frozen 2
        have q3 := ZX.out.frozen 3
        go_wp2
        have B9 := (((ZX.out.set 0 (.slice aa n cc)).set 1 (.int .i64 (S' : Int))).set 2 (.int .i64 x')).set 3 (.int .i64 y')
        have m0 := B9.cell (j := 0) rfl
        have m1 := B9.cell (j := 1) rfl
        have m2 := B9.cell (j := 2) rfl
        have m3 := B9.cell (j := 3) rfl
        refine bodyPost_ret (v := .tuple #[.agg #[.slice aa n cc, .int .i64 (S' : Int), .int .i64 x', .int .i64 y'], .int .i64 0]) ?_ rfl ⟨by rw [HFE2.out]; exact ⟨_, rfl, HRD.out, HFS.out⟩, Bw.setCell (Bw.setCell (Bw.setCell (Bw.setCell HBW.out (p := ⟨w.heap.size + 1, 0, none⟩) (by simp; try omega) _) (p := ⟨w.heap.size + 1, 1, none⟩) (by simp; try omega) _) (p := ⟨w.heap.size + 1, 2, none⟩) (by simp; try omega) _) (p := ⟨w.heap.size + 1, 3, none⟩) (by simp; try omega) _⟩
        simp [results, Try.results23, go_sem, m0, m1, m2, m3]
end Go.Proofs.Sky
