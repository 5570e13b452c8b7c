/-
  lemmas for the theorems of this claim. No conditions beyond those written in the statements.
-/
import Derived.Test.YtdaplhjkccfmgaaJ30
import Derived.Test.YtdaplhjkccfmgaaHeld
set_option linter.unusedVariables false
set_option linter.unusedSimpArgs false
set_option linter.unnecessarySimpa false
namespace Go.Proofs.Sky
open Go Go.RowKit Go.Shelf
set_option maxHeartbeats 4000000
theorem Rg.size (r : Rg) : r.arr.size = 104 := r.arr_ok.size
theorem of_det (Wn : Nat) (L : Int) (ds : List Int) (v : Value) (w : World) (hv : RdI w v ds) (hW0 : (1 : Int) ≤ Wn) (hW1 : (Wn : Int) ≤ 100) (hl : (ds.length : Int) ≤ Wn) (hds : OkD ds) :
    Calls Try.prog 24 #[.agg #[.int .i64 Wn, .int .i64 L, v]] w fun e w' => e = .returned (.agg (Rg.of Wn ds).arr) ∧ Bw w w' :=
  (of_any Wn L ds v w hv hW0 hW1 hl hds).mono fun e w' ⟨⟨v', he, hv'⟩, hb⟩ => ⟨by rw [he, hv'.1], hb⟩
theorem step_det (r : Rg) (p f L : Int) (w : World) (hr : r.ok) (hds : OkD r.ds) (hp0 : -10000000000000 ≤ p) (hp1 : p ≤ 10000000000000) (hf0 : -10000000000000 ≤ f) (hf1 : f ≤ 10000000000000) (hl0 : 0 ≤ L) (hl1 : L ≤ 1000000000) :
    Calls Try.prog 27 #[.agg r.arr, .int .i64 p, .int .i64 f, .int .i64 L] w fun e w' => e = .returned (.tuple #[.agg (r.step L (p - f)).arr, .bool (slipD L r.ds (p - f))]) ∧ Bw w w' :=
  (step_any (.agg r.arr) r p f L w ⟨rfl, hr⟩ hds hp0 hp1 hf0 hf1 hl0 hl1).mono fun e w' ⟨⟨v', he, hv'⟩, hb⟩ => ⟨by rw [he, hv'.1], hb⟩
theorem Rg.step_ok {r : Rg} (h : r.ok) (L d : Int) : (r.step L d).ok := by
  unfold Rg.step
  split
  · exact Rg.push_ok (Rg.new_ok _ (by have := h.2.1; omega) h.1) d
  · exact Rg.push_ok h d
/-- what Step hands back -/
def StepP (base : Nat) (W L : Int) (ds : List Int) (num den : Int) (sl : Bool) (er : Int) (e : Ending) (w' : World) : Prop := ∃ v', e = .returned (.tuple #[.agg #[.int .i64 W, .int .i64 L, v'], .agg #[.int .i64 num, .int .i64 den], .bool sl, .int .i64 er]) ∧ RdI w' v' ds ∧ Fresh base v'
theorem RdI.row {w : World} {v : Value} {zs : List Int} (h : RdI w v zs) {base b : Nat} (hf : Fresh base v) (hlt : b < base) (cs : Array Value) : RdI (w.setRow b cs) v zs := by
  obtain ⟨h2, a, cap, rfl, h4⟩ := h
  refine ⟨h2, a, cap, rfl, ?_⟩
  rcases h4 with h4 | ⟨b', off, rfl, h6, h7⟩
  · exact .inl h4
  · have := hf b' rfl
    exact .inr ⟨b', off, rfl, by simpa using h6, fun i hi => by rw [cell_setRow_other _ _ _ _ (by simp; omega)]; exact h7 i hi⟩
theorem blk_of_bw {w w' : World} {cs : Array Value} {T : TypeId} (_ : Bw w (w'.alloc (.cells cs T))) : Blk (w'.alloc (.cells cs T)) w'.heap.size T cs := Blk.new _ _ _
theorem Step_ok (Wn : Nat) (L : Int) (ds : List Int) (v : Value) (p f : Int) (w : World) (hv : RdI w v ds) (h0 : errC Wn L ds = 0) (hm : okM (p, f) = true) :
    Calls Try.prog 14 #[.agg #[.int .i64 Wn, .int .i64 L, v], .int .i64 p, .int .i64 f] w fun e w' => StepP w.heap.size Wn L (nextD Wn L ds (p - f)) (f * (nextD Wn L ds (p - f)).length + sumI (nextD Wn L ds (p - f))) (nextD Wn L ds (p - f)).length (slipD L ds (p - f)) 0 e w' ∧ Bw w w' := by
  obtain ⟨⟨hW0, hW1, hL0, hL1⟩, hlen, hds⟩ := errC_zero h0
  have HV := Lib.hid hv
  obtain ⟨ad, cap, rfl⟩ := hv.form
  obtain ⟨hm1, hm2⟩ := (okM_iff _).1 hm
  simp only at hm1 hm2
  obtain ⟨p0, p1⟩ := hm1
  obtain ⟨f0, f1⟩ := hm2
  have hRds := Rg.of_ds Wn ds (by omega)
  have hRW := Rg.of_W Wn ds
  have hRok := Rg.of_ok Wn ds (by omega) (by omega)
  have HC := Lib.hid (fun W hW => Check_any Wn L ds (.slice ad ds.length cap) W hW)
  rw [h0] at HC
  have HRt := Lib.hid (fun W => right_any p f W)
  rw [show (inN p 10000000000000 && inN f 10000000000000) = true from hm] at HRt
  have HOf := Lib.hid (fun W hW => of_det Wn L ds (.slice ad ds.length cap) W hW hW0 hW1 hlen hds)
  have hSt := fun W => step_det (Rg.of Wn ds) p f L W hRok (by rw [hRds]; exact hds) p0 p1 f0 f1 hL0 hL1
  have hnd : OkD (nextD Wn L ds (p - f)) := fun x hx => by
    rcases nextD_mem _ _ _ _ _ hx with h | rfl
    · exact hds x h
    · omega
  have h2ds : ((Rg.of Wn ds).step L (p - f)).ds = nextD Wn L ds (p - f) := by rw [Rg.step_ds, hRds, hRW]
  have h2ok := Rg.step_ok hRok L (p - f)
  rw [hRds] at hSt
  rw [← h2ds] at hnd ⊢
  generalize (Rg.of Wn ds).step L (p - f) = r2 at hSt h2ok hnd ⊢
  generalize slipD L ds (p - f) = sl at hSt ⊢
  generalize (Rg.of Wn ds).arr = a1 at HOf hSt
  have HSt := Lib.hid hSt; clear hSt
  have HLi := Lib.hid (fun W => list_any (.agg r2.arr) r2 W ⟨rfl, h2ok⟩)
  have HRa := Lib.hid (fun W => ratio_ring (.agg r2.arr) r2 f W ⟨rfl, h2ok⟩ hnd f0 f1)
  have h2s := r2.size
  have h2o := r2.arr_ok.ok
  clear h2ok hnd h2ds hRok hRW hRds hds h0 hm
  generalize r2.arr = a2 at HSt HLi HRa h2s h2o
  generalize f * r2.ds.length + sumI r2.ds = num at HRa ⊢
  generalize r2.ds.length = den at HRa ⊢
  have hz := zeroRing
  go_enter Try.func14, Try.ntmps14
  go_wp2_with (first | (go_at_call 19; refine (HC.out _ (HV.out.mono (by repeat (first | exact Bw.refl _ | assumption | refine Bw.alloc ?_ _ | refine Bw.drew ?_ | refine Bw.trans ?_ (by assumption) | refine Bw.setCell ?_ (by simp; try omega) _)))).mono ?_; rintro e w' ⟨rfl, hb⟩; obtain ⟨hcc, hff⟩ := Bw.cells hb; have hsz := Bw.size hb; try (have hz0 : w.heap.size < w'.heap.size := by (try simp at hsz); omega); try (have hz1 : w.heap.size + 1 < w'.heap.size := by (try simp at hsz); omega); try (have hz2 : w.heap.size + 1 + 1 < w'.heap.size := by (try simp at hsz); omega); try (have hz3 : w.heap.size + 1 + 1 + 1 < w'.heap.size := by (try simp at hsz); omega); try (have hz4 : w.heap.size + 1 + 1 + 1 + 1 < w'.heap.size := by (try simp at hsz); omega); try (have hzr : wr.heap.size < w'.heap.size := by (try simp at hsz); omega); try (have hzr1 : wr.heap.size + 1 < w'.heap.size := by (try simp at hsz); omega)) | (go_at_call 26; refine (HRt.out _).mono ?_; rintro e w1 ⟨rfl, hb1⟩))
  have hbw : Bw w w1 := (by repeat (first | exact Bw.refl _ | assumption | refine Bw.alloc ?_ _ | refine Bw.drew ?_ | refine Bw.trans ?_ (by assumption) | refine Bw.setCell ?_ (by simp; try omega) _))
  have hz1 : w.heap.size + 1 + 1 < w1.heap.size := by have := hb1.size; omega
  have k0 : w1.cell? ⟨w.heap.size, 0, none⟩ = some (.int .i64 Wn) := hb1.cell' (by simp [*, go_sem])
  have k1 : w1.cell? ⟨w.heap.size, 1, none⟩ = some (.int .i64 L) := hb1.cell' (by simp [*, go_sem])
  have k5 : Hid (Blk w1 w.heap.size 34 #[.int .i64 Wn, .int .i64 L, .slice ad ds.length cap]) := Lib.hid (((((Blk.new w 34 #[.int .i64 Wn, .int .i64 L, .slice ad ds.length cap]).alloc (.cells #[.int .i64 0, .int .i64 0, .slice none 0 0] 34)).alloc (.cells #[.int .i64 0, .int .i64 0] 36)).bw hb).bw hb1)
  have k2 : w1.cell? ⟨w.heap.size, 2, none⟩ = some (.slice ad ds.length cap) := hb1.cell' (by simp [*, go_sem])
  have k3 : Hid (Blk w1 (w.heap.size + 1) 34 #[.int .i64 0, .int .i64 0, .slice none 0 0]) := Lib.hid (by have := ((((Blk.new (w.alloc (.cells #[.int .i64 Wn, .int .i64 L, .slice ad ds.length cap] 34)) 34 #[.int .i64 0, .int .i64 0, .slice none 0 0]).alloc (.cells #[.int .i64 0, .int .i64 0] 36)).bw hb).bw hb1); simpa using this)
  have k4 : Hid (Blk w1 (w.heap.size + 1 + 1) 36 #[.int .i64 0, .int .i64 0]) := Lib.hid (by have := (((Blk.new ((w.alloc (.cells #[.int .i64 Wn, .int .i64 L, .slice ad ds.length cap] 34)).alloc (.cells #[.int .i64 0, .int .i64 0, .slice none 0 0] 34)) 36 #[.int .i64 0, .int .i64 0]).bw hb).bw hb1); simpa using this)
  have HBW := Lib.hid hbw
  clear hb hb1 hcc hff hsz hbw
  refine wp_region_held_drew (S := Bw w1) (by kernel_rfl) (Bw.drew (Bw.refl _)) (fun hS => ?_)
  generalize w1.drew = wd at hS ⊢
  refine take1 (i := 0) (some 26) rfl rfl (by kernel_rfl) (by kernel_rfl) (by kernel_rfl) (fun _ _ _ _ h => h) rfl hS ?_
  apply Exists.intro
  apply And.intro
  · intro W9 hW9; have q0 := Bw.cell' hW9 k0; have q1 := Bw.cell' hW9 k1; have q2 := Bw.cell' hW9 k2; go_simp; try with_reducible rfl
  simp only [Act.put, List.setIfInBounds_toArray, List.set_cons_zero, List.set_cons_succ]
  refine take1 (i := 2) (some 28) rfl rfl (by kernel_rfl) (by kernel_rfl) (by kernel_rfl) (fun _ _ _ _ h => h) rfl hS ?_
  apply Exists.intro
  apply And.intro
  · intro W9 hW9; have q0 := Bw.cell' hW9 k0; have q1 := Bw.cell' hW9 k1; have q2 := Bw.cell' hW9 k2; go_simp; try with_reducible rfl
  simp only [Act.put, List.setIfInBounds_toArray, List.set_cons_zero, List.set_cons_succ]
  refine take1 (i := 3) (some 29) rfl rfl (by kernel_rfl) (by kernel_rfl) (by kernel_rfl) (fun _ _ _ _ h => h) rfl hS ?_
  apply Exists.intro
  apply And.intro
  · intro W9 hW9; have q0 := Bw.cell' hW9 k0; have q1 := Bw.cell' hW9 k1; have q2 := Bw.cell' hW9 k2; go_simp; try with_reducible rfl
  simp only [Act.put, List.setIfInBounds_toArray, List.set_cons_zero, List.set_cons_succ]
  refine take1 (i := 4) (some 30) rfl rfl (by kernel_rfl) (by kernel_rfl) (by kernel_rfl) (fun _ _ _ _ h => h) rfl hS ?_
  apply Exists.intro
  apply And.intro
  · intro W9 hW9; have q0 := Bw.cell' hW9 k0; have q1 := Bw.cell' hW9 k1; have q2 := Bw.cell' hW9 k2; go_simp; try with_reducible rfl
  simp only [Act.put, List.setIfInBounds_toArray, List.set_cons_zero, List.set_cons_succ]
  refine take1 (i := 5) (some 31) rfl rfl (by kernel_rfl) (by kernel_rfl) (by kernel_rfl) (fun _ _ _ _ h => h) rfl hS ?_
  apply Exists.intro
  apply And.intro
  · intro W9 hW9; have q0 := Bw.cell' hW9 k0; have q1 := Bw.cell' hW9 k1; have q2 := Bw.cell' hW9 k2; go_simp; try with_reducible rfl
  simp only [Act.put, List.setIfInBounds_toArray, List.set_cons_zero, List.set_cons_succ]
  refine wpAnyH_ready (rs := [1, 10]) (by kernel_rfl) (by simp) ?_
  refine AllReadyH.cons rfl (fun K hK => ?_) ?_
  go_simp
  go_wp2_with (go_at_call 24; refine (HOf.out _ (HV.out.mono (HBW.out.trans hS))).mono ?_; rintro e wa ⟨rfl, hba⟩)
  try (have HBk := Lib.hid (Blk.bw HBk.out hba))
  refine hK.out _ _ (Bw.trans hS hba) (fun hS => ?_)
  clear hK K
  refine wpAnyH_ready (rs := [6, 10]) (by kernel_rfl) (by simp) ?_
  refine AllReadyH.cons rfl (fun K hK => ?_) ?_
  go_simp
  go_wp2_with (go_at_call 27; refine (HSt.out _).mono ?_; rintro e wb ⟨rfl, hbb⟩)
  try (have HBk := Lib.hid (Blk.bw HBk.out hbb))
  refine hK.out _ _ (Bw.trans hS hbb) (fun hS => ?_)
  clear hK K
  refine take1 (i := 7) (some 25) rfl rfl (by kernel_rfl) (by kernel_rfl) (by kernel_rfl) (fun _ _ _ _ h => h) rfl hS ?_
  apply Exists.intro
  apply And.intro
  · intro W9 hW9; have q0 := Bw.cell' hW9 k0; have q1 := Bw.cell' hW9 k1; have q2 := Bw.cell' hW9 k2; go_simp; try with_reducible rfl
  simp only [Act.put, List.setIfInBounds_toArray, List.set_cons_zero, List.set_cons_succ]
  refine take1 (i := 8) (some 33) rfl rfl (by kernel_rfl) (by kernel_rfl) (by kernel_rfl) (fun _ _ _ _ h => h) rfl hS ?_
  apply Exists.intro
  apply And.intro
  · intro W9 hW9; have q0 := Bw.cell' hW9 k0; have q1 := Bw.cell' hW9 k1; have q2 := Bw.cell' hW9 k2; go_simp; try with_reducible rfl
  simp only [Act.put, List.setIfInBounds_toArray, List.set_cons_zero, List.set_cons_succ]
  refine take1 (i := 9) (some 34) rfl rfl (by kernel_rfl) (by kernel_rfl) (by kernel_rfl) (fun _ _ _ _ h => h) rfl hS ?_
  apply Exists.intro
  apply And.intro
  · intro W9 hW9; have q0 := Bw.cell' hW9 k0; have q1 := Bw.cell' hW9 k1; have q2 := Bw.cell' hW9 k2; go_simp; try with_reducible rfl
  simp only [Act.put, List.setIfInBounds_toArray, List.set_cons_zero, List.set_cons_succ]
  refine wpAnyH_ready (rs := [10]) (by kernel_rfl) (by simp) ?_
  refine AllReadyH.cons rfl (fun K hK => ?_) ?_
  rw [if_pos (by rfl)]
  refine wp_alloc_agg 53 rfl (some 11) rfl ring0 (hz _) ?_
  simp only [Act.put, List.setIfInBounds_toArray, List.set_cons_zero, List.set_cons_succ]
  have HBk := Lib.hid (blk_of_bw (Bw.alloc hS (.cells ring0 53)))
  have HBs := Lib.hid hS.size
  refine hK.out _ _ (Bw.alloc hS _) (fun hS => ?_)
  clear hK K
  generalize World.alloc _ (Obj.cells ring0 _) = wz at hS HBk ⊢
  refine wpAnyH_ready (rs := [11]) (by kernel_rfl) (by simp) ?_
  refine AllReadyH.cons rfl (fun K hK => ?_) ?_
  rw [if_pos (by rfl)]
  refine wp_store_row 53 _ _ rfl _ a2 rfl rfl 53 ring0 HBk.out (by rw [infoRing, h2s]) (by rw [ring0_ok.size, h2s]) h2o ?_
  simp only [Act.put, List.setIfInBounds_toArray, List.set_cons_zero, List.set_cons_succ]
  have HBk2 := Lib.hid (Blk.row HBk.out a2)
  clear HBk
  refine hK.out _ _ (Bw.setRow hS HBs.out _) (fun hS => ?_)
  clear hK K
  refine take1 (i := 12) (some 8) rfl rfl (by kernel_rfl) (by kernel_rfl) (by kernel_rfl) (fun _ _ _ _ h => h) rfl hS ?_
  apply Exists.intro
  apply And.intro
  · intro W9 hW9; have q0 := Bw.cell' hW9 k0; have q1 := Bw.cell' hW9 k1; have q2 := Bw.cell' hW9 k2; go_simp; try with_reducible rfl
  simp only [Act.put, List.setIfInBounds_toArray, List.set_cons_zero, List.set_cons_succ]
  refine wpAnyH_done (by kernel_rfl) ?_ _
  generalize World.setRow _ _ a2 = wx at hS HBk2 ⊢
  rotate_left
  exact AllReadyH.nil
  exact AllReadyH.nil
  refine AllReadyH.cons rfl (fun K hK => ?_) ?_
  rw [if_pos (by rfl)]
  refine wp_alloc_agg 53 rfl (some 11) rfl ring0 (hz _) ?_
  simp only [Act.put, List.setIfInBounds_toArray, List.set_cons_zero, List.set_cons_succ]
  have HBk := Lib.hid (blk_of_bw (Bw.alloc hS (.cells ring0 53)))
  have HBs := Lib.hid hS.size
  refine hK.out _ _ (Bw.alloc hS _) (fun hS => ?_)
  clear hK K
  generalize World.alloc _ (Obj.cells ring0 _) = wz at hS HBk ⊢
  refine wpAnyH_ready (rs := [6]) (by kernel_rfl) (by simp) ?_
  refine AllReadyH.cons rfl (fun K hK => ?_) ?_
  go_simp
  go_wp2_with (go_at_call 27; refine (HSt.out _).mono ?_; rintro e wb ⟨rfl, hbb⟩)
  try (have HBk := Lib.hid (Blk.bw HBk.out hbb))
  refine hK.out _ _ (Bw.trans hS hbb) (fun hS => ?_)
  clear hK K
  refine take1 (i := 7) (some 25) rfl rfl (by kernel_rfl) (by kernel_rfl) (by kernel_rfl) (fun _ _ _ _ h => h) rfl hS ?_
  apply Exists.intro
  apply And.intro
  · intro W9 hW9; have q0 := Bw.cell' hW9 k0; have q1 := Bw.cell' hW9 k1; have q2 := Bw.cell' hW9 k2; go_simp; try with_reducible rfl
  simp only [Act.put, List.setIfInBounds_toArray, List.set_cons_zero, List.set_cons_succ]
  refine take1 (i := 8) (some 33) rfl rfl (by kernel_rfl) (by kernel_rfl) (by kernel_rfl) (fun _ _ _ _ h => h) rfl hS ?_
  apply Exists.intro
  apply And.intro
  · intro W9 hW9; have q0 := Bw.cell' hW9 k0; have q1 := Bw.cell' hW9 k1; have q2 := Bw.cell' hW9 k2; go_simp; try with_reducible rfl
  simp only [Act.put, List.setIfInBounds_toArray, List.set_cons_zero, List.set_cons_succ]
  refine take1 (i := 9) (some 34) rfl rfl (by kernel_rfl) (by kernel_rfl) (by kernel_rfl) (fun _ _ _ _ h => h) rfl hS ?_
  apply Exists.intro
  apply And.intro
  · intro W9 hW9; have q0 := Bw.cell' hW9 k0; have q1 := Bw.cell' hW9 k1; have q2 := Bw.cell' hW9 k2; go_simp; try with_reducible rfl
  simp only [Act.put, List.setIfInBounds_toArray, List.set_cons_zero, List.set_cons_succ]
  refine wpAnyH_ready (rs := [11]) (by kernel_rfl) (by simp) ?_
  refine AllReadyH.cons rfl (fun K hK => ?_) ?_
  rw [if_pos (by rfl)]
  refine wp_store_row 53 _ _ rfl _ a2 rfl rfl 53 ring0 HBk.out (by rw [infoRing, h2s]) (by rw [ring0_ok.size, h2s]) h2o ?_
  simp only [Act.put, List.setIfInBounds_toArray, List.set_cons_zero, List.set_cons_succ]
  have HBk2 := Lib.hid (Blk.row HBk.out a2)
  clear HBk
  refine hK.out _ _ (Bw.setRow hS HBs.out _) (fun hS => ?_)
  clear hK K
  refine take1 (i := 12) (some 8) rfl rfl (by kernel_rfl) (by kernel_rfl) (by kernel_rfl) (fun _ _ _ _ h => h) rfl hS ?_
  apply Exists.intro
  apply And.intro
  · intro W9 hW9; have q0 := Bw.cell' hW9 k0; have q1 := Bw.cell' hW9 k1; have q2 := Bw.cell' hW9 k2; go_simp; try with_reducible rfl
  simp only [Act.put, List.setIfInBounds_toArray, List.set_cons_zero, List.set_cons_succ]
  refine wpAnyH_done (by kernel_rfl) ?_ _
  generalize World.setRow _ _ a2 = wx at hS HBk2 ⊢
  rotate_left
  exact AllReadyH.nil
  exact AllReadyH.nil
  exact AllReadyH.nil
  refine AllReadyH.cons rfl (fun K hK => ?_) ?_
  rw [if_pos (by rfl)]
  refine wp_alloc_agg 53 rfl (some 11) rfl ring0 (hz _) ?_
  simp only [Act.put, List.setIfInBounds_toArray, List.set_cons_zero, List.set_cons_succ]
  have HBk := Lib.hid (blk_of_bw (Bw.alloc hS (.cells ring0 53)))
  have HBs := Lib.hid hS.size
  refine hK.out _ _ (Bw.alloc hS _) (fun hS => ?_)
  clear hK K
  generalize World.alloc _ (Obj.cells ring0 _) = wz at hS HBk ⊢
  refine wpAnyH_ready (rs := [1]) (by kernel_rfl) (by simp) ?_
  refine AllReadyH.cons rfl (fun K hK => ?_) ?_
  go_simp
  go_wp2_with (go_at_call 24; refine (HOf.out _ (HV.out.mono (HBW.out.trans hS))).mono ?_; rintro e wa ⟨rfl, hba⟩)
  try (have HBk := Lib.hid (Blk.bw HBk.out hba))
  refine hK.out _ _ (Bw.trans hS hba) (fun hS => ?_)
  clear hK K
  refine wpAnyH_ready (rs := [6]) (by kernel_rfl) (by simp) ?_
  refine AllReadyH.cons rfl (fun K hK => ?_) ?_
  go_simp
  go_wp2_with (go_at_call 27; refine (HSt.out _).mono ?_; rintro e wb ⟨rfl, hbb⟩)
  try (have HBk := Lib.hid (Blk.bw HBk.out hbb))
  refine hK.out _ _ (Bw.trans hS hbb) (fun hS => ?_)
  clear hK K
  refine take1 (i := 7) (some 25) rfl rfl (by kernel_rfl) (by kernel_rfl) (by kernel_rfl) (fun _ _ _ _ h => h) rfl hS ?_
  apply Exists.intro
  apply And.intro
  · intro W9 hW9; have q0 := Bw.cell' hW9 k0; have q1 := Bw.cell' hW9 k1; have q2 := Bw.cell' hW9 k2; go_simp; try with_reducible rfl
  simp only [Act.put, List.setIfInBounds_toArray, List.set_cons_zero, List.set_cons_succ]
  refine take1 (i := 8) (some 33) rfl rfl (by kernel_rfl) (by kernel_rfl) (by kernel_rfl) (fun _ _ _ _ h => h) rfl hS ?_
  apply Exists.intro
  apply And.intro
  · intro W9 hW9; have q0 := Bw.cell' hW9 k0; have q1 := Bw.cell' hW9 k1; have q2 := Bw.cell' hW9 k2; go_simp; try with_reducible rfl
  simp only [Act.put, List.setIfInBounds_toArray, List.set_cons_zero, List.set_cons_succ]
  refine take1 (i := 9) (some 34) rfl rfl (by kernel_rfl) (by kernel_rfl) (by kernel_rfl) (fun _ _ _ _ h => h) rfl hS ?_
  apply Exists.intro
  apply And.intro
  · intro W9 hW9; have q0 := Bw.cell' hW9 k0; have q1 := Bw.cell' hW9 k1; have q2 := Bw.cell' hW9 k2; go_simp; try with_reducible rfl
  simp only [Act.put, List.setIfInBounds_toArray, List.set_cons_zero, List.set_cons_succ]
  refine wpAnyH_ready (rs := [11]) (by kernel_rfl) (by simp) ?_
  refine AllReadyH.cons rfl (fun K hK => ?_) ?_
  rw [if_pos (by rfl)]
  refine wp_store_row 53 _ _ rfl _ a2 rfl rfl 53 ring0 HBk.out (by rw [infoRing, h2s]) (by rw [ring0_ok.size, h2s]) h2o ?_
  simp only [Act.put, List.setIfInBounds_toArray, List.set_cons_zero, List.set_cons_succ]
  have HBk2 := Lib.hid (Blk.row HBk.out a2)
  clear HBk
  refine hK.out _ _ (Bw.setRow hS HBs.out _) (fun hS => ?_)
  clear hK K
  refine take1 (i := 12) (some 8) rfl rfl (by kernel_rfl) (by kernel_rfl) (by kernel_rfl) (fun _ _ _ _ h => h) rfl hS ?_
  apply Exists.intro
  apply And.intro
  · intro W9 hW9; have q0 := Bw.cell' hW9 k0; have q1 := Bw.cell' hW9 k1; have q2 := Bw.cell' hW9 k2; go_simp; try with_reducible rfl
  simp only [Act.put, List.setIfInBounds_toArray, List.set_cons_zero, List.set_cons_succ]
  refine wpAnyH_done (by kernel_rfl) ?_ _
  generalize World.setRow _ _ a2 = wx at hS HBk2 ⊢
  rotate_left
  exact AllReadyH.nil
  exact AllReadyH.nil
  exact AllReadyH.nil
  exact AllReadyH.nil
  all_goals go_wp2
  all_goals clear k0 k1 k2
  all_goals have HZW := Lib.hid (show w.heap.size + 1 + 1 < wx.drew.heap.size from Nat.lt_of_lt_of_le hz1 hS.size)
  all_goals have B3 := Lib.hid (k3.out.bw (Bw.drew hS))
  all_goals have B4 := Lib.hid (k4.out.bw (Bw.drew hS))
  all_goals refine wp_region_held_drew (S := fun W => Bw w W ∧ Blk W w.heap.size 34 #[.int .i64 Wn, .int .i64 L, .slice ad ds.length cap] ∧ Blk W _ 53 a2) (by kernel_rfl) ⟨HBW.out.trans (Bw.drew hS), k5.out.bw (Bw.drew hS), HBk2.out.bw (Bw.drew (Bw.refl _))⟩ (fun hS => ?_)
  all_goals generalize wx.drew = wy at hS HZW B3 B4 ⊢
  all_goals
    refine take1 (i := 0) (some 35) rfl rfl (by kernel_rfl) (by kernel_rfl) (by kernel_rfl) (fun _ _ _ _ h => h) rfl hS ?_
    apply Exists.intro
    apply And.intro
    · intro W9 hW9; obtain ⟨s1, s2, s4⟩ := hW9; have q0 := Blk.cell s2 (j := 0) rfl; have q1 := Blk.cell s2 (j := 1) rfl; clear s1 s2; have S4 := Lib.hid s4; clear s4; go_simp; try with_reducible rfl
    simp only [Act.put, List.setIfInBounds_toArray, List.set_cons_zero, List.set_cons_succ]
    refine take1 (i := 1) (some 36) rfl rfl (by kernel_rfl) (by kernel_rfl) (by kernel_rfl) (fun _ _ _ _ h => h) rfl hS ?_
    apply Exists.intro
    apply And.intro
    · intro W9 hW9; obtain ⟨s1, s2, s4⟩ := hW9; have q0 := Blk.cell s2 (j := 0) rfl; have q1 := Blk.cell s2 (j := 1) rfl; clear s1 s2; have S4 := Lib.hid s4; clear s4; go_simp; try with_reducible rfl
    simp only [Act.put, List.setIfInBounds_toArray, List.set_cons_zero, List.set_cons_succ]
    refine take1 (i := 2) (some 37) rfl rfl (by kernel_rfl) (by kernel_rfl) (by kernel_rfl) (fun _ _ _ _ h => h) rfl hS ?_
    apply Exists.intro
    apply And.intro
    · intro W9 hW9; obtain ⟨s1, s2, s4⟩ := hW9; have q0 := Blk.cell s2 (j := 0) rfl; have q1 := Blk.cell s2 (j := 1) rfl; clear s1 s2; have S4 := Lib.hid s4; clear s4; go_simp; try with_reducible rfl
    simp only [Act.put, List.setIfInBounds_toArray, List.set_cons_zero, List.set_cons_succ]
    refine take1 (i := 3) (some 38) rfl rfl (by kernel_rfl) (by kernel_rfl) (by kernel_rfl) (fun _ _ _ _ h => h) rfl hS ?_
    apply Exists.intro
    apply And.intro
    · intro W9 hW9; obtain ⟨s1, s2, s4⟩ := hW9; have q0 := Blk.cell s2 (j := 0) rfl; have q1 := Blk.cell s2 (j := 1) rfl; clear s1 s2; have S4 := Lib.hid s4; clear s4; go_simp; try with_reducible rfl
    simp only [Act.put, List.setIfInBounds_toArray, List.set_cons_zero, List.set_cons_succ]
    refine take1 (i := 4) (some 39) rfl rfl (by kernel_rfl) (by kernel_rfl) (by kernel_rfl) (fun _ _ _ _ h => h) rfl hS ?_
    apply Exists.intro
    apply And.intro
    · intro W9 hW9; obtain ⟨s1, s2, s4⟩ := hW9; have q0 := Blk.cell s2 (j := 0) rfl; have q1 := Blk.cell s2 (j := 1) rfl; clear s1 s2; have S4 := Lib.hid s4; clear s4; exact run_load_row 53 _ rfl _ rfl 53 a2 _ S4.out Try.underlying53 rfl (by rw [infoRing, h2s])
    simp only [Act.put, List.setIfInBounds_toArray, List.set_cons_zero, List.set_cons_succ]
    refine take1 (i := 7) (some 42) rfl rfl (by kernel_rfl) (by kernel_rfl) (by kernel_rfl) (fun _ _ _ _ h => h) rfl hS ?_
    apply Exists.intro
    apply And.intro
    · intro W9 hW9; obtain ⟨s1, s2, s4⟩ := hW9; have q0 := Blk.cell s2 (j := 0) rfl; have q1 := Blk.cell s2 (j := 1) rfl; clear s1 s2; have S4 := Lib.hid s4; clear s4; exact run_load_row 53 _ rfl _ rfl 53 a2 _ S4.out Try.underlying53 rfl (by rw [infoRing, h2s])
    simp only [Act.put, List.setIfInBounds_toArray, List.set_cons_zero, List.set_cons_succ]
    refine take1 (i := 8) (some 43) rfl rfl (by kernel_rfl) (by kernel_rfl) (by kernel_rfl) (fun _ _ _ _ h => h) rfl hS ?_
    apply Exists.intro
    apply And.intro
    · intro W9 hW9; obtain ⟨s1, s2, s4⟩ := hW9; have q0 := Blk.cell s2 (j := 0) rfl; have q1 := Blk.cell s2 (j := 1) rfl; clear s1 s2; have S4 := Lib.hid s4; clear s4; go_simp; try with_reducible rfl
    simp only [Act.put, List.setIfInBounds_toArray, List.set_cons_zero, List.set_cons_succ]
    refine take1 (i := 10) (some 45) rfl rfl (by kernel_rfl) (by kernel_rfl) (by kernel_rfl) (fun _ _ _ _ h => h) rfl hS ?_
    apply Exists.intro
    apply And.intro
    · intro W9 hW9; obtain ⟨s1, s2, s4⟩ := hW9; have q0 := Blk.cell s2 (j := 0) rfl; have q1 := Blk.cell s2 (j := 1) rfl; clear s1 s2; have S4 := Lib.hid s4; clear s4; go_simp; try with_reducible rfl
    simp only [Act.put, List.setIfInBounds_toArray, List.set_cons_zero, List.set_cons_succ]
    refine wpAnyH_ready (rs := [5]) (by kernel_rfl) (by simp) ?_
    refine AllReadyH.cons rfl (fun K hK => ?_) ?_
    go_simp
    go_wp2_with (go_at_call 29; refine (HLi.out _).mono ?_; rintro e wl ⟨⟨v2, rfl, hrl, hfl⟩, hbl⟩; obtain ⟨al, cl, rfl⟩ := hrl.form; have HRL := Lib.hid hrl; clear hrl; have HFL := Lib.hid hfl; clear hfl)
    replace B3 := Lib.hid (B3.out.bw hbl)
    replace B4 := Lib.hid (B4.out.bw hbl)
    refine hK.out _ _ ⟨hS.1.trans hbl, hS.2.1.bw hbl, hS.2.2.bw hbl⟩ (fun hS => ?_)
    clear hK K
    refine take1 (i := 6) (some 41) rfl rfl (by kernel_rfl) (by kernel_rfl) (by kernel_rfl) (fun _ _ _ _ h => h) rfl hS ?_
    apply Exists.intro
    apply And.intro
    · intro W9 hW9; obtain ⟨s1, s2, s4⟩ := hW9; have q0 := Blk.cell s2 (j := 0) rfl; have q1 := Blk.cell s2 (j := 1) rfl; clear s1 s2; have S4 := Lib.hid s4; clear s4; go_simp; try with_reducible rfl
    simp only [Act.put, List.setIfInBounds_toArray, List.set_cons_zero, List.set_cons_succ]
    refine wpAnyH_ready (rs := [9]) (by kernel_rfl) (by simp) ?_
    refine AllReadyH.cons rfl (fun K hK => ?_) ?_
    go_simp
    go_wp2_with (go_at_call 28; refine (HRa.out _).mono ?_; rintro e wr ⟨rfl, hbr⟩)
    replace HRL := Lib.hid (HRL.out.mono hbr)
    replace B3 := Lib.hid (B3.out.bw hbr)
    replace B4 := Lib.hid (B4.out.bw hbr)
    refine hK.out _ _ ⟨hS.1.trans hbr, hS.2.1.bw hbr, hS.2.2.bw hbr⟩ (fun hS => ?_)
    clear hK K
    refine wpAnyH_ready (rs := [11]) (by kernel_rfl) (by simp) ?_
    refine AllReadyH.cons rfl (fun K hK => ?_) ?_
    rw [if_pos (by rfl)]
    refine wp_store_row 34 _ _ rfl (w.heap.size + 1) #[.int .i64 Wn, .int .i64 L, .slice al r2.ds.length cl] rfl rfl 34 #[.int .i64 0, .int .i64 0, .slice none 0 0] B3.out (by kernel_rfl) rfl (by simp [Value.oneCell']) ?_
    simp only [Act.put, List.setIfInBounds_toArray, List.set_cons_zero, List.set_cons_succ]
    replace HRL := Lib.hid (HRL.out.row (b := w.heap.size + 1) HFL.out (by have := HZW.out; omega) #[.int .i64 Wn, .int .i64 L, .slice al r2.ds.length cl])
    replace B3 := Lib.hid (B3.out.row #[.int .i64 Wn, .int .i64 L, .slice al r2.ds.length cl])
    replace B4 := Lib.hid (B4.out.row_other (by omega) #[.int .i64 Wn, .int .i64 L, .slice al r2.ds.length cl] (g' := w.heap.size + 1))
    refine hK.out _ _ ⟨Bw.setRow hS.1 (by omega) _, hS.2.1.row_other (by omega) _, hS.2.2.row_other (by have := HBs.out; omega) _⟩ (fun hS => ?_)
    clear hK K
    refine wpAnyH_ready (rs := [12]) (by kernel_rfl) (by simp) ?_
    refine AllReadyH.cons rfl (fun K hK => ?_) ?_
    rw [if_pos (by rfl)]
    refine wp_store_row 36 _ _ rfl (w.heap.size + 1 + 1) #[.int .i64 num, .int .i64 den] rfl rfl 36 #[.int .i64 0, .int .i64 0] B4.out (by kernel_rfl) rfl (by simp [Value.oneCell']) ?_
    simp only [Act.put, List.setIfInBounds_toArray, List.set_cons_zero, List.set_cons_succ]
    replace HRL := Lib.hid (HRL.out.row (b := w.heap.size + 1 + 1) HFL.out (by have := HZW.out; omega) #[.int .i64 num, .int .i64 den])
    replace B4 := Lib.hid (B4.out.row #[.int .i64 num, .int .i64 den])
    replace B3 := Lib.hid (B3.out.row_other (by omega) #[.int .i64 num, .int .i64 den] (g' := w.heap.size + 1 + 1))
    refine hK.out _ _ ⟨Bw.setRow hS.1 (by omega) _, hS.2.1.row_other (by omega) _, hS.2.2.row_other (by have := HBs.out; omega) _⟩ (fun hS => ?_)
    clear hK K
    refine take1 (i := 13) (some 8) rfl rfl (by kernel_rfl) (by kernel_rfl) (by kernel_rfl) (fun _ _ _ _ h => h) rfl hS ?_
    apply Exists.intro
    apply And.intro
    · intro W9 hW9; obtain ⟨s1, s2, s4⟩ := hW9; have q0 := Blk.cell s2 (j := 0) rfl; have q1 := Blk.cell s2 (j := 1) rfl; clear s1 s2; have S4 := Lib.hid s4; clear s4; go_simp; try with_reducible rfl
    simp only [Act.put, List.setIfInBounds_toArray, List.set_cons_zero, List.set_cons_succ]
    refine take1 (i := 14) (some 9) rfl rfl (by kernel_rfl) (by kernel_rfl) (by kernel_rfl) (fun _ _ _ _ h => h) rfl hS ?_
    apply Exists.intro
    apply And.intro
    · intro W9 hW9; obtain ⟨s1, s2, s4⟩ := hW9; have q0 := Blk.cell s2 (j := 0) rfl; have q1 := Blk.cell s2 (j := 1) rfl; clear s1 s2; have S4 := Lib.hid s4; clear s4; go_simp; try with_reducible rfl
    simp only [Act.put, List.setIfInBounds_toArray, List.set_cons_zero, List.set_cons_succ]
    refine wpAnyH_done (by kernel_rfl) ?_ _
    rotate_left
    exact AllReadyH.nil
    exact AllReadyH.nil
    exact AllReadyH.nil
    exact AllReadyH.nil
  all_goals
    go_wp2
    refine bodyPost_ret (v := .tuple #[.agg #[.int .i64 Wn, .int .i64 L, .slice al r2.ds.length cl], .agg #[.int .i64 num, .int .i64 den], .bool sl, .int .i64 0]) ?_ rfl ⟨⟨_, rfl, HRL.out, Fresh.mono HFL.out (by have := HZW.out; omega)⟩, hS.1⟩
    have c0 := B3.out.cell (j := 0) rfl
    have c1 := B3.out.cell (j := 1) rfl
    have c2 := B3.out.cell (j := 2) rfl
    have c3 := B4.out.cell (j := 0) rfl
    have c4 := B4.out.cell (j := 1) rfl
    simp [results, Try.results14, go_sem, c0, c1, c2, c3, c4]
end Go.Proofs.Sky
