/-
  lemmas for the theorems of this claim. No conditions beyond those written in the statements.
-/
import Derived.Test.YtdaplhjkccfmgaaR30
set_option linter.unusedVariables false
set_option linter.unusedSimpArgs false
set_option linter.unnecessarySimpa false
namespace Go.Proofs.Sky
open Go Go.RowKit Go.Shelf
attribute [local go_sem] Oper.semAt_some
set_option maxHeartbeats 4000000
theorem infoErr : (Try.prog.info? 27).map (·.size) = some 1 := by kernel_rfl
theorem Replay_main (Wn : Nat) (L : Int) (ps : List (Int × Int)) (v : Value) (w : World) (hv : RdS w v ps) (hok : wl Wn L) (hlen : ps.length ≤ 10000) :
    Calls Try.prog 10 #[.int .i64 Wn, .int .i64 L, v] w fun e w' => ReplP w.heap.size (replR Wn L ps).1 (replR Wn L ps).2.1 (replR Wn L ps).2.2 e w' ∧ Bw w w' := by
  have HV := Lib.hid hv
  obtain ⟨ad, cap, rfl⟩ := hv.form
  have hli : (ps.length : Int) ≤ 10000 := by omega
  obtain ⟨hW0, hW1, hL0, hL1⟩ := hok
  have HNew := Lib.hid (fun W => New_any Wn L W)
  rw [newP_ok ⟨hW0, hW1, hL0, hL1⟩] at HNew
  have HOf := Lib.hid (fun W hW => of_det Wn L [] (.slice none 0 0) W hW hW0 hW1 (by simp <;> omega) (by intro x hx; cases hx))
  rw [show (Rg.of Wn []).arr = (Rg.new Wn).arr from rfl] at HOf
  have HPa := Lib.hid (fun W => pairs_any (.slice ad ps.length cap) ps.length ad cap rfl W)
  have hns := (Rg.new Wn).size
  have hno := (Rg.new Wn).arr_ok.ok
  have hz := zeroRing
  have b0 := Blk.new w 3 #[.int .i64 L]
  have HBW := Lib.hid (Bw.alloc (Bw.alloc (Bw.alloc (Bw.alloc (Bw.refl w) (.cells #[.int .i64 L] 3)) (.cells #[.slice none 0 0] 25)) (.cells #[.slice none 0 0] 26)) (.cells #[.int .i64 0] 27))
  have B0 := Lib.hid (((Blk.new w 3 #[.int .i64 L]).alloc (.cells #[.slice none 0 0] 25)).alloc (.cells #[.slice none 0 0] 26) |>.alloc (.cells #[.int .i64 0] 27))
  have B1 : Hid (Blk ((((w.alloc (.cells #[.int .i64 L] 3)).alloc (.cells #[.slice none 0 0] 25)).alloc (.cells #[.slice none 0 0] 26)).alloc (.cells #[.int .i64 0] 27)) (w.heap.size + 1) 25 #[.slice none 0 0]) := Lib.hid (by have := ((Blk.new (w.alloc (.cells #[.int .i64 L] 3)) 25 #[.slice none 0 0]).alloc (.cells #[.slice none 0 0] 26)).alloc (.cells #[.int .i64 0] 27); simpa using this)
  have B2 : Hid (Blk ((((w.alloc (.cells #[.int .i64 L] 3)).alloc (.cells #[.slice none 0 0] 25)).alloc (.cells #[.slice none 0 0] 26)).alloc (.cells #[.int .i64 0] 27)) (w.heap.size + 1 + 1) 26 #[.slice none 0 0]) := Lib.hid (by have := (Blk.new ((w.alloc (.cells #[.int .i64 L] 3)).alloc (.cells #[.slice none 0 0] 25)) 26 #[.slice none 0 0]).alloc (.cells #[.int .i64 0] 27); simpa using this)
  have B3 : Hid (Blk ((((w.alloc (.cells #[.int .i64 L] 3)).alloc (.cells #[.slice none 0 0] 25)).alloc (.cells #[.slice none 0 0] 26)).alloc (.cells #[.int .i64 0] 27)) (w.heap.size + 1 + 1 + 1) 27 #[.int .i64 0]) := Lib.hid (by have := Blk.new (((w.alloc (.cells #[.int .i64 L] 3)).alloc (.cells #[.slice none 0 0] 25)).alloc (.cells #[.slice none 0 0] 26)) 27 #[.int .i64 0]; simpa using this)
  have HZ0 : Hid (w.heap.size + 1 + 1 + 1 < ((((w.alloc (.cells #[.int .i64 L] 3)).alloc (.cells #[.slice none 0 0] 25)).alloc (.cells #[.slice none 0 0] 26)).alloc (.cells #[.int .i64 0] 27)).heap.size) := Lib.hid (by simp)
  clear b0 hv
  (refine calls_of_marks (w.heap.size) Try.func10 rfl ?_; simp only [Try.ntmps10, List.size_toArray, List.length_cons, List.length_nil, Nat.reduceAdd, Nat.reduceSub, Array.replicate_succ, Array.replicate_zero, List.push_toArray, List.append_toArray, List.nil_append, List.cons_append])
  go_wp2_with (first | (go_at_call 16; refine (HNew.out _).mono ?_; rintro e w1 ⟨rfl, hb1⟩; replace B0 := Lib.hid (B0.out.bw hb1); replace B1 := Lib.hid (B1.out.bw hb1); replace B2 := Lib.hid (B2.out.bw hb1); replace B3 := Lib.hid (B3.out.bw hb1); replace HBW := Lib.hid (HBW.out.trans hb1); have HZ := Lib.hid (Nat.lt_of_lt_of_le HZ0.out hb1.size); clear hb1) | ((with_reducible refine at_store 34 (.tmp 9) (.tmp 19) ?_); refine wpList_store_row rfl 34 _ _ rfl w1.heap.size #[.int .i64 Wn, .int .i64 L, .slice none 0 0] rfl rfl 34 #[.int .i64 0, .int .i64 0, .slice none 0 0] (Blk.new w1 _ _) (by kernel_rfl) rfl (by simp [Value.oneCell']) ?_; have hb2 := Bw.alloc (Bw.refl w1) (.cells #[.int .i64 0, .int .i64 0, .slice none 0 0] 34); replace B0 := Lib.hid (B0.out.bw hb2); replace B1 := Lib.hid (B1.out.bw hb2); replace B2 := Lib.hid (B2.out.bw hb2); replace B3 := Lib.hid (B3.out.bw hb2); replace HBW := Lib.hid (HBW.out.trans hb2); have B4 := Lib.hid ((Blk.new w1 34 #[.int .i64 0, .int .i64 0, .slice none 0 0]).row #[.int .i64 Wn, .int .i64 L, .slice none 0 0]); replace B0 := Lib.hid (B0.out.row_other (g' := w1.heap.size) (by have := HZ.out; omega) #[.int .i64 Wn, .int .i64 L, .slice none 0 0]); replace B1 := Lib.hid (B1.out.row_other (g' := w1.heap.size) (by have := HZ.out; omega) #[.int .i64 Wn, .int .i64 L, .slice none 0 0]); replace B2 := Lib.hid (B2.out.row_other (g' := w1.heap.size) (by have := HZ.out; omega) #[.int .i64 Wn, .int .i64 L, .slice none 0 0]); replace B3 := Lib.hid (B3.out.row_other (g' := w1.heap.size) (by have := HZ.out; omega) #[.int .i64 Wn, .int .i64 L, .slice none 0 0]); replace HBW := Lib.hid (Bw.setRow (g := w1.heap.size) HBW.out (by have := HZ.out; omega) #[.int .i64 Wn, .int .i64 L, .slice none 0 0]); have HS2 := Lib.hid (show w1.heap.size < ((w1.alloc (.cells #[.int .i64 0, .int .i64 0, .slice none 0 0] 34)).setRow w1.heap.size #[.int .i64 Wn, .int .i64 L, .slice none 0 0]).heap.size by simp); clear hb2; generalize (w1.alloc (.cells #[.int .i64 0, .int .i64 0, .slice none 0 0] 34)).setRow w1.heap.size #[.int .i64 Wn, .int .i64 L, .slice none 0 0] = w2 at B0 B1 B2 B3 B4 HBW HS2 ⊢) | ((with_reducible refine at_store 27 (.tmp 8) (.tmp 20) ?_); refine wpList_store_int rfl 27 _ _ rfl (w.heap.size + 1 + 1 + 1) 0 0 rfl rfl infoErr B3.out (by simp) ?_; replace B0 := Lib.hid (B0.out.set_other (b := w.heap.size + 1 + 1 + 1) (by omega) 0 (.int .i64 0)); replace B1 := Lib.hid (B1.out.set_other (b := w.heap.size + 1 + 1 + 1) (by omega) 0 (.int .i64 0)); replace B2 := Lib.hid (B2.out.set_other (b := w.heap.size + 1 + 1 + 1) (by omega) 0 (.int .i64 0)); replace B4 := Lib.hid (B4.out.set_other (b := w.heap.size + 1 + 1 + 1) (by have := HZ.out; omega) 0 (.int .i64 0)); replace B3 := Lib.hid (B3.out.set 0 (.int .i64 0)); replace HBW := Lib.hid (Bw.setCell HBW.out (p := ⟨w.heap.size + 1 + 1 + 1, 0, none⟩) (by simp; omega) (.int .i64 0)); replace HS2 := Lib.hid (show w1.heap.size < (w2.setCell ⟨w.heap.size + 1 + 1 + 1, 0, none⟩ (.int .i64 0)).heap.size by simpa using HS2.out); generalize w2.setCell ⟨w.heap.size + 1 + 1 + 1, 0, none⟩ (.int .i64 0) = w3 at B0 B1 B2 B3 B4 HBW HS2 ⊢; have k3 : w3.cell? ⟨w.heap.size + 1 + 1 + 1, 0, none⟩ = some (.int .i64 0) := B3.out.cell rfl; have k4 : w3.cell? ⟨w1.heap.size, 0, none⟩ = some (.int .i64 Wn) := B4.out.cell rfl; have k5 : w3.cell? ⟨w1.heap.size, 1, none⟩ = some (.int .i64 L) := B4.out.cell rfl; have k6 : w3.cell? ⟨w1.heap.size, 2, none⟩ = some (.slice none 0 0) := B4.out.cell rfl) | (go_at_call 24; refine (HOf.out _ (RdI.nil _)).mono ?_; rintro e w4 ⟨rfl, hb4⟩; replace B0 := Lib.hid (B0.out.bw hb4); replace B1 := Lib.hid (B1.out.bw hb4); replace B2 := Lib.hid (B2.out.bw hb4); replace B3 := Lib.hid (B3.out.bw hb4); replace HBW := Lib.hid (HBW.out.trans hb4); have HS4 := Lib.hid (Nat.lt_of_lt_of_le HS2.out hb4.size); clear hb4 k3 k4 k5 k6) | ((with_reducible refine at_store 53 (.tmp 10) (.tmp 28) ?_); refine wpList_store_row rfl 53 _ _ rfl w4.heap.size (Rg.new Wn).arr rfl rfl 53 ring0 (Blk.new w4 _ _) (by rw [infoRing, hns]) (by rw [ring0_ok.size, hns]) hno ?_; have hb5 := Bw.alloc (Bw.refl w4) (.cells ring0 53); replace B0 := Lib.hid (B0.out.bw hb5); replace B1 := Lib.hid (B1.out.bw hb5); replace B2 := Lib.hid (B2.out.bw hb5); replace B3 := Lib.hid (B3.out.bw hb5); replace HBW := Lib.hid (HBW.out.trans hb5); have BR := Lib.hid ((Blk.new w4 53 ring0).row (Rg.new Wn).arr); have HZ4 := Lib.hid (Nat.lt_trans HZ.out HS4.out); replace B0 := Lib.hid (B0.out.row_other (g' := w4.heap.size) (by have := HZ4.out; omega) (Rg.new Wn).arr); replace B1 := Lib.hid (B1.out.row_other (g' := w4.heap.size) (by have := HZ4.out; omega) (Rg.new Wn).arr); replace B2 := Lib.hid (B2.out.row_other (g' := w4.heap.size) (by have := HZ4.out; omega) (Rg.new Wn).arr); replace B3 := Lib.hid (B3.out.row_other (g' := w4.heap.size) (by have := HZ4.out; omega) (Rg.new Wn).arr); replace HBW := Lib.hid (Bw.setRow (g := w4.heap.size) HBW.out (by have := HZ4.out; omega) (Rg.new Wn).arr); have HS5 := Lib.hid (show w4.heap.size < ((w4.alloc (.cells ring0 53)).setRow w4.heap.size (Rg.new Wn).arr).heap.size by simp); clear hb5; generalize (w4.alloc (.cells ring0 53)).setRow w4.heap.size (Rg.new Wn).arr = w5 at B0 B1 B2 B3 BR HBW HS5 ⊢) | (go_at_call 25; refine (HPa.out _).mono ?_; rintro e w6 ⟨rfl, rfl⟩))
  obtain ⟨bb, off, hbb0, hbb, had, hdat⟩ := rdS_data HV.out
  have hbw6 := Bw.alloc (Bw.refl w5) (.cells #[.slice ad ps.length cap] 22)
  have PB := Blk.new w5 22 #[.slice ad ps.length cap]
  replace B0 := Lib.hid (B0.out.bw hbw6); replace B1 := Lib.hid (B1.out.bw hbw6); replace B2 := Lib.hid (B2.out.bw hbw6); replace B3 := Lib.hid (B3.out.bw hbw6); replace HBW := Lib.hid (HBW.out.trans hbw6)
  replace BR := Lib.hid (BR.out.bw hbw6)
  have hN := hbw6.size
  have hsB : w5.heap.size < (w5.alloc (.cells #[.slice ad ps.length cap] 22)).heap.size := by simp
  have hszz : w.heap.size + 1 + 1 + 1 < w4.heap.size := HZ4.out
  have hszy : w4.heap.size < w5.heap.size := HS5.out
  generalize w5.alloc (.cells #[.slice ad ps.length cap] 22) = W0 at B0 B1 B2 B3 BR HBW PB hN hsB ⊢
  have hw0 := HBW.out.size
  refine range_pairs ps bb off cap w5.heap.size hsB (hbb.imp id (fun h => by omega)) (by omega) ad had (PB.cell rfl) (fun i hi => by
      have h9 := hbb.resolve_left (by intro e; subst e; simp at hi)
      exact ⟨HBW.out.cell' (hdat i hi).1, HBW.out.cell' (hdat i hi).2⟩) (by omega) rfl rfl
    (fun pre W => RepI w W0.heap.size w4.heap.size Wn L pre W)
    (fun c pre W => c = .ret ∧ (∃ m ∈ pre, okM m = false) ∧ RepX w W)
    (fun s X Y row hs hg hr => hs.K hw0 hg hr)
    (fun c s X Y row hs hg hr => ⟨hs.1, hs.2.1, hs.2.2.K hw0 hg hr⟩)
    ⟨by simp, HBW.out, B0.out, ⟨_, B1.out, World.ownsRow_nil _ _ _ _⟩, ⟨_, B2.out, World.ownsRow_nil _ _ _ _⟩, B3.out, BR.out, Nat.le_refl _⟩
    (fun y => [(31, .int .i64 y.1), (32, .int .i64 y.2), (11, .int .i64 y.1), (12, .int .i64 y.2)]) ?assign ?body ?done ?stop
  case assign =>
    intro l y W K hK
    gi_wp2
    exact hK
  case body =>
    rintro l pre ⟨p, f⟩ W hlt hI
    simp only [List.foldl, List.setIfInBounds_toArray, List.set_cons_succ, List.set_cons_zero]
    refine wpIn_block ?_
    refine wpIn_seq (wpIn_seq ?_)
    refine wpIn_region_round (by kernel_rfl) (fun ⟨_, _, h⟩ => h) ?_
    have HRt := Lib.hid (fun W => right_any p f W)
    obtain ⟨okm, ibw, i0, ⟨v1, i1, o1⟩, ⟨v2, i2, o2⟩, i3, ir, isz⟩ := hI
    obtain ⟨A1, c1, rfl⟩ := own_form2 o1
    obtain ⟨A2, c2, rfl⟩ := own_form2 o2
    have hBW : w5.heap.size < W.heap.size := by omega
    have hbW : bb < W.heap.size := by omega
    clear hbw6 B4 hdat hbb had hns hno
    cases hm : okM (p, f) with
    | false =>
      rw [show (inN p 10000000000000 && inN f 10000000000000) = false from hm] at HRt
      go_wp2_with (go_at_call 26; refine (HRt.out _).mono ?_; rintro e w7 ⟨rfl, hb7⟩)
      have j1 := i1.bw hb7
      have j2 := i2.bw hb7
      have j3 := i3.bw hb7
      have s0 : Stp w5.heap.size bb W w7 := Stp.bw hBW hbW hb7
      have jbw := ibw.trans hb7
      have J1 := Lib.hid j1; have J2 := Lib.hid j2; have J3 := Lib.hid j3; have S0 := Lib.hid s0; have JBW := Lib.hid jbw
      have g1 := j1.cell (j := 0) rfl
      have g2 := j2.cell (j := 0) rfl
      have g3 := j3.cell (j := 0) rfl
      have f1 := j1.frozen 0
      have f2 := j2.frozen 0
      have f3 := j3.frozen 0
      have hs7 := hb7.size
      simp at g1 g2 g3
      clear j1 j2 j3 s0 jbw hb7 i0 i1 i2 i3 ir o1 o2 ibw
      refine wpIn_cond_true rfl ?_
      refine wpIn_seq ?_
      refine wpIn_region_round (by kernel_rfl) (fun ⟨_, _, h⟩ => h) ?_
      go_wp2
      refine wpIn_ret ?_
      have y1 := J1.out.set 0 (.slice none 0 0)
      have y2 := (J2.out.set_other (b := w.heap.size + 1) (by omega) 0 (.slice none 0 0)).set 0 (.slice none 0 0)
      have y3 := ((J3.out.set_other (b := w.heap.size + 1) (by omega) 0 (.slice none 0 0)).set_other (b := w.heap.size + 1 + 1) (by omega) 0 (.slice none 0 0)).set 0 (.int .i64 2)
      have z1 := Stp.set (B := w5.heap.size) (bb := bb) J1.out (by omega) (by omega) 0 (.slice none 0 0)
      have z2 := Stp.set (B := w5.heap.size) (bb := bb) (J2.out.set_other (b := w.heap.size + 1) (by omega) 0 (.slice none 0 0)) (by omega) (by omega) 0 (.slice none 0 0)
      have z3 := Stp.set (B := w5.heap.size) (bb := bb) ((J3.out.set_other (b := w.heap.size + 1) (by omega) 0 (.slice none 0 0)).set_other (b := w.heap.size + 1 + 1) (by omega) 0 (.slice none 0 0)) (by omega) (by omega) 0 (.int .i64 2)
      refine ⟨(((S0.out.trans z1).trans z2).trans z3).from _, rfl, ⟨(p, f), by simp, hm⟩, ⟨Bw.setCell (Bw.setCell (Bw.setCell JBW.out (by simp) _) (by simp; omega) _) (by simp; omega) _, ?_, ?_, y3⟩⟩
      · exact (y1.set_other (b := w.heap.size + 1 + 1) (by omega) 0 (.slice none 0 0)).set_other (b := w.heap.size + 1 + 1 + 1) (by omega) 0 (.int .i64 2)
      · exact y2.set_other (b := w.heap.size + 1 + 1 + 1) (by omega) 0 (.int .i64 2)
    | true =>
      rw [show (inN p 10000000000000 && inN f 10000000000000) = true from hm] at HRt
      go_wp2_with (go_at_call 26; refine (HRt.out _).mono ?_; rintro e w7 ⟨rfl, hb7⟩)
      have J0 := Lib.hid (i0.bw hb7)
      have J1 := Lib.hid (i1.bw hb7)
      have J2 := Lib.hid (i2.bw hb7)
      have J3 := Lib.hid (i3.bw hb7)
      have JR := Lib.hid (ir.bw hb7)
      have O1 := Lib.hid (own_bw o1 hb7)
      have O2 := Lib.hid (own_bw o2 hb7)
      have S0 : Hid (Stp w5.heap.size bb W w7) := Lib.hid (Stp.bw hBW hbW hb7)
      have JBW := Lib.hid (ibw.trans hb7)
      have JS := Lib.hid (Nat.le_trans isz hb7.size)
      clear hb7 i0 i1 i2 i3 ir o1 o2 ibw isz hBW hbW
      have hrw := runG_W Wn L pre
      have hrok := runG_ok Wn L pre (by omega) (by omega)
      have hrds := runG_ds Wn L pre
      have hsd := runS_ok (L := L) (W := Wn) hW0 pre okm
      have hrl := runS_len Wn L pre
      have HSLL := Lib.hid (Nat.le_trans (runS_sl_len Wn L pre) (Nat.le_of_lt (Nat.lt_of_lt_of_le hlt hlen)))
      have hnx := runG_snoc Wn L pre (p, f)
      have hsx := runS_snoc Wn L pre (p, f)
      have OKM := Lib.hid okm; clear okm
      obtain ⟨⟨p0, p1⟩, f0, f1⟩ := (okM_iff _).1 hm
      simp only at p0 p1 f0 f1
      have hr2ok := Rg.step_ok hrok L (p - f)
      have hd2 : OkD ((runG Wn L pre).step L (p - f)).ds := by
        rw [Rg.step_ds, hrw, hrds]
        exact (okD_next hW0 hsd (by omega) (by omega)).2
      have HSt := Lib.hid (fun W => step_det (runG Wn L pre) p f L W hrok (by rw [hrds]; exact hsd.2) p0 p1 f0 f1 hL0 hL1)
      have HRa := Lib.hid (fun W => ratio_ring (.agg ((runG Wn L pre).step L (p - f)).arr) ((runG Wn L pre).step L (p - f)) f W ⟨rfl, hr2ok⟩ hd2 f0 f1)
      have h1s := (runG Wn L pre).size
      have h2s := ((runG Wn L pre).step L (p - f)).size
      have h2o := ((runG Wn L pre).step L (p - f)).arr_ok.ok
      have hd3 : ((runG Wn L pre).step L (p - f)).ds = nextD Wn L (runS Wn L pre).1 (p - f) := by rw [Rg.step_ds, hrw, hrds]
      rw [hrds] at HSt
      have HX := Lib.hid (And.intro hnx (And.intro hsx (And.intro hd3 hrl)))
      clear hnx hsx hd3 hrw hrok hrds hsd hr2ok hd2 hrl
      obtain ⟨sl, hsl⟩ : ∃ sl, slipD L (runS Wn L pre).1 (p - f) = sl := ⟨_, rfl⟩
      rw [hsl] at HSt
      have HSL := Lib.hid hsl; clear hsl
      generalize (runG Wn L pre).arr = a1 at HSt h1s JR
      refine wpIn_cond_false rfl ?_
      refine wpIn_skip ?_
      refine wpIn_seq ?_
      refine wpIn_region_round (by kernel_rfl) (fun ⟨_, _, h⟩ => h) ?_
      have k0 : w7.cell? ⟨w.heap.size, 0, none⟩ = some (.int .i64 L) := J0.out.cell rfl
      go_wp2_with (first | ((with_reducible refine at_load 53 (.tmp 10) ?_); refine wpList_load_row rfl 53 _ rfl w4.heap.size rfl 53 a1 (0, 0) _ JR.out Try.underlying53 rfl (by rw [infoRing, h1s]) ?_) | (go_at_call 27; refine (HSt.out _).mono ?_; rintro e w8 ⟨rfl, hb8⟩; replace J0 := Lib.hid (J0.out.bw hb8); replace J1 := Lib.hid (J1.out.bw hb8); replace J2 := Lib.hid (J2.out.bw hb8); replace J3 := Lib.hid (J3.out.bw hb8); replace JR := Lib.hid (JR.out.bw hb8); replace O1 := Lib.hid (own_bw O1.out hb8); replace O2 := Lib.hid (own_bw O2.out hb8); replace S0 := Lib.hid (S0.out.trans (Stp.bw (by have := JS.out; omega) (by have := JS.out; omega) hb8)); replace JBW := Lib.hid (JBW.out.trans hb8); replace JS := Lib.hid (Nat.le_trans JS.out (hb8).size); clear hb8 k0) | ((with_reducible refine at_store 53 (.tmp 13) (.tmp 43) ?_); refine wpList_store_row rfl 53 _ _ rfl w8.heap.size ((runG Wn L pre).step L (p - f)).arr rfl rfl 53 ring0 (Blk.new w8 _ _) (by rw [infoRing, h2s]) (by rw [ring0_ok.size, h2s]) h2o ?_; have hb9 := Bw.setRow (g := w8.heap.size) (Bw.alloc (Bw.refl w8) (.cells ring0 53)) (Nat.le_refl _) ((runG Wn L pre).step L (p - f)).arr; have JN := Lib.hid JS.out; replace J0 := Lib.hid (J0.out.bw hb9); replace J1 := Lib.hid (J1.out.bw hb9); replace J2 := Lib.hid (J2.out.bw hb9); replace J3 := Lib.hid (J3.out.bw hb9); replace JR := Lib.hid (JR.out.bw hb9); replace O1 := Lib.hid (own_bw O1.out hb9); replace O2 := Lib.hid (own_bw O2.out hb9); replace S0 := Lib.hid (S0.out.trans (Stp.bw (by have := JS.out; omega) (by have := JS.out; omega) hb9)); replace JBW := Lib.hid (JBW.out.trans hb9); replace JS := Lib.hid (Nat.le_trans JS.out (hb9).size); have J9 := Lib.hid ((Blk.new w8 53 ring0).row ((runG Wn L pre).step L (p - f)).arr); clear hb9; generalize (w8.alloc (.cells ring0 53)).setRow w8.heap.size ((runG Wn L pre).step L (p - f)).arr = w9 at J0 J1 J2 J3 JR J9 O1 O2 S0 JBW JS ⊢))
      refine wpIn_seq (wpIn_seq ?_)
      refine wpIn_region_round (by kernel_rfl) (fun ⟨_, _, h⟩ => h) ?_
      go_wp2
      cases sl with
      | true =>
        have HE : Hid ((runS Wn L (pre ++ [(p, f)])).2.2 = (runS Wn L pre).2.2 ++ [((runS Wn L pre).2.1.length : Int)]) := Lib.hid (by rw [HX.out.2.1]; simp [stepS, HSL.out])
        have g1 : w9.cell? ⟨w.heap.size + 1, 0, none⟩ = some (.slice A1 (runS Wn L pre).2.1.length c1) := J1.out.cell rfl
        have g2 : w9.cell? ⟨w.heap.size + 1 + 1, 0, none⟩ = some (.slice A2 (runS Wn L pre).2.2.length c2) := J2.out.cell rfl
        refine wpIn_cond_true rfl ?_
        refine wpIn_region_round (by kernel_rfl) (fun ⟨_, _, h⟩ => h) ?_
        go_wp2_with (first | (at_builtin; refine wpList_append_int1 rfl (.tmp 46) (.tmp 49) _ rfl W0.heap.size 3 Try.underlying26 infoInt _ (runS Wn L pre).2.2 ((runS Wn L pre).2.1.length : Int) rfl (own_bw O2.out (Bw.alloc (Bw.refl _) _)) _ rfl (by simp [go_sem]) (by have := HSLL.out; omega) (by have := JS.out; simp; omega) ?_; intro v3 w10 hown hgr; have hba := Bw.alloc (Bw.refl w9) (.cells #[.int .i64 ((runS Wn L pre).2.1.length : Int)] 3); replace J0 := Lib.hid (J0.out.bw hba); replace J1 := Lib.hid (J1.out.bw hba); replace J2 := Lib.hid (J2.out.bw hba); replace J3 := Lib.hid (J3.out.bw hba); replace JR := Lib.hid (JR.out.bw hba); replace O1 := Lib.hid (own_bw O1.out hba); replace O2 := Lib.hid (own_bw O2.out hba); replace S0 := Lib.hid (S0.out.trans (Stp.bw (by have := JS.out; omega) (by have := JS.out; omega) hba)); replace JBW := Lib.hid (JBW.out.trans hba); replace JS := Lib.hid (Nat.le_trans JS.out (hba).size); replace J9 := Lib.hid (J9.out.bw hba); clear hba; have HO := O2.out; replace O1 := Lib.hid (own_other O1.out HO (by decide) hgr); replace J0 := Lib.hid (J0.out.grown HO hgr (by omega)); replace J1 := Lib.hid (J1.out.grown HO hgr (by omega)); replace J2 := Lib.hid (J2.out.grown HO hgr (by omega)); replace J3 := Lib.hid (J3.out.grown HO hgr (by omega)); replace JR := Lib.hid (JR.out.grown HO hgr (by omega)); replace J9 := Lib.hid (J9.out.grownT HO hgr (by decide)); replace S0 := Lib.hid (S0.out.trans (Stp.grown HO hgr (by omega) (by omega) JS.out)); replace JBW := Lib.hid (Below.grown JBW.out hgr JBW.out.size (fun k e => Nat.le_trans hw0 (HO.lt k e).1)); replace JS := Lib.hid (Nat.le_trans JS.out hgr.size); obtain ⟨A3, c3, rfl⟩ := own_form2 hown; have O3 := Lib.hid hown; clear hown hgr HO O2) | ((with_reducible refine at_store 26 (.tmp 7) (.tmp 50) ?_); refine wpList_store_slice rfl 26 _ _ rfl (w.heap.size + 1 + 1) 0 A3 _ c3 rfl rfl infoSl.2 J2.out (by simp) ?_; replace S0 := Lib.hid (S0.out.trans (Stp.set J2.out (by omega) (by omega) 0 (.slice A3 ((runS Wn L pre).2.2 ++ [((runS Wn L pre).2.1.length : Int)]).length c3))); replace J0 := Lib.hid (J0.out.set_other (b := w.heap.size + 1 + 1) (by have := JN.out; omega) 0 (.slice A3 ((runS Wn L pre).2.2 ++ [((runS Wn L pre).2.1.length : Int)]).length c3)); replace J1 := Lib.hid (J1.out.set_other (b := w.heap.size + 1 + 1) (by have := JN.out; omega) 0 (.slice A3 ((runS Wn L pre).2.2 ++ [((runS Wn L pre).2.1.length : Int)]).length c3)); replace J3 := Lib.hid (J3.out.set_other (b := w.heap.size + 1 + 1) (by have := JN.out; omega) 0 (.slice A3 ((runS Wn L pre).2.2 ++ [((runS Wn L pre).2.1.length : Int)]).length c3)); replace JR := Lib.hid (JR.out.set_other (b := w.heap.size + 1 + 1) (by have := JN.out; omega) 0 (.slice A3 ((runS Wn L pre).2.2 ++ [((runS Wn L pre).2.1.length : Int)]).length c3)); replace J9 := Lib.hid (J9.out.set_other (b := w.heap.size + 1 + 1) (by have := JN.out; omega) 0 (.slice A3 ((runS Wn L pre).2.2 ++ [((runS Wn L pre).2.1.length : Int)]).length c3)); replace J2 := Lib.hid (J2.out.set 0 (.slice A3 ((runS Wn L pre).2.2 ++ [((runS Wn L pre).2.1.length : Int)]).length c3)); replace O1 := Lib.hid (own_set (b := w.heap.size + 1 + 1) O1.out (by omega) 0 (.slice A3 ((runS Wn L pre).2.2 ++ [((runS Wn L pre).2.1.length : Int)]).length c3)); replace O3 := Lib.hid (own_set (b := w.heap.size + 1 + 1) O3.out (by omega) 0 (.slice A3 ((runS Wn L pre).2.2 ++ [((runS Wn L pre).2.1.length : Int)]).length c3)); replace JBW := Lib.hid (Bw.setCell (p := ⟨w.heap.size + 1 + 1, 0, none⟩) JBW.out (by simp; omega) (.slice A3 ((runS Wn L pre).2.2 ++ [((runS Wn L pre).2.1.length : Int)]).length c3)); replace JS := Lib.hid (show W0.heap.size ≤ (w10.setCell ⟨w.heap.size + 1 + 1, 0, none⟩ (.slice A3 ((runS Wn L pre).2.2 ++ [((runS Wn L pre).2.1.length : Int)]).length c3)).heap.size by simpa using JS.out)))
        generalize w10.setCell ⟨w.heap.size + 1 + 1, 0, none⟩ (.slice A3 ((runS Wn L pre).2.2 ++ [((runS Wn L pre).2.1.length : Int)]).length c3) = wx at J0 J1 J2 J3 JR J9 O1 O3 S0 JBW JS ⊢
        refine wpIn_region_held (S := fun Wx => Blk Wx w8.heap.size 53 ((runG Wn L pre).step L (p - f)).arr) (by kernel_rfl) (by kernel_rfl) (fun ⟨_, _, h⟩ => h) (J9.out.bw (Bw.drew (Bw.refl _))) (fun hS => ?_)
        have hbd := Bw.drew (Bw.refl wx)
        replace J0 := Lib.hid (J0.out.bw hbd); replace J1 := Lib.hid (J1.out.bw hbd); replace J2 := Lib.hid (J2.out.bw hbd); replace J3 := Lib.hid (J3.out.bw hbd); replace JR := Lib.hid (JR.out.bw hbd); replace O1 := Lib.hid (own_bw O1.out hbd); replace O3 := Lib.hid (own_bw O3.out hbd); replace S0 := Lib.hid (S0.out.trans (Stp.bw (by have := JS.out; omega) (by have := JS.out; omega) hbd)); replace JBW := Lib.hid (JBW.out.trans hbd); replace JS := Lib.hid (Nat.le_trans JS.out (hbd).size)
        replace J9 := Lib.hid (J9.out.bw hbd)
        generalize World.drew _ = wd at hS J0 J1 J2 J3 JR J9 O1 O3 S0 JBW JS ⊢
        refine take1 (i := 1) (some 52) rfl rfl (by kernel_rfl) (by kernel_rfl) (by kernel_rfl) (fun _ _ _ _ h => h) rfl hS ?_
        apply Exists.intro
        apply And.intro
        · intro W9 hW9; have q9 := Lib.hid hW9; clear hW9; exact run_load_row 53 _ rfl _ rfl 53 ((runG Wn L pre).step L (p - f)).arr _ q9.out Try.underlying53 rfl (by rw [infoRing, h2s])
        simp only [Act.put, List.setIfInBounds_toArray, List.set_cons_zero, List.set_cons_succ]
        refine take1 (i := 2) (some 53) rfl rfl (by kernel_rfl) (by kernel_rfl) (by kernel_rfl) (fun _ _ _ _ h => h) rfl hS ?_
        apply Exists.intro
        apply And.intro
        · intro W9 hW9; have q9 := Lib.hid hW9; clear hW9; go_simp; try with_reducible rfl
        simp only [Act.put, List.setIfInBounds_toArray, List.set_cons_zero, List.set_cons_succ]
        refine take1 (i := 6) (some 57) rfl rfl (by kernel_rfl) (by kernel_rfl) (by kernel_rfl) (fun _ _ _ _ h => h) rfl hS ?_
        apply Exists.intro
        apply And.intro
        · intro W9 hW9; have q9 := Lib.hid hW9; clear hW9; exact run_load_row 53 _ rfl _ rfl 53 ((runG Wn L pre).step L (p - f)).arr _ q9.out Try.underlying53 rfl (by rw [infoRing, h2s])
        simp only [Act.put, List.setIfInBounds_toArray, List.set_cons_zero, List.set_cons_succ]
        refine wpAnyH_ready (rs := [0, 3]) (by kernel_rfl) (by simp) ?_
        refine AllReadyH.cons rfl (fun K hK => ?_) ?_
        have g1 : World.cell? _ ⟨w.heap.size + 1, 0, none⟩ = some (.slice A1 (runS Wn L pre).2.1.length c1) := J1.out.cell rfl
        go_simp
        clear g1
        refine hK.out _ _ hS (fun hS => ?_)
        clear hK K
        refine wpAnyH_ready (rs := [3]) (by kernel_rfl) (by simp) ?_
        refine AllReadyH.cons rfl (fun K hK => ?_) ?_
        go_simp
        go_wp2_with (go_at_call 28; refine (HRa.out _).mono ?_; rintro e wr ⟨rfl, hbr⟩)
        replace J0 := Lib.hid (J0.out.bw hbr); replace J1 := Lib.hid (J1.out.bw hbr); replace J2 := Lib.hid (J2.out.bw hbr); replace J3 := Lib.hid (J3.out.bw hbr); replace JR := Lib.hid (JR.out.bw hbr); replace O1 := Lib.hid (own_bw O1.out hbr); replace O3 := Lib.hid (own_bw O3.out hbr); replace S0 := Lib.hid (S0.out.trans (Stp.bw (by have := JS.out; omega) (by have := JS.out; omega) hbr)); replace JBW := Lib.hid (JBW.out.trans hbr); replace JS := Lib.hid (Nat.le_trans JS.out (hbr).size)
        replace J9 := Lib.hid (J9.out.bw hbr)
        refine hK.out _ _ (hS.bw hbr) (fun hS => ?_)
        clear hK K
        refine wpAnyH_ready (rs := [4]) (by kernel_rfl) (by simp) ?_
        refine AllReadyH.cons rfl (fun K hK => ?_) ?_
        go_simp
        have hbb4 := Bw.alloc (Bw.refl wr) (.cells #[.int .i64 (f * ((runG Wn L pre).step L (p - f)).ds.length + sumI ((runG Wn L pre).step L (p - f)).ds), .int .i64 ((runG Wn L pre).step L (p - f)).ds.length] 36)
        have NB := Lib.hid (Blk.new wr 36 #[.int .i64 (f * ((runG Wn L pre).step L (p - f)).ds.length + sumI ((runG Wn L pre).step L (p - f)).ds), .int .i64 ((runG Wn L pre).step L (p - f)).ds.length])
        replace J0 := Lib.hid (J0.out.bw hbb4); replace J1 := Lib.hid (J1.out.bw hbb4); replace J2 := Lib.hid (J2.out.bw hbb4); replace J3 := Lib.hid (J3.out.bw hbb4); replace JR := Lib.hid (JR.out.bw hbb4); replace O1 := Lib.hid (own_bw O1.out hbb4); replace O3 := Lib.hid (own_bw O3.out hbb4); replace S0 := Lib.hid (S0.out.trans (Stp.bw (by have := JS.out; omega) (by have := JS.out; omega) hbb4)); replace JBW := Lib.hid (JBW.out.trans hbb4); replace JS := Lib.hid (Nat.le_trans JS.out (hbb4).size)
        replace J9 := Lib.hid (J9.out.bw hbb4)
        refine hK.out _ _ (hS.bw hbb4) (fun hS => ?_)
        clear hK K
        refine wpAnyH_ready (rs := [5]) (by kernel_rfl) (by simp) ?_
        refine AllReadyH.cons rfl (fun K hK => ?_) ?_
        rw [if_pos (by rfl)]
        refine wp_append_pair (.tmp 51) (.tmp 55) _ rfl (some 56) rfl W0.heap.size 36 Try.underlying25 infoRat _ (runS Wn L pre).2.1 (f * ((runG Wn L pre).step L (p - f)).ds.length + sumI ((runG Wn L pre).step L (p - f)).ds) ((runG Wn L pre).step L (p - f)).ds.length rfl O1.out _ rfl (NB.out.cell rfl) (NB.out.cell rfl) (by have := HX.out.2.2.2; omega) JS.out ?_
        intro v4 wy hown hgr
        simp only [Act.put, List.setIfInBounds_toArray, List.set_cons_zero, List.set_cons_succ]
        have HO := O1.out
        replace O3 := Lib.hid (own_other O3.out HO (by decide) hgr)
        replace J0 := Lib.hid (J0.out.grown HO hgr (by omega)); replace J1 := Lib.hid (J1.out.grown HO hgr (by omega)); replace J2 := Lib.hid (J2.out.grown HO hgr (by omega)); replace J3 := Lib.hid (J3.out.grown HO hgr (by omega)); replace JR := Lib.hid (JR.out.grown HO hgr (by omega)); replace J9 := Lib.hid (J9.out.grownT HO hgr (by decide)); replace S0 := Lib.hid (S0.out.trans (Stp.grown HO hgr (by omega) (by omega) JS.out)); replace JBW := Lib.hid (Below.grown JBW.out hgr JBW.out.size (fun k e => Nat.le_trans hw0 (HO.lt k e).1)); replace JS := Lib.hid (Nat.le_trans JS.out hgr.size)
        obtain ⟨A4, c4, rfl⟩ := own_form2 hown
        have O4 := Lib.hid hown
        clear hown hgr HO
        refine hK.out _ _ J9.out (fun hS => ?_)
        clear hK K
        refine wpAnyH_ready (rs := [7]) (by kernel_rfl) (by simp) ?_
        refine AllReadyH.cons rfl (fun K hK => ?_) ?_
        rw [if_pos (by rfl)]
        refine wp_store_slice0 25 _ _ rfl rfl (w.heap.size + 1) 0 A4 _ c4 rfl rfl infoSl.1 J1.out (by simp) ?_
        replace S0 := Lib.hid (S0.out.trans (Stp.set J1.out (by omega) (by omega) 0 (.slice A4 ((runS Wn L pre).2.1 ++ [((f * ((runG Wn L pre).step L (p - f)).ds.length + sumI ((runG Wn L pre).step L (p - f)).ds), ((((runG Wn L pre).step L (p - f)).ds.length : Nat) : Int))]).length c4)))
        replace J0 := Lib.hid (J0.out.set_other (b := w.heap.size + 1) (by have := JN.out; omega) 0 (.slice A4 ((runS Wn L pre).2.1 ++ [((f * ((runG Wn L pre).step L (p - f)).ds.length + sumI ((runG Wn L pre).step L (p - f)).ds), ((((runG Wn L pre).step L (p - f)).ds.length : Nat) : Int))]).length c4))
        replace J2 := Lib.hid (J2.out.set_other (b := w.heap.size + 1) (by have := JN.out; omega) 0 (.slice A4 ((runS Wn L pre).2.1 ++ [((f * ((runG Wn L pre).step L (p - f)).ds.length + sumI ((runG Wn L pre).step L (p - f)).ds), ((((runG Wn L pre).step L (p - f)).ds.length : Nat) : Int))]).length c4))
        replace J3 := Lib.hid (J3.out.set_other (b := w.heap.size + 1) (by have := JN.out; omega) 0 (.slice A4 ((runS Wn L pre).2.1 ++ [((f * ((runG Wn L pre).step L (p - f)).ds.length + sumI ((runG Wn L pre).step L (p - f)).ds), ((((runG Wn L pre).step L (p - f)).ds.length : Nat) : Int))]).length c4))
        replace JR := Lib.hid (JR.out.set_other (b := w.heap.size + 1) (by have := JN.out; omega) 0 (.slice A4 ((runS Wn L pre).2.1 ++ [((f * ((runG Wn L pre).step L (p - f)).ds.length + sumI ((runG Wn L pre).step L (p - f)).ds), ((((runG Wn L pre).step L (p - f)).ds.length : Nat) : Int))]).length c4))
        replace J9 := Lib.hid (J9.out.set_other (b := w.heap.size + 1) (by have := JN.out; omega) 0 (.slice A4 ((runS Wn L pre).2.1 ++ [((f * ((runG Wn L pre).step L (p - f)).ds.length + sumI ((runG Wn L pre).step L (p - f)).ds), ((((runG Wn L pre).step L (p - f)).ds.length : Nat) : Int))]).length c4))
        replace J1 := Lib.hid (J1.out.set 0 (.slice A4 ((runS Wn L pre).2.1 ++ [((f * ((runG Wn L pre).step L (p - f)).ds.length + sumI ((runG Wn L pre).step L (p - f)).ds), ((((runG Wn L pre).step L (p - f)).ds.length : Nat) : Int))]).length c4))
        replace O4 := Lib.hid (own_set (b := w.heap.size + 1) O4.out (by omega) 0 (.slice A4 ((runS Wn L pre).2.1 ++ [((f * ((runG Wn L pre).step L (p - f)).ds.length + sumI ((runG Wn L pre).step L (p - f)).ds), ((((runG Wn L pre).step L (p - f)).ds.length : Nat) : Int))]).length c4))
        replace O3 := Lib.hid (own_set (b := w.heap.size + 1) O3.out (by omega) 0 (.slice A4 ((runS Wn L pre).2.1 ++ [((f * ((runG Wn L pre).step L (p - f)).ds.length + sumI ((runG Wn L pre).step L (p - f)).ds), ((((runG Wn L pre).step L (p - f)).ds.length : Nat) : Int))]).length c4))
        replace JBW := Lib.hid (Bw.setCell (p := ⟨w.heap.size + 1, 0, none⟩) JBW.out (by simp) (.slice A4 ((runS Wn L pre).2.1 ++ [((f * ((runG Wn L pre).step L (p - f)).ds.length + sumI ((runG Wn L pre).step L (p - f)).ds), ((((runG Wn L pre).step L (p - f)).ds.length : Nat) : Int))]).length c4))
        replace JS := Lib.hid (show W0.heap.size ≤ (wy.setCell ⟨w.heap.size + 1, 0, none⟩ (.slice A4 ((runS Wn L pre).2.1 ++ [((f * ((runG Wn L pre).step L (p - f)).ds.length + sumI ((runG Wn L pre).step L (p - f)).ds), ((((runG Wn L pre).step L (p - f)).ds.length : Nat) : Int))]).length c4)).heap.size by simpa using JS.out)
        refine hK.out _ _ J9.out (fun hS => ?_)
        clear hK K
        refine wpAnyH_ready (rs := [8]) (by kernel_rfl) (by simp) ?_
        refine AllReadyH.cons rfl (fun K hK => ?_) ?_
        rw [if_pos (by rfl)]
        refine wp_store_row0 53 _ _ rfl rfl w4.heap.size ((runG Wn L pre).step L (p - f)).arr rfl rfl 53 a1 JR.out (by rw [infoRing, h2s]) (by rw [h1s, h2s]) h2o ?_
        replace S0 := Lib.hid (S0.out.trans (Stp.row JR.out (by omega) (by omega) ((runG Wn L pre).step L (p - f)).arr))
        replace J0 := Lib.hid (J0.out.row_other (g' := w4.heap.size) (by have := JN.out; omega) ((runG Wn L pre).step L (p - f)).arr)
        replace J1 := Lib.hid (J1.out.row_other (g' := w4.heap.size) (by have := JN.out; omega) ((runG Wn L pre).step L (p - f)).arr)
        replace J2 := Lib.hid (J2.out.row_other (g' := w4.heap.size) (by have := JN.out; omega) ((runG Wn L pre).step L (p - f)).arr)
        replace J3 := Lib.hid (J3.out.row_other (g' := w4.heap.size) (by have := JN.out; omega) ((runG Wn L pre).step L (p - f)).arr)
        replace J9 := Lib.hid (J9.out.row_other (g' := w4.heap.size) (by have := JN.out; omega) ((runG Wn L pre).step L (p - f)).arr)
        replace JR := Lib.hid (JR.out.row ((runG Wn L pre).step L (p - f)).arr)
        replace O4 := Lib.hid (own_row (b := w4.heap.size) O4.out (by omega) ((runG Wn L pre).step L (p - f)).arr)
        replace O3 := Lib.hid (own_row (b := w4.heap.size) O3.out (by omega) ((runG Wn L pre).step L (p - f)).arr)
        replace JBW := Lib.hid (Bw.setRow (g := w4.heap.size) JBW.out (by omega) ((runG Wn L pre).step L (p - f)).arr)
        replace JS := Lib.hid (show W0.heap.size ≤ (World.setRow _ w4.heap.size ((runG Wn L pre).step L (p - f)).arr).heap.size by simpa using JS.out)
        refine hK.out _ _ J9.out (fun hS => ?_)
        clear hK K
        refine wpAnyH_done (by kernel_rfl) ?_ _
        rotate_left
        exact AllReadyH.nil
        exact AllReadyH.nil
        exact AllReadyH.nil
        exact AllReadyH.nil
        exact AllReadyH.nil
        refine AllReadyH.cons rfl (fun K hK => ?_) ?_
        go_simp
        go_wp2_with (go_at_call 28; refine (HRa.out _).mono ?_; rintro e wr ⟨rfl, hbr⟩)
        replace J0 := Lib.hid (J0.out.bw hbr); replace J1 := Lib.hid (J1.out.bw hbr); replace J2 := Lib.hid (J2.out.bw hbr); replace J3 := Lib.hid (J3.out.bw hbr); replace JR := Lib.hid (JR.out.bw hbr); replace O1 := Lib.hid (own_bw O1.out hbr); replace O3 := Lib.hid (own_bw O3.out hbr); replace S0 := Lib.hid (S0.out.trans (Stp.bw (by have := JS.out; omega) (by have := JS.out; omega) hbr)); replace JBW := Lib.hid (JBW.out.trans hbr); replace JS := Lib.hid (Nat.le_trans JS.out (hbr).size)
        replace J9 := Lib.hid (J9.out.bw hbr)
        refine hK.out _ _ (hS.bw hbr) (fun hS => ?_)
        clear hK K
        refine wpAnyH_ready (rs := [0, 4]) (by kernel_rfl) (by simp) ?_
        refine AllReadyH.cons rfl (fun K hK => ?_) ?_
        have g1 : World.cell? _ ⟨w.heap.size + 1, 0, none⟩ = some (.slice A1 (runS Wn L pre).2.1.length c1) := J1.out.cell rfl
        go_simp
        clear g1
        refine hK.out _ _ hS (fun hS => ?_)
        clear hK K
        refine wpAnyH_ready (rs := [4]) (by kernel_rfl) (by simp) ?_
        refine AllReadyH.cons rfl (fun K hK => ?_) ?_
        go_simp
        have hbb4 := Bw.alloc (Bw.refl wr) (.cells #[.int .i64 (f * ((runG Wn L pre).step L (p - f)).ds.length + sumI ((runG Wn L pre).step L (p - f)).ds), .int .i64 ((runG Wn L pre).step L (p - f)).ds.length] 36)
        have NB := Lib.hid (Blk.new wr 36 #[.int .i64 (f * ((runG Wn L pre).step L (p - f)).ds.length + sumI ((runG Wn L pre).step L (p - f)).ds), .int .i64 ((runG Wn L pre).step L (p - f)).ds.length])
        replace J0 := Lib.hid (J0.out.bw hbb4); replace J1 := Lib.hid (J1.out.bw hbb4); replace J2 := Lib.hid (J2.out.bw hbb4); replace J3 := Lib.hid (J3.out.bw hbb4); replace JR := Lib.hid (JR.out.bw hbb4); replace O1 := Lib.hid (own_bw O1.out hbb4); replace O3 := Lib.hid (own_bw O3.out hbb4); replace S0 := Lib.hid (S0.out.trans (Stp.bw (by have := JS.out; omega) (by have := JS.out; omega) hbb4)); replace JBW := Lib.hid (JBW.out.trans hbb4); replace JS := Lib.hid (Nat.le_trans JS.out (hbb4).size)
        replace J9 := Lib.hid (J9.out.bw hbb4)
        refine hK.out _ _ (hS.bw hbb4) (fun hS => ?_)
        clear hK K
        refine wpAnyH_ready (rs := [5]) (by kernel_rfl) (by simp) ?_
        refine AllReadyH.cons rfl (fun K hK => ?_) ?_
        rw [if_pos (by rfl)]
        refine wp_append_pair (.tmp 51) (.tmp 55) _ rfl (some 56) rfl W0.heap.size 36 Try.underlying25 infoRat _ (runS Wn L pre).2.1 (f * ((runG Wn L pre).step L (p - f)).ds.length + sumI ((runG Wn L pre).step L (p - f)).ds) ((runG Wn L pre).step L (p - f)).ds.length rfl O1.out _ rfl (NB.out.cell rfl) (NB.out.cell rfl) (by have := HX.out.2.2.2; omega) JS.out ?_
        intro v4 wy hown hgr
        simp only [Act.put, List.setIfInBounds_toArray, List.set_cons_zero, List.set_cons_succ]
        have HO := O1.out
        replace O3 := Lib.hid (own_other O3.out HO (by decide) hgr)
        replace J0 := Lib.hid (J0.out.grown HO hgr (by omega)); replace J1 := Lib.hid (J1.out.grown HO hgr (by omega)); replace J2 := Lib.hid (J2.out.grown HO hgr (by omega)); replace J3 := Lib.hid (J3.out.grown HO hgr (by omega)); replace JR := Lib.hid (JR.out.grown HO hgr (by omega)); replace J9 := Lib.hid (J9.out.grownT HO hgr (by decide)); replace S0 := Lib.hid (S0.out.trans (Stp.grown HO hgr (by omega) (by omega) JS.out)); replace JBW := Lib.hid (Below.grown JBW.out hgr JBW.out.size (fun k e => Nat.le_trans hw0 (HO.lt k e).1)); replace JS := Lib.hid (Nat.le_trans JS.out hgr.size)
        obtain ⟨A4, c4, rfl⟩ := own_form2 hown
        have O4 := Lib.hid hown
        clear hown hgr HO
        refine hK.out _ _ J9.out (fun hS => ?_)
        clear hK K
        refine wpAnyH_ready (rs := [7]) (by kernel_rfl) (by simp) ?_
        refine AllReadyH.cons rfl (fun K hK => ?_) ?_
        rw [if_pos (by rfl)]
        refine wp_store_slice0 25 _ _ rfl rfl (w.heap.size + 1) 0 A4 _ c4 rfl rfl infoSl.1 J1.out (by simp) ?_
        replace S0 := Lib.hid (S0.out.trans (Stp.set J1.out (by omega) (by omega) 0 (.slice A4 ((runS Wn L pre).2.1 ++ [((f * ((runG Wn L pre).step L (p - f)).ds.length + sumI ((runG Wn L pre).step L (p - f)).ds), ((((runG Wn L pre).step L (p - f)).ds.length : Nat) : Int))]).length c4)))
        replace J0 := Lib.hid (J0.out.set_other (b := w.heap.size + 1) (by have := JN.out; omega) 0 (.slice A4 ((runS Wn L pre).2.1 ++ [((f * ((runG Wn L pre).step L (p - f)).ds.length + sumI ((runG Wn L pre).step L (p - f)).ds), ((((runG Wn L pre).step L (p - f)).ds.length : Nat) : Int))]).length c4))
        replace J2 := Lib.hid (J2.out.set_other (b := w.heap.size + 1) (by have := JN.out; omega) 0 (.slice A4 ((runS Wn L pre).2.1 ++ [((f * ((runG Wn L pre).step L (p - f)).ds.length + sumI ((runG Wn L pre).step L (p - f)).ds), ((((runG Wn L pre).step L (p - f)).ds.length : Nat) : Int))]).length c4))
        replace J3 := Lib.hid (J3.out.set_other (b := w.heap.size + 1) (by have := JN.out; omega) 0 (.slice A4 ((runS Wn L pre).2.1 ++ [((f * ((runG Wn L pre).step L (p - f)).ds.length + sumI ((runG Wn L pre).step L (p - f)).ds), ((((runG Wn L pre).step L (p - f)).ds.length : Nat) : Int))]).length c4))
        replace JR := Lib.hid (JR.out.set_other (b := w.heap.size + 1) (by have := JN.out; omega) 0 (.slice A4 ((runS Wn L pre).2.1 ++ [((f * ((runG Wn L pre).step L (p - f)).ds.length + sumI ((runG Wn L pre).step L (p - f)).ds), ((((runG Wn L pre).step L (p - f)).ds.length : Nat) : Int))]).length c4))
        replace J9 := Lib.hid (J9.out.set_other (b := w.heap.size + 1) (by have := JN.out; omega) 0 (.slice A4 ((runS Wn L pre).2.1 ++ [((f * ((runG Wn L pre).step L (p - f)).ds.length + sumI ((runG Wn L pre).step L (p - f)).ds), ((((runG Wn L pre).step L (p - f)).ds.length : Nat) : Int))]).length c4))
        replace J1 := Lib.hid (J1.out.set 0 (.slice A4 ((runS Wn L pre).2.1 ++ [((f * ((runG Wn L pre).step L (p - f)).ds.length + sumI ((runG Wn L pre).step L (p - f)).ds), ((((runG Wn L pre).step L (p - f)).ds.length : Nat) : Int))]).length c4))
        replace O4 := Lib.hid (own_set (b := w.heap.size + 1) O4.out (by omega) 0 (.slice A4 ((runS Wn L pre).2.1 ++ [((f * ((runG Wn L pre).step L (p - f)).ds.length + sumI ((runG Wn L pre).step L (p - f)).ds), ((((runG Wn L pre).step L (p - f)).ds.length : Nat) : Int))]).length c4))
        replace O3 := Lib.hid (own_set (b := w.heap.size + 1) O3.out (by omega) 0 (.slice A4 ((runS Wn L pre).2.1 ++ [((f * ((runG Wn L pre).step L (p - f)).ds.length + sumI ((runG Wn L pre).step L (p - f)).ds), ((((runG Wn L pre).step L (p - f)).ds.length : Nat) : Int))]).length c4))
        replace JBW := Lib.hid (Bw.setCell (p := ⟨w.heap.size + 1, 0, none⟩) JBW.out (by simp) (.slice A4 ((runS Wn L pre).2.1 ++ [((f * ((runG Wn L pre).step L (p - f)).ds.length + sumI ((runG Wn L pre).step L (p - f)).ds), ((((runG Wn L pre).step L (p - f)).ds.length : Nat) : Int))]).length c4))
        replace JS := Lib.hid (show W0.heap.size ≤ (wy.setCell ⟨w.heap.size + 1, 0, none⟩ (.slice A4 ((runS Wn L pre).2.1 ++ [((f * ((runG Wn L pre).step L (p - f)).ds.length + sumI ((runG Wn L pre).step L (p - f)).ds), ((((runG Wn L pre).step L (p - f)).ds.length : Nat) : Int))]).length c4)).heap.size by simpa using JS.out)
        refine hK.out _ _ J9.out (fun hS => ?_)
        clear hK K
        refine wpAnyH_ready (rs := [8]) (by kernel_rfl) (by simp) ?_
        refine AllReadyH.cons rfl (fun K hK => ?_) ?_
        rw [if_pos (by rfl)]
        refine wp_store_row0 53 _ _ rfl rfl w4.heap.size ((runG Wn L pre).step L (p - f)).arr rfl rfl 53 a1 JR.out (by rw [infoRing, h2s]) (by rw [h1s, h2s]) h2o ?_
        replace S0 := Lib.hid (S0.out.trans (Stp.row JR.out (by omega) (by omega) ((runG Wn L pre).step L (p - f)).arr))
        replace J0 := Lib.hid (J0.out.row_other (g' := w4.heap.size) (by have := JN.out; omega) ((runG Wn L pre).step L (p - f)).arr)
        replace J1 := Lib.hid (J1.out.row_other (g' := w4.heap.size) (by have := JN.out; omega) ((runG Wn L pre).step L (p - f)).arr)
        replace J2 := Lib.hid (J2.out.row_other (g' := w4.heap.size) (by have := JN.out; omega) ((runG Wn L pre).step L (p - f)).arr)
        replace J3 := Lib.hid (J3.out.row_other (g' := w4.heap.size) (by have := JN.out; omega) ((runG Wn L pre).step L (p - f)).arr)
        replace J9 := Lib.hid (J9.out.row_other (g' := w4.heap.size) (by have := JN.out; omega) ((runG Wn L pre).step L (p - f)).arr)
        replace JR := Lib.hid (JR.out.row ((runG Wn L pre).step L (p - f)).arr)
        replace O4 := Lib.hid (own_row (b := w4.heap.size) O4.out (by omega) ((runG Wn L pre).step L (p - f)).arr)
        replace O3 := Lib.hid (own_row (b := w4.heap.size) O3.out (by omega) ((runG Wn L pre).step L (p - f)).arr)
        replace JBW := Lib.hid (Bw.setRow (g := w4.heap.size) JBW.out (by omega) ((runG Wn L pre).step L (p - f)).arr)
        replace JS := Lib.hid (show W0.heap.size ≤ (World.setRow _ w4.heap.size ((runG Wn L pre).step L (p - f)).arr).heap.size by simpa using JS.out)
        refine hK.out _ _ J9.out (fun hS => ?_)
        clear hK K
        refine wpAnyH_done (by kernel_rfl) ?_ _
        rotate_left
        exact AllReadyH.nil
        exact AllReadyH.nil
        exact AllReadyH.nil
        exact AllReadyH.nil
        refine AllReadyH.cons rfl (fun K hK => ?_) ?_
        go_simp
        have hbb4 := Bw.alloc (Bw.refl wr) (.cells #[.int .i64 (f * ((runG Wn L pre).step L (p - f)).ds.length + sumI ((runG Wn L pre).step L (p - f)).ds), .int .i64 ((runG Wn L pre).step L (p - f)).ds.length] 36)
        have NB := Lib.hid (Blk.new wr 36 #[.int .i64 (f * ((runG Wn L pre).step L (p - f)).ds.length + sumI ((runG Wn L pre).step L (p - f)).ds), .int .i64 ((runG Wn L pre).step L (p - f)).ds.length])
        replace J0 := Lib.hid (J0.out.bw hbb4); replace J1 := Lib.hid (J1.out.bw hbb4); replace J2 := Lib.hid (J2.out.bw hbb4); replace J3 := Lib.hid (J3.out.bw hbb4); replace JR := Lib.hid (JR.out.bw hbb4); replace O1 := Lib.hid (own_bw O1.out hbb4); replace O3 := Lib.hid (own_bw O3.out hbb4); replace S0 := Lib.hid (S0.out.trans (Stp.bw (by have := JS.out; omega) (by have := JS.out; omega) hbb4)); replace JBW := Lib.hid (JBW.out.trans hbb4); replace JS := Lib.hid (Nat.le_trans JS.out (hbb4).size)
        replace J9 := Lib.hid (J9.out.bw hbb4)
        refine hK.out _ _ (hS.bw hbb4) (fun hS => ?_)
        clear hK K
        refine wpAnyH_ready (rs := [0]) (by kernel_rfl) (by simp) ?_
        refine AllReadyH.cons rfl (fun K hK => ?_) ?_
        have g1 : World.cell? _ ⟨w.heap.size + 1, 0, none⟩ = some (.slice A1 (runS Wn L pre).2.1.length c1) := J1.out.cell rfl
        go_simp
        clear g1
        refine hK.out _ _ hS (fun hS => ?_)
        clear hK K
        refine wpAnyH_ready (rs := [5]) (by kernel_rfl) (by simp) ?_
        refine AllReadyH.cons rfl (fun K hK => ?_) ?_
        rw [if_pos (by rfl)]
        refine wp_append_pair (.tmp 51) (.tmp 55) _ rfl (some 56) rfl W0.heap.size 36 Try.underlying25 infoRat _ (runS Wn L pre).2.1 (f * ((runG Wn L pre).step L (p - f)).ds.length + sumI ((runG Wn L pre).step L (p - f)).ds) ((runG Wn L pre).step L (p - f)).ds.length rfl O1.out _ rfl (NB.out.cell rfl) (NB.out.cell rfl) (by have := HX.out.2.2.2; omega) JS.out ?_
        intro v4 wy hown hgr
        simp only [Act.put, List.setIfInBounds_toArray, List.set_cons_zero, List.set_cons_succ]
        have HO := O1.out
        replace O3 := Lib.hid (own_other O3.out HO (by decide) hgr)
        replace J0 := Lib.hid (J0.out.grown HO hgr (by omega)); replace J1 := Lib.hid (J1.out.grown HO hgr (by omega)); replace J2 := Lib.hid (J2.out.grown HO hgr (by omega)); replace J3 := Lib.hid (J3.out.grown HO hgr (by omega)); replace JR := Lib.hid (JR.out.grown HO hgr (by omega)); replace J9 := Lib.hid (J9.out.grownT HO hgr (by decide)); replace S0 := Lib.hid (S0.out.trans (Stp.grown HO hgr (by omega) (by omega) JS.out)); replace JBW := Lib.hid (Below.grown JBW.out hgr JBW.out.size (fun k e => Nat.le_trans hw0 (HO.lt k e).1)); replace JS := Lib.hid (Nat.le_trans JS.out hgr.size)
        obtain ⟨A4, c4, rfl⟩ := own_form2 hown
        have O4 := Lib.hid hown
        clear hown hgr HO
        refine hK.out _ _ J9.out (fun hS => ?_)
        clear hK K
        refine wpAnyH_ready (rs := [7]) (by kernel_rfl) (by simp) ?_
        refine AllReadyH.cons rfl (fun K hK => ?_) ?_
        rw [if_pos (by rfl)]
        refine wp_store_slice0 25 _ _ rfl rfl (w.heap.size + 1) 0 A4 _ c4 rfl rfl infoSl.1 J1.out (by simp) ?_
        replace S0 := Lib.hid (S0.out.trans (Stp.set J1.out (by omega) (by omega) 0 (.slice A4 ((runS Wn L pre).2.1 ++ [((f * ((runG Wn L pre).step L (p - f)).ds.length + sumI ((runG Wn L pre).step L (p - f)).ds), ((((runG Wn L pre).step L (p - f)).ds.length : Nat) : Int))]).length c4)))
        replace J0 := Lib.hid (J0.out.set_other (b := w.heap.size + 1) (by have := JN.out; omega) 0 (.slice A4 ((runS Wn L pre).2.1 ++ [((f * ((runG Wn L pre).step L (p - f)).ds.length + sumI ((runG Wn L pre).step L (p - f)).ds), ((((runG Wn L pre).step L (p - f)).ds.length : Nat) : Int))]).length c4))
        replace J2 := Lib.hid (J2.out.set_other (b := w.heap.size + 1) (by have := JN.out; omega) 0 (.slice A4 ((runS Wn L pre).2.1 ++ [((f * ((runG Wn L pre).step L (p - f)).ds.length + sumI ((runG Wn L pre).step L (p - f)).ds), ((((runG Wn L pre).step L (p - f)).ds.length : Nat) : Int))]).length c4))
        replace J3 := Lib.hid (J3.out.set_other (b := w.heap.size + 1) (by have := JN.out; omega) 0 (.slice A4 ((runS Wn L pre).2.1 ++ [((f * ((runG Wn L pre).step L (p - f)).ds.length + sumI ((runG Wn L pre).step L (p - f)).ds), ((((runG Wn L pre).step L (p - f)).ds.length : Nat) : Int))]).length c4))
        replace JR := Lib.hid (JR.out.set_other (b := w.heap.size + 1) (by have := JN.out; omega) 0 (.slice A4 ((runS Wn L pre).2.1 ++ [((f * ((runG Wn L pre).step L (p - f)).ds.length + sumI ((runG Wn L pre).step L (p - f)).ds), ((((runG Wn L pre).step L (p - f)).ds.length : Nat) : Int))]).length c4))
        replace J9 := Lib.hid (J9.out.set_other (b := w.heap.size + 1) (by have := JN.out; omega) 0 (.slice A4 ((runS Wn L pre).2.1 ++ [((f * ((runG Wn L pre).step L (p - f)).ds.length + sumI ((runG Wn L pre).step L (p - f)).ds), ((((runG Wn L pre).step L (p - f)).ds.length : Nat) : Int))]).length c4))
        replace J1 := Lib.hid (J1.out.set 0 (.slice A4 ((runS Wn L pre).2.1 ++ [((f * ((runG Wn L pre).step L (p - f)).ds.length + sumI ((runG Wn L pre).step L (p - f)).ds), ((((runG Wn L pre).step L (p - f)).ds.length : Nat) : Int))]).length c4))
        replace O4 := Lib.hid (own_set (b := w.heap.size + 1) O4.out (by omega) 0 (.slice A4 ((runS Wn L pre).2.1 ++ [((f * ((runG Wn L pre).step L (p - f)).ds.length + sumI ((runG Wn L pre).step L (p - f)).ds), ((((runG Wn L pre).step L (p - f)).ds.length : Nat) : Int))]).length c4))
        replace O3 := Lib.hid (own_set (b := w.heap.size + 1) O3.out (by omega) 0 (.slice A4 ((runS Wn L pre).2.1 ++ [((f * ((runG Wn L pre).step L (p - f)).ds.length + sumI ((runG Wn L pre).step L (p - f)).ds), ((((runG Wn L pre).step L (p - f)).ds.length : Nat) : Int))]).length c4))
        replace JBW := Lib.hid (Bw.setCell (p := ⟨w.heap.size + 1, 0, none⟩) JBW.out (by simp) (.slice A4 ((runS Wn L pre).2.1 ++ [((f * ((runG Wn L pre).step L (p - f)).ds.length + sumI ((runG Wn L pre).step L (p - f)).ds), ((((runG Wn L pre).step L (p - f)).ds.length : Nat) : Int))]).length c4))
        replace JS := Lib.hid (show W0.heap.size ≤ (wy.setCell ⟨w.heap.size + 1, 0, none⟩ (.slice A4 ((runS Wn L pre).2.1 ++ [((f * ((runG Wn L pre).step L (p - f)).ds.length + sumI ((runG Wn L pre).step L (p - f)).ds), ((((runG Wn L pre).step L (p - f)).ds.length : Nat) : Int))]).length c4)).heap.size by simpa using JS.out)
        refine hK.out _ _ J9.out (fun hS => ?_)
        clear hK K
        refine wpAnyH_ready (rs := [8]) (by kernel_rfl) (by simp) ?_
        refine AllReadyH.cons rfl (fun K hK => ?_) ?_
        rw [if_pos (by rfl)]
        refine wp_store_row0 53 _ _ rfl rfl w4.heap.size ((runG Wn L pre).step L (p - f)).arr rfl rfl 53 a1 JR.out (by rw [infoRing, h2s]) (by rw [h1s, h2s]) h2o ?_
        replace S0 := Lib.hid (S0.out.trans (Stp.row JR.out (by omega) (by omega) ((runG Wn L pre).step L (p - f)).arr))
        replace J0 := Lib.hid (J0.out.row_other (g' := w4.heap.size) (by have := JN.out; omega) ((runG Wn L pre).step L (p - f)).arr)
        replace J1 := Lib.hid (J1.out.row_other (g' := w4.heap.size) (by have := JN.out; omega) ((runG Wn L pre).step L (p - f)).arr)
        replace J2 := Lib.hid (J2.out.row_other (g' := w4.heap.size) (by have := JN.out; omega) ((runG Wn L pre).step L (p - f)).arr)
        replace J3 := Lib.hid (J3.out.row_other (g' := w4.heap.size) (by have := JN.out; omega) ((runG Wn L pre).step L (p - f)).arr)
        replace J9 := Lib.hid (J9.out.row_other (g' := w4.heap.size) (by have := JN.out; omega) ((runG Wn L pre).step L (p - f)).arr)
        replace JR := Lib.hid (JR.out.row ((runG Wn L pre).step L (p - f)).arr)
        replace O4 := Lib.hid (own_row (b := w4.heap.size) O4.out (by omega) ((runG Wn L pre).step L (p - f)).arr)
        replace O3 := Lib.hid (own_row (b := w4.heap.size) O3.out (by omega) ((runG Wn L pre).step L (p - f)).arr)
        replace JBW := Lib.hid (Bw.setRow (g := w4.heap.size) JBW.out (by omega) ((runG Wn L pre).step L (p - f)).arr)
        replace JS := Lib.hid (show W0.heap.size ≤ (World.setRow _ w4.heap.size ((runG Wn L pre).step L (p - f)).arr).heap.size by simpa using JS.out)
        refine hK.out _ _ J9.out (fun hS => ?_)
        clear hK K
        refine wpAnyH_done (by kernel_rfl) ?_ _
        rotate_left
        exact AllReadyH.nil
        exact AllReadyH.nil
        exact AllReadyH.nil
        exact AllReadyH.nil
        exact AllReadyH.nil
        exact AllReadyH.nil
        all_goals
          refine ⟨S0.out.from _, S0.out.kp, ⟨fun m hm9 => ?_, JBW.out, J0.out, ⟨_, J1.out, ?_⟩, ⟨_, J2.out, ?_⟩, J3.out, ?_, by have h9 := JS.out; simp at h9 ⊢; exact h9⟩⟩
          · rcases List.mem_append.1 hm9 with h | h
            · exact OKM.out m h
            · simp at h; subst h; exact hm
          · have e : (runS Wn L (pre ++ [(p, f)])).2.1 = (runS Wn L pre).2.1 ++ [((f * ((runG Wn L pre).step L (p - f)).ds.length + sumI ((runG Wn L pre).step L (p - f)).ds), ((((runG Wn L pre).step L (p - f)).ds.length : Nat) : Int))] := by rw [HX.out.2.1, HX.out.2.2.1]; rfl
            rw [e]; exact O4.out
          · rw [HE.out]; exact O3.out
          · rw [HX.out.1]; exact JR.out
      | false =>
        have HE : Hid ((runS Wn L (pre ++ [(p, f)])).2.2 = (runS Wn L pre).2.2) := Lib.hid (by rw [HX.out.2.1]; simp [stepS, HSL.out])
        refine wpIn_cond_false rfl ?_
        refine wpIn_skip ?_
        refine wpIn_region_held (S := fun Wx => Blk Wx w8.heap.size 53 ((runG Wn L pre).step L (p - f)).arr) (by kernel_rfl) (by kernel_rfl) (fun ⟨_, _, h⟩ => h) (J9.out.bw (Bw.drew (Bw.refl _))) (fun hS => ?_)
        have hbd := Bw.drew (Bw.refl w9)
        replace J0 := Lib.hid (J0.out.bw hbd); replace J1 := Lib.hid (J1.out.bw hbd); replace J2 := Lib.hid (J2.out.bw hbd); replace J3 := Lib.hid (J3.out.bw hbd); replace JR := Lib.hid (JR.out.bw hbd); replace O1 := Lib.hid (own_bw O1.out hbd); replace O2 := Lib.hid (own_bw O2.out hbd); replace S0 := Lib.hid (S0.out.trans (Stp.bw (by have := JS.out; omega) (by have := JS.out; omega) hbd)); replace JBW := Lib.hid (JBW.out.trans hbd); replace JS := Lib.hid (Nat.le_trans JS.out (hbd).size)
        replace J9 := Lib.hid (J9.out.bw hbd)
        generalize World.drew _ = wd at hS J0 J1 J2 J3 JR J9 O1 O2 S0 JBW JS ⊢
        refine take1 (i := 1) (some 52) rfl rfl (by kernel_rfl) (by kernel_rfl) (by kernel_rfl) (fun _ _ _ _ h => h) rfl hS ?_
        apply Exists.intro
        apply And.intro
        · intro W9 hW9; have q9 := Lib.hid hW9; clear hW9; exact run_load_row 53 _ rfl _ rfl 53 ((runG Wn L pre).step L (p - f)).arr _ q9.out Try.underlying53 rfl (by rw [infoRing, h2s])
        simp only [Act.put, List.setIfInBounds_toArray, List.set_cons_zero, List.set_cons_succ]
        refine take1 (i := 2) (some 53) rfl rfl (by kernel_rfl) (by kernel_rfl) (by kernel_rfl) (fun _ _ _ _ h => h) rfl hS ?_
        apply Exists.intro
        apply And.intro
        · intro W9 hW9; have q9 := Lib.hid hW9; clear hW9; go_simp; try with_reducible rfl
        simp only [Act.put, List.setIfInBounds_toArray, List.set_cons_zero, List.set_cons_succ]
        refine take1 (i := 6) (some 57) rfl rfl (by kernel_rfl) (by kernel_rfl) (by kernel_rfl) (fun _ _ _ _ h => h) rfl hS ?_
        apply Exists.intro
        apply And.intro
        · intro W9 hW9; have q9 := Lib.hid hW9; clear hW9; exact run_load_row 53 _ rfl _ rfl 53 ((runG Wn L pre).step L (p - f)).arr _ q9.out Try.underlying53 rfl (by rw [infoRing, h2s])
        simp only [Act.put, List.setIfInBounds_toArray, List.set_cons_zero, List.set_cons_succ]
        refine wpAnyH_ready (rs := [0, 3]) (by kernel_rfl) (by simp) ?_
        refine AllReadyH.cons rfl (fun K hK => ?_) ?_
        have g1 : World.cell? _ ⟨w.heap.size + 1, 0, none⟩ = some (.slice A1 (runS Wn L pre).2.1.length c1) := J1.out.cell rfl
        go_simp
        clear g1
        refine hK.out _ _ hS (fun hS => ?_)
        clear hK K
        refine wpAnyH_ready (rs := [3]) (by kernel_rfl) (by simp) ?_
        refine AllReadyH.cons rfl (fun K hK => ?_) ?_
        go_simp
        go_wp2_with (go_at_call 28; refine (HRa.out _).mono ?_; rintro e wr ⟨rfl, hbr⟩)
        replace J0 := Lib.hid (J0.out.bw hbr); replace J1 := Lib.hid (J1.out.bw hbr); replace J2 := Lib.hid (J2.out.bw hbr); replace J3 := Lib.hid (J3.out.bw hbr); replace JR := Lib.hid (JR.out.bw hbr); replace O1 := Lib.hid (own_bw O1.out hbr); replace O2 := Lib.hid (own_bw O2.out hbr); replace S0 := Lib.hid (S0.out.trans (Stp.bw (by have := JS.out; omega) (by have := JS.out; omega) hbr)); replace JBW := Lib.hid (JBW.out.trans hbr); replace JS := Lib.hid (Nat.le_trans JS.out (hbr).size)
        replace J9 := Lib.hid (J9.out.bw hbr)
        refine hK.out _ _ (hS.bw hbr) (fun hS => ?_)
        clear hK K
        refine wpAnyH_ready (rs := [4]) (by kernel_rfl) (by simp) ?_
        refine AllReadyH.cons rfl (fun K hK => ?_) ?_
        go_simp
        have hbb4 := Bw.alloc (Bw.refl wr) (.cells #[.int .i64 (f * ((runG Wn L pre).step L (p - f)).ds.length + sumI ((runG Wn L pre).step L (p - f)).ds), .int .i64 ((runG Wn L pre).step L (p - f)).ds.length] 36)
        have NB := Lib.hid (Blk.new wr 36 #[.int .i64 (f * ((runG Wn L pre).step L (p - f)).ds.length + sumI ((runG Wn L pre).step L (p - f)).ds), .int .i64 ((runG Wn L pre).step L (p - f)).ds.length])
        replace J0 := Lib.hid (J0.out.bw hbb4); replace J1 := Lib.hid (J1.out.bw hbb4); replace J2 := Lib.hid (J2.out.bw hbb4); replace J3 := Lib.hid (J3.out.bw hbb4); replace JR := Lib.hid (JR.out.bw hbb4); replace O1 := Lib.hid (own_bw O1.out hbb4); replace O2 := Lib.hid (own_bw O2.out hbb4); replace S0 := Lib.hid (S0.out.trans (Stp.bw (by have := JS.out; omega) (by have := JS.out; omega) hbb4)); replace JBW := Lib.hid (JBW.out.trans hbb4); replace JS := Lib.hid (Nat.le_trans JS.out (hbb4).size)
        replace J9 := Lib.hid (J9.out.bw hbb4)
        refine hK.out _ _ (hS.bw hbb4) (fun hS => ?_)
        clear hK K
        refine wpAnyH_ready (rs := [5]) (by kernel_rfl) (by simp) ?_
        refine AllReadyH.cons rfl (fun K hK => ?_) ?_
        rw [if_pos (by rfl)]
        refine wp_append_pair (.tmp 51) (.tmp 55) _ rfl (some 56) rfl W0.heap.size 36 Try.underlying25 infoRat _ (runS Wn L pre).2.1 (f * ((runG Wn L pre).step L (p - f)).ds.length + sumI ((runG Wn L pre).step L (p - f)).ds) ((runG Wn L pre).step L (p - f)).ds.length rfl O1.out _ rfl (NB.out.cell rfl) (NB.out.cell rfl) (by have := HX.out.2.2.2; omega) JS.out ?_
        intro v4 wy hown hgr
        simp only [Act.put, List.setIfInBounds_toArray, List.set_cons_zero, List.set_cons_succ]
        have HO := O1.out
        replace O2 := Lib.hid (own_other O2.out HO (by decide) hgr)
        replace J0 := Lib.hid (J0.out.grown HO hgr (by omega)); replace J1 := Lib.hid (J1.out.grown HO hgr (by omega)); replace J2 := Lib.hid (J2.out.grown HO hgr (by omega)); replace J3 := Lib.hid (J3.out.grown HO hgr (by omega)); replace JR := Lib.hid (JR.out.grown HO hgr (by omega)); replace J9 := Lib.hid (J9.out.grownT HO hgr (by decide)); replace S0 := Lib.hid (S0.out.trans (Stp.grown HO hgr (by omega) (by omega) JS.out)); replace JBW := Lib.hid (Below.grown JBW.out hgr JBW.out.size (fun k e => Nat.le_trans hw0 (HO.lt k e).1)); replace JS := Lib.hid (Nat.le_trans JS.out hgr.size)
        obtain ⟨A4, c4, rfl⟩ := own_form2 hown
        have O4 := Lib.hid hown
        clear hown hgr HO
        refine hK.out _ _ J9.out (fun hS => ?_)
        clear hK K
        refine wpAnyH_ready (rs := [7]) (by kernel_rfl) (by simp) ?_
        refine AllReadyH.cons rfl (fun K hK => ?_) ?_
        rw [if_pos (by rfl)]
        refine wp_store_slice0 25 _ _ rfl rfl (w.heap.size + 1) 0 A4 _ c4 rfl rfl infoSl.1 J1.out (by simp) ?_
        replace S0 := Lib.hid (S0.out.trans (Stp.set J1.out (by omega) (by omega) 0 (.slice A4 ((runS Wn L pre).2.1 ++ [((f * ((runG Wn L pre).step L (p - f)).ds.length + sumI ((runG Wn L pre).step L (p - f)).ds), ((((runG Wn L pre).step L (p - f)).ds.length : Nat) : Int))]).length c4)))
        replace J0 := Lib.hid (J0.out.set_other (b := w.heap.size + 1) (by have := JN.out; omega) 0 (.slice A4 ((runS Wn L pre).2.1 ++ [((f * ((runG Wn L pre).step L (p - f)).ds.length + sumI ((runG Wn L pre).step L (p - f)).ds), ((((runG Wn L pre).step L (p - f)).ds.length : Nat) : Int))]).length c4))
        replace J2 := Lib.hid (J2.out.set_other (b := w.heap.size + 1) (by have := JN.out; omega) 0 (.slice A4 ((runS Wn L pre).2.1 ++ [((f * ((runG Wn L pre).step L (p - f)).ds.length + sumI ((runG Wn L pre).step L (p - f)).ds), ((((runG Wn L pre).step L (p - f)).ds.length : Nat) : Int))]).length c4))
        replace J3 := Lib.hid (J3.out.set_other (b := w.heap.size + 1) (by have := JN.out; omega) 0 (.slice A4 ((runS Wn L pre).2.1 ++ [((f * ((runG Wn L pre).step L (p - f)).ds.length + sumI ((runG Wn L pre).step L (p - f)).ds), ((((runG Wn L pre).step L (p - f)).ds.length : Nat) : Int))]).length c4))
        replace JR := Lib.hid (JR.out.set_other (b := w.heap.size + 1) (by have := JN.out; omega) 0 (.slice A4 ((runS Wn L pre).2.1 ++ [((f * ((runG Wn L pre).step L (p - f)).ds.length + sumI ((runG Wn L pre).step L (p - f)).ds), ((((runG Wn L pre).step L (p - f)).ds.length : Nat) : Int))]).length c4))
        replace J9 := Lib.hid (J9.out.set_other (b := w.heap.size + 1) (by have := JN.out; omega) 0 (.slice A4 ((runS Wn L pre).2.1 ++ [((f * ((runG Wn L pre).step L (p - f)).ds.length + sumI ((runG Wn L pre).step L (p - f)).ds), ((((runG Wn L pre).step L (p - f)).ds.length : Nat) : Int))]).length c4))
        replace J1 := Lib.hid (J1.out.set 0 (.slice A4 ((runS Wn L pre).2.1 ++ [((f * ((runG Wn L pre).step L (p - f)).ds.length + sumI ((runG Wn L pre).step L (p - f)).ds), ((((runG Wn L pre).step L (p - f)).ds.length : Nat) : Int))]).length c4))
        replace O4 := Lib.hid (own_set (b := w.heap.size + 1) O4.out (by omega) 0 (.slice A4 ((runS Wn L pre).2.1 ++ [((f * ((runG Wn L pre).step L (p - f)).ds.length + sumI ((runG Wn L pre).step L (p - f)).ds), ((((runG Wn L pre).step L (p - f)).ds.length : Nat) : Int))]).length c4))
        replace O2 := Lib.hid (own_set (b := w.heap.size + 1) O2.out (by omega) 0 (.slice A4 ((runS Wn L pre).2.1 ++ [((f * ((runG Wn L pre).step L (p - f)).ds.length + sumI ((runG Wn L pre).step L (p - f)).ds), ((((runG Wn L pre).step L (p - f)).ds.length : Nat) : Int))]).length c4))
        replace JBW := Lib.hid (Bw.setCell (p := ⟨w.heap.size + 1, 0, none⟩) JBW.out (by simp) (.slice A4 ((runS Wn L pre).2.1 ++ [((f * ((runG Wn L pre).step L (p - f)).ds.length + sumI ((runG Wn L pre).step L (p - f)).ds), ((((runG Wn L pre).step L (p - f)).ds.length : Nat) : Int))]).length c4))
        replace JS := Lib.hid (show W0.heap.size ≤ (wy.setCell ⟨w.heap.size + 1, 0, none⟩ (.slice A4 ((runS Wn L pre).2.1 ++ [((f * ((runG Wn L pre).step L (p - f)).ds.length + sumI ((runG Wn L pre).step L (p - f)).ds), ((((runG Wn L pre).step L (p - f)).ds.length : Nat) : Int))]).length c4)).heap.size by simpa using JS.out)
        refine hK.out _ _ J9.out (fun hS => ?_)
        clear hK K
        refine wpAnyH_ready (rs := [8]) (by kernel_rfl) (by simp) ?_
        refine AllReadyH.cons rfl (fun K hK => ?_) ?_
        rw [if_pos (by rfl)]
        refine wp_store_row0 53 _ _ rfl rfl w4.heap.size ((runG Wn L pre).step L (p - f)).arr rfl rfl 53 a1 JR.out (by rw [infoRing, h2s]) (by rw [h1s, h2s]) h2o ?_
        replace S0 := Lib.hid (S0.out.trans (Stp.row JR.out (by omega) (by omega) ((runG Wn L pre).step L (p - f)).arr))
        replace J0 := Lib.hid (J0.out.row_other (g' := w4.heap.size) (by have := JN.out; omega) ((runG Wn L pre).step L (p - f)).arr)
        replace J1 := Lib.hid (J1.out.row_other (g' := w4.heap.size) (by have := JN.out; omega) ((runG Wn L pre).step L (p - f)).arr)
        replace J2 := Lib.hid (J2.out.row_other (g' := w4.heap.size) (by have := JN.out; omega) ((runG Wn L pre).step L (p - f)).arr)
        replace J3 := Lib.hid (J3.out.row_other (g' := w4.heap.size) (by have := JN.out; omega) ((runG Wn L pre).step L (p - f)).arr)
        replace J9 := Lib.hid (J9.out.row_other (g' := w4.heap.size) (by have := JN.out; omega) ((runG Wn L pre).step L (p - f)).arr)
        replace JR := Lib.hid (JR.out.row ((runG Wn L pre).step L (p - f)).arr)
        replace O4 := Lib.hid (own_row (b := w4.heap.size) O4.out (by omega) ((runG Wn L pre).step L (p - f)).arr)
        replace O2 := Lib.hid (own_row (b := w4.heap.size) O2.out (by omega) ((runG Wn L pre).step L (p - f)).arr)
        replace JBW := Lib.hid (Bw.setRow (g := w4.heap.size) JBW.out (by omega) ((runG Wn L pre).step L (p - f)).arr)
        replace JS := Lib.hid (show W0.heap.size ≤ (World.setRow _ w4.heap.size ((runG Wn L pre).step L (p - f)).arr).heap.size by simpa using JS.out)
        refine hK.out _ _ J9.out (fun hS => ?_)
        clear hK K
        refine wpAnyH_done (by kernel_rfl) ?_ _
        rotate_left
        exact AllReadyH.nil
        exact AllReadyH.nil
        exact AllReadyH.nil
        exact AllReadyH.nil
        exact AllReadyH.nil
        refine AllReadyH.cons rfl (fun K hK => ?_) ?_
        go_simp
        go_wp2_with (go_at_call 28; refine (HRa.out _).mono ?_; rintro e wr ⟨rfl, hbr⟩)
        replace J0 := Lib.hid (J0.out.bw hbr); replace J1 := Lib.hid (J1.out.bw hbr); replace J2 := Lib.hid (J2.out.bw hbr); replace J3 := Lib.hid (J3.out.bw hbr); replace JR := Lib.hid (JR.out.bw hbr); replace O1 := Lib.hid (own_bw O1.out hbr); replace O2 := Lib.hid (own_bw O2.out hbr); replace S0 := Lib.hid (S0.out.trans (Stp.bw (by have := JS.out; omega) (by have := JS.out; omega) hbr)); replace JBW := Lib.hid (JBW.out.trans hbr); replace JS := Lib.hid (Nat.le_trans JS.out (hbr).size)
        replace J9 := Lib.hid (J9.out.bw hbr)
        refine hK.out _ _ (hS.bw hbr) (fun hS => ?_)
        clear hK K
        refine wpAnyH_ready (rs := [0, 4]) (by kernel_rfl) (by simp) ?_
        refine AllReadyH.cons rfl (fun K hK => ?_) ?_
        have g1 : World.cell? _ ⟨w.heap.size + 1, 0, none⟩ = some (.slice A1 (runS Wn L pre).2.1.length c1) := J1.out.cell rfl
        go_simp
        clear g1
        refine hK.out _ _ hS (fun hS => ?_)
        clear hK K
        refine wpAnyH_ready (rs := [4]) (by kernel_rfl) (by simp) ?_
        refine AllReadyH.cons rfl (fun K hK => ?_) ?_
        go_simp
        have hbb4 := Bw.alloc (Bw.refl wr) (.cells #[.int .i64 (f * ((runG Wn L pre).step L (p - f)).ds.length + sumI ((runG Wn L pre).step L (p - f)).ds), .int .i64 ((runG Wn L pre).step L (p - f)).ds.length] 36)
        have NB := Lib.hid (Blk.new wr 36 #[.int .i64 (f * ((runG Wn L pre).step L (p - f)).ds.length + sumI ((runG Wn L pre).step L (p - f)).ds), .int .i64 ((runG Wn L pre).step L (p - f)).ds.length])
        replace J0 := Lib.hid (J0.out.bw hbb4); replace J1 := Lib.hid (J1.out.bw hbb4); replace J2 := Lib.hid (J2.out.bw hbb4); replace J3 := Lib.hid (J3.out.bw hbb4); replace JR := Lib.hid (JR.out.bw hbb4); replace O1 := Lib.hid (own_bw O1.out hbb4); replace O2 := Lib.hid (own_bw O2.out hbb4); replace S0 := Lib.hid (S0.out.trans (Stp.bw (by have := JS.out; omega) (by have := JS.out; omega) hbb4)); replace JBW := Lib.hid (JBW.out.trans hbb4); replace JS := Lib.hid (Nat.le_trans JS.out (hbb4).size)
        replace J9 := Lib.hid (J9.out.bw hbb4)
        refine hK.out _ _ (hS.bw hbb4) (fun hS => ?_)
        clear hK K
        refine wpAnyH_ready (rs := [5]) (by kernel_rfl) (by simp) ?_
        refine AllReadyH.cons rfl (fun K hK => ?_) ?_
        rw [if_pos (by rfl)]
        refine wp_append_pair (.tmp 51) (.tmp 55) _ rfl (some 56) rfl W0.heap.size 36 Try.underlying25 infoRat _ (runS Wn L pre).2.1 (f * ((runG Wn L pre).step L (p - f)).ds.length + sumI ((runG Wn L pre).step L (p - f)).ds) ((runG Wn L pre).step L (p - f)).ds.length rfl O1.out _ rfl (NB.out.cell rfl) (NB.out.cell rfl) (by have := HX.out.2.2.2; omega) JS.out ?_
        intro v4 wy hown hgr
        simp only [Act.put, List.setIfInBounds_toArray, List.set_cons_zero, List.set_cons_succ]
        have HO := O1.out
        replace O2 := Lib.hid (own_other O2.out HO (by decide) hgr)
        replace J0 := Lib.hid (J0.out.grown HO hgr (by omega)); replace J1 := Lib.hid (J1.out.grown HO hgr (by omega)); replace J2 := Lib.hid (J2.out.grown HO hgr (by omega)); replace J3 := Lib.hid (J3.out.grown HO hgr (by omega)); replace JR := Lib.hid (JR.out.grown HO hgr (by omega)); replace J9 := Lib.hid (J9.out.grownT HO hgr (by decide)); replace S0 := Lib.hid (S0.out.trans (Stp.grown HO hgr (by omega) (by omega) JS.out)); replace JBW := Lib.hid (Below.grown JBW.out hgr JBW.out.size (fun k e => Nat.le_trans hw0 (HO.lt k e).1)); replace JS := Lib.hid (Nat.le_trans JS.out hgr.size)
        obtain ⟨A4, c4, rfl⟩ := own_form2 hown
        have O4 := Lib.hid hown
        clear hown hgr HO
        refine hK.out _ _ J9.out (fun hS => ?_)
        clear hK K
        refine wpAnyH_ready (rs := [7]) (by kernel_rfl) (by simp) ?_
        refine AllReadyH.cons rfl (fun K hK => ?_) ?_
        rw [if_pos (by rfl)]
        refine wp_store_slice0 25 _ _ rfl rfl (w.heap.size + 1) 0 A4 _ c4 rfl rfl infoSl.1 J1.out (by simp) ?_
        replace S0 := Lib.hid (S0.out.trans (Stp.set J1.out (by omega) (by omega) 0 (.slice A4 ((runS Wn L pre).2.1 ++ [((f * ((runG Wn L pre).step L (p - f)).ds.length + sumI ((runG Wn L pre).step L (p - f)).ds), ((((runG Wn L pre).step L (p - f)).ds.length : Nat) : Int))]).length c4)))
        replace J0 := Lib.hid (J0.out.set_other (b := w.heap.size + 1) (by have := JN.out; omega) 0 (.slice A4 ((runS Wn L pre).2.1 ++ [((f * ((runG Wn L pre).step L (p - f)).ds.length + sumI ((runG Wn L pre).step L (p - f)).ds), ((((runG Wn L pre).step L (p - f)).ds.length : Nat) : Int))]).length c4))
        replace J2 := Lib.hid (J2.out.set_other (b := w.heap.size + 1) (by have := JN.out; omega) 0 (.slice A4 ((runS Wn L pre).2.1 ++ [((f * ((runG Wn L pre).step L (p - f)).ds.length + sumI ((runG Wn L pre).step L (p - f)).ds), ((((runG Wn L pre).step L (p - f)).ds.length : Nat) : Int))]).length c4))
        replace J3 := Lib.hid (J3.out.set_other (b := w.heap.size + 1) (by have := JN.out; omega) 0 (.slice A4 ((runS Wn L pre).2.1 ++ [((f * ((runG Wn L pre).step L (p - f)).ds.length + sumI ((runG Wn L pre).step L (p - f)).ds), ((((runG Wn L pre).step L (p - f)).ds.length : Nat) : Int))]).length c4))
        replace JR := Lib.hid (JR.out.set_other (b := w.heap.size + 1) (by have := JN.out; omega) 0 (.slice A4 ((runS Wn L pre).2.1 ++ [((f * ((runG Wn L pre).step L (p - f)).ds.length + sumI ((runG Wn L pre).step L (p - f)).ds), ((((runG Wn L pre).step L (p - f)).ds.length : Nat) : Int))]).length c4))
        replace J9 := Lib.hid (J9.out.set_other (b := w.heap.size + 1) (by have := JN.out; omega) 0 (.slice A4 ((runS Wn L pre).2.1 ++ [((f * ((runG Wn L pre).step L (p - f)).ds.length + sumI ((runG Wn L pre).step L (p - f)).ds), ((((runG Wn L pre).step L (p - f)).ds.length : Nat) : Int))]).length c4))
        replace J1 := Lib.hid (J1.out.set 0 (.slice A4 ((runS Wn L pre).2.1 ++ [((f * ((runG Wn L pre).step L (p - f)).ds.length + sumI ((runG Wn L pre).step L (p - f)).ds), ((((runG Wn L pre).step L (p - f)).ds.length : Nat) : Int))]).length c4))
        replace O4 := Lib.hid (own_set (b := w.heap.size + 1) O4.out (by omega) 0 (.slice A4 ((runS Wn L pre).2.1 ++ [((f * ((runG Wn L pre).step L (p - f)).ds.length + sumI ((runG Wn L pre).step L (p - f)).ds), ((((runG Wn L pre).step L (p - f)).ds.length : Nat) : Int))]).length c4))
        replace O2 := Lib.hid (own_set (b := w.heap.size + 1) O2.out (by omega) 0 (.slice A4 ((runS Wn L pre).2.1 ++ [((f * ((runG Wn L pre).step L (p - f)).ds.length + sumI ((runG Wn L pre).step L (p - f)).ds), ((((runG Wn L pre).step L (p - f)).ds.length : Nat) : Int))]).length c4))
        replace JBW := Lib.hid (Bw.setCell (p := ⟨w.heap.size + 1, 0, none⟩) JBW.out (by simp) (.slice A4 ((runS Wn L pre).2.1 ++ [((f * ((runG Wn L pre).step L (p - f)).ds.length + sumI ((runG Wn L pre).step L (p - f)).ds), ((((runG Wn L pre).step L (p - f)).ds.length : Nat) : Int))]).length c4))
        replace JS := Lib.hid (show W0.heap.size ≤ (wy.setCell ⟨w.heap.size + 1, 0, none⟩ (.slice A4 ((runS Wn L pre).2.1 ++ [((f * ((runG Wn L pre).step L (p - f)).ds.length + sumI ((runG Wn L pre).step L (p - f)).ds), ((((runG Wn L pre).step L (p - f)).ds.length : Nat) : Int))]).length c4)).heap.size by simpa using JS.out)
        refine hK.out _ _ J9.out (fun hS => ?_)
        clear hK K
        refine wpAnyH_ready (rs := [8]) (by kernel_rfl) (by simp) ?_
        refine AllReadyH.cons rfl (fun K hK => ?_) ?_
        rw [if_pos (by rfl)]
        refine wp_store_row0 53 _ _ rfl rfl w4.heap.size ((runG Wn L pre).step L (p - f)).arr rfl rfl 53 a1 JR.out (by rw [infoRing, h2s]) (by rw [h1s, h2s]) h2o ?_
        replace S0 := Lib.hid (S0.out.trans (Stp.row JR.out (by omega) (by omega) ((runG Wn L pre).step L (p - f)).arr))
        replace J0 := Lib.hid (J0.out.row_other (g' := w4.heap.size) (by have := JN.out; omega) ((runG Wn L pre).step L (p - f)).arr)
        replace J1 := Lib.hid (J1.out.row_other (g' := w4.heap.size) (by have := JN.out; omega) ((runG Wn L pre).step L (p - f)).arr)
        replace J2 := Lib.hid (J2.out.row_other (g' := w4.heap.size) (by have := JN.out; omega) ((runG Wn L pre).step L (p - f)).arr)
        replace J3 := Lib.hid (J3.out.row_other (g' := w4.heap.size) (by have := JN.out; omega) ((runG Wn L pre).step L (p - f)).arr)
        replace J9 := Lib.hid (J9.out.row_other (g' := w4.heap.size) (by have := JN.out; omega) ((runG Wn L pre).step L (p - f)).arr)
        replace JR := Lib.hid (JR.out.row ((runG Wn L pre).step L (p - f)).arr)
        replace O4 := Lib.hid (own_row (b := w4.heap.size) O4.out (by omega) ((runG Wn L pre).step L (p - f)).arr)
        replace O2 := Lib.hid (own_row (b := w4.heap.size) O2.out (by omega) ((runG Wn L pre).step L (p - f)).arr)
        replace JBW := Lib.hid (Bw.setRow (g := w4.heap.size) JBW.out (by omega) ((runG Wn L pre).step L (p - f)).arr)
        replace JS := Lib.hid (show W0.heap.size ≤ (World.setRow _ w4.heap.size ((runG Wn L pre).step L (p - f)).arr).heap.size by simpa using JS.out)
        refine hK.out _ _ J9.out (fun hS => ?_)
        clear hK K
        refine wpAnyH_done (by kernel_rfl) ?_ _
        rotate_left
        exact AllReadyH.nil
        exact AllReadyH.nil
        exact AllReadyH.nil
        exact AllReadyH.nil
        refine AllReadyH.cons rfl (fun K hK => ?_) ?_
        go_simp
        have hbb4 := Bw.alloc (Bw.refl wr) (.cells #[.int .i64 (f * ((runG Wn L pre).step L (p - f)).ds.length + sumI ((runG Wn L pre).step L (p - f)).ds), .int .i64 ((runG Wn L pre).step L (p - f)).ds.length] 36)
        have NB := Lib.hid (Blk.new wr 36 #[.int .i64 (f * ((runG Wn L pre).step L (p - f)).ds.length + sumI ((runG Wn L pre).step L (p - f)).ds), .int .i64 ((runG Wn L pre).step L (p - f)).ds.length])
        replace J0 := Lib.hid (J0.out.bw hbb4); replace J1 := Lib.hid (J1.out.bw hbb4); replace J2 := Lib.hid (J2.out.bw hbb4); replace J3 := Lib.hid (J3.out.bw hbb4); replace JR := Lib.hid (JR.out.bw hbb4); replace O1 := Lib.hid (own_bw O1.out hbb4); replace O2 := Lib.hid (own_bw O2.out hbb4); replace S0 := Lib.hid (S0.out.trans (Stp.bw (by have := JS.out; omega) (by have := JS.out; omega) hbb4)); replace JBW := Lib.hid (JBW.out.trans hbb4); replace JS := Lib.hid (Nat.le_trans JS.out (hbb4).size)
        replace J9 := Lib.hid (J9.out.bw hbb4)
        refine hK.out _ _ (hS.bw hbb4) (fun hS => ?_)
        clear hK K
        refine wpAnyH_ready (rs := [0]) (by kernel_rfl) (by simp) ?_
        refine AllReadyH.cons rfl (fun K hK => ?_) ?_
        have g1 : World.cell? _ ⟨w.heap.size + 1, 0, none⟩ = some (.slice A1 (runS Wn L pre).2.1.length c1) := J1.out.cell rfl
        go_simp
        clear g1
        refine hK.out _ _ hS (fun hS => ?_)
        clear hK K
        refine wpAnyH_ready (rs := [5]) (by kernel_rfl) (by simp) ?_
        refine AllReadyH.cons rfl (fun K hK => ?_) ?_
        rw [if_pos (by rfl)]
        refine wp_append_pair (.tmp 51) (.tmp 55) _ rfl (some 56) rfl W0.heap.size 36 Try.underlying25 infoRat _ (runS Wn L pre).2.1 (f * ((runG Wn L pre).step L (p - f)).ds.length + sumI ((runG Wn L pre).step L (p - f)).ds) ((runG Wn L pre).step L (p - f)).ds.length rfl O1.out _ rfl (NB.out.cell rfl) (NB.out.cell rfl) (by have := HX.out.2.2.2; omega) JS.out ?_
        intro v4 wy hown hgr
        simp only [Act.put, List.setIfInBounds_toArray, List.set_cons_zero, List.set_cons_succ]
        have HO := O1.out
        replace O2 := Lib.hid (own_other O2.out HO (by decide) hgr)
        replace J0 := Lib.hid (J0.out.grown HO hgr (by omega)); replace J1 := Lib.hid (J1.out.grown HO hgr (by omega)); replace J2 := Lib.hid (J2.out.grown HO hgr (by omega)); replace J3 := Lib.hid (J3.out.grown HO hgr (by omega)); replace JR := Lib.hid (JR.out.grown HO hgr (by omega)); replace J9 := Lib.hid (J9.out.grownT HO hgr (by decide)); replace S0 := Lib.hid (S0.out.trans (Stp.grown HO hgr (by omega) (by omega) JS.out)); replace JBW := Lib.hid (Below.grown JBW.out hgr JBW.out.size (fun k e => Nat.le_trans hw0 (HO.lt k e).1)); replace JS := Lib.hid (Nat.le_trans JS.out hgr.size)
        obtain ⟨A4, c4, rfl⟩ := own_form2 hown
        have O4 := Lib.hid hown
        clear hown hgr HO
        refine hK.out _ _ J9.out (fun hS => ?_)
        clear hK K
        refine wpAnyH_ready (rs := [7]) (by kernel_rfl) (by simp) ?_
        refine AllReadyH.cons rfl (fun K hK => ?_) ?_
        rw [if_pos (by rfl)]
        refine wp_store_slice0 25 _ _ rfl rfl (w.heap.size + 1) 0 A4 _ c4 rfl rfl infoSl.1 J1.out (by simp) ?_
        replace S0 := Lib.hid (S0.out.trans (Stp.set J1.out (by omega) (by omega) 0 (.slice A4 ((runS Wn L pre).2.1 ++ [((f * ((runG Wn L pre).step L (p - f)).ds.length + sumI ((runG Wn L pre).step L (p - f)).ds), ((((runG Wn L pre).step L (p - f)).ds.length : Nat) : Int))]).length c4)))
        replace J0 := Lib.hid (J0.out.set_other (b := w.heap.size + 1) (by have := JN.out; omega) 0 (.slice A4 ((runS Wn L pre).2.1 ++ [((f * ((runG Wn L pre).step L (p - f)).ds.length + sumI ((runG Wn L pre).step L (p - f)).ds), ((((runG Wn L pre).step L (p - f)).ds.length : Nat) : Int))]).length c4))
        replace J2 := Lib.hid (J2.out.set_other (b := w.heap.size + 1) (by have := JN.out; omega) 0 (.slice A4 ((runS Wn L pre).2.1 ++ [((f * ((runG Wn L pre).step L (p - f)).ds.length + sumI ((runG Wn L pre).step L (p - f)).ds), ((((runG Wn L pre).step L (p - f)).ds.length : Nat) : Int))]).length c4))
        replace J3 := Lib.hid (J3.out.set_other (b := w.heap.size + 1) (by have := JN.out; omega) 0 (.slice A4 ((runS Wn L pre).2.1 ++ [((f * ((runG Wn L pre).step L (p - f)).ds.length + sumI ((runG Wn L pre).step L (p - f)).ds), ((((runG Wn L pre).step L (p - f)).ds.length : Nat) : Int))]).length c4))
        replace JR := Lib.hid (JR.out.set_other (b := w.heap.size + 1) (by have := JN.out; omega) 0 (.slice A4 ((runS Wn L pre).2.1 ++ [((f * ((runG Wn L pre).step L (p - f)).ds.length + sumI ((runG Wn L pre).step L (p - f)).ds), ((((runG Wn L pre).step L (p - f)).ds.length : Nat) : Int))]).length c4))
        replace J9 := Lib.hid (J9.out.set_other (b := w.heap.size + 1) (by have := JN.out; omega) 0 (.slice A4 ((runS Wn L pre).2.1 ++ [((f * ((runG Wn L pre).step L (p - f)).ds.length + sumI ((runG Wn L pre).step L (p - f)).ds), ((((runG Wn L pre).step L (p - f)).ds.length : Nat) : Int))]).length c4))
        replace J1 := Lib.hid (J1.out.set 0 (.slice A4 ((runS Wn L pre).2.1 ++ [((f * ((runG Wn L pre).step L (p - f)).ds.length + sumI ((runG Wn L pre).step L (p - f)).ds), ((((runG Wn L pre).step L (p - f)).ds.length : Nat) : Int))]).length c4))
        replace O4 := Lib.hid (own_set (b := w.heap.size + 1) O4.out (by omega) 0 (.slice A4 ((runS Wn L pre).2.1 ++ [((f * ((runG Wn L pre).step L (p - f)).ds.length + sumI ((runG Wn L pre).step L (p - f)).ds), ((((runG Wn L pre).step L (p - f)).ds.length : Nat) : Int))]).length c4))
        replace O2 := Lib.hid (own_set (b := w.heap.size + 1) O2.out (by omega) 0 (.slice A4 ((runS Wn L pre).2.1 ++ [((f * ((runG Wn L pre).step L (p - f)).ds.length + sumI ((runG Wn L pre).step L (p - f)).ds), ((((runG Wn L pre).step L (p - f)).ds.length : Nat) : Int))]).length c4))
        replace JBW := Lib.hid (Bw.setCell (p := ⟨w.heap.size + 1, 0, none⟩) JBW.out (by simp) (.slice A4 ((runS Wn L pre).2.1 ++ [((f * ((runG Wn L pre).step L (p - f)).ds.length + sumI ((runG Wn L pre).step L (p - f)).ds), ((((runG Wn L pre).step L (p - f)).ds.length : Nat) : Int))]).length c4))
        replace JS := Lib.hid (show W0.heap.size ≤ (wy.setCell ⟨w.heap.size + 1, 0, none⟩ (.slice A4 ((runS Wn L pre).2.1 ++ [((f * ((runG Wn L pre).step L (p - f)).ds.length + sumI ((runG Wn L pre).step L (p - f)).ds), ((((runG Wn L pre).step L (p - f)).ds.length : Nat) : Int))]).length c4)).heap.size by simpa using JS.out)
        refine hK.out _ _ J9.out (fun hS => ?_)
        clear hK K
        refine wpAnyH_ready (rs := [8]) (by kernel_rfl) (by simp) ?_
        refine AllReadyH.cons rfl (fun K hK => ?_) ?_
        rw [if_pos (by rfl)]
        refine wp_store_row0 53 _ _ rfl rfl w4.heap.size ((runG Wn L pre).step L (p - f)).arr rfl rfl 53 a1 JR.out (by rw [infoRing, h2s]) (by rw [h1s, h2s]) h2o ?_
        replace S0 := Lib.hid (S0.out.trans (Stp.row JR.out (by omega) (by omega) ((runG Wn L pre).step L (p - f)).arr))
        replace J0 := Lib.hid (J0.out.row_other (g' := w4.heap.size) (by have := JN.out; omega) ((runG Wn L pre).step L (p - f)).arr)
        replace J1 := Lib.hid (J1.out.row_other (g' := w4.heap.size) (by have := JN.out; omega) ((runG Wn L pre).step L (p - f)).arr)
        replace J2 := Lib.hid (J2.out.row_other (g' := w4.heap.size) (by have := JN.out; omega) ((runG Wn L pre).step L (p - f)).arr)
        replace J3 := Lib.hid (J3.out.row_other (g' := w4.heap.size) (by have := JN.out; omega) ((runG Wn L pre).step L (p - f)).arr)
        replace J9 := Lib.hid (J9.out.row_other (g' := w4.heap.size) (by have := JN.out; omega) ((runG Wn L pre).step L (p - f)).arr)
        replace JR := Lib.hid (JR.out.row ((runG Wn L pre).step L (p - f)).arr)
        replace O4 := Lib.hid (own_row (b := w4.heap.size) O4.out (by omega) ((runG Wn L pre).step L (p - f)).arr)
        replace O2 := Lib.hid (own_row (b := w4.heap.size) O2.out (by omega) ((runG Wn L pre).step L (p - f)).arr)
        replace JBW := Lib.hid (Bw.setRow (g := w4.heap.size) JBW.out (by omega) ((runG Wn L pre).step L (p - f)).arr)
        replace JS := Lib.hid (show W0.heap.size ≤ (World.setRow _ w4.heap.size ((runG Wn L pre).step L (p - f)).arr).heap.size by simpa using JS.out)
        refine hK.out _ _ J9.out (fun hS => ?_)
        clear hK K
        refine wpAnyH_done (by kernel_rfl) ?_ _
        rotate_left
        exact AllReadyH.nil
        exact AllReadyH.nil
        exact AllReadyH.nil
        exact AllReadyH.nil
        exact AllReadyH.nil
        exact AllReadyH.nil
        all_goals
          refine ⟨S0.out.from _, S0.out.kp, ⟨fun m hm9 => ?_, JBW.out, J0.out, ⟨_, J1.out, ?_⟩, ⟨_, J2.out, ?_⟩, J3.out, ?_, by have h9 := JS.out; simp at h9 ⊢; exact h9⟩⟩
          · rcases List.mem_append.1 hm9 with h | h
            · exact OKM.out m h
            · simp at h; subst h; exact hm
          · have e : (runS Wn L (pre ++ [(p, f)])).2.1 = (runS Wn L pre).2.1 ++ [((f * ((runG Wn L pre).step L (p - f)).ds.length + sumI ((runG Wn L pre).step L (p - f)).ds), ((((runG Wn L pre).step L (p - f)).ds.length : Nat) : Int))] := by rw [HX.out.2.1, HX.out.2.2.1]; rfl
            rw [e]; exact O4.out
          · rw [HE.out]; exact O2.out
          · rw [HX.out.1]; exact JR.out
  case done =>
    rintro D W hD hI hK
    obtain ⟨okm, ibw, i0, ⟨v1, i1, o1⟩, ⟨v2, i2, o2⟩, i3, ir, isz⟩ := hI
    have HE := Lib.hid (replR_ok (W := Wn) (L := L) ⟨hW0, hW1, hL0, hL1⟩ hlen okm)
    have hl1 := runS_len Wn L ps
    have hl2 := runS_sl_len Wn L ps
    obtain ⟨hr1, hf1⟩ := own_rdS2 o1 (by omega)
    obtain ⟨hr2, hf2⟩ := own_rd o2 (by omega)
    obtain ⟨A1, c1, rfl⟩ := own_form2 o1
    obtain ⟨A2, c2, rfl⟩ := own_form2 o2
    have g1 : W.cell? ⟨w.heap.size + 1, 0, none⟩ = some (.slice A1 (runS Wn L ps).2.1.length c1) := i1.cell rfl
    have g2 : W.cell? ⟨w.heap.size + 1 + 1, 0, none⟩ = some (.slice A2 (runS Wn L ps).2.2.length c2) := i2.cell rfl
    have g3 : W.cell? ⟨w.heap.size + 1 + 1 + 1, 0, none⟩ = some (.int .i64 0) := i3.cell rfl
    have f1 := i1.frozen 0
    have f2 := i2.frozen 0
    have f3 := i3.frozen 0
    have K1 := Lib.hid i1; have K2 := Lib.hid i2; have K3 := Lib.hid i3; have R1 := Lib.hid hr1; have R2 := Lib.hid hr2; have F1 := Lib.hid hf1; have F2 := Lib.hid hf2; have JB := Lib.hid ibw; have HK := Lib.hid hK
    clear i0 i1 i2 i3 ir o1 o2 hr1 hr2 hf1 hf2 ibw hK okm hl1 hl2 hbb had hdat hbw6 PB B0 B1 B2 B3 BR
    go_wp2
    try go_frame
    go_region
    go_wp2
    have hd := fun X : World => Bw.drew (Bw.refl X)
    have y1 := (((K1.out.set 0 (.slice A1 (runS Wn L ps).2.1.length c1)).set_other (b := w.heap.size + 1 + 1) (by omega) 0 (.slice A2 (runS Wn L ps).2.2.length c2)).set_other (b := w.heap.size + 1 + 1 + 1) (by omega) 0 (.int .i64 0)).bw (hd _)
    have y2 := (((K2.out.set_other (b := w.heap.size + 1) (by omega) 0 (.slice A1 (runS Wn L ps).2.1.length c1)).set 0 (.slice A2 (runS Wn L ps).2.2.length c2)).set_other (b := w.heap.size + 1 + 1 + 1) (by omega) 0 (.int .i64 0)).bw (hd _)
    have y3 := (((K3.out.set_other (b := w.heap.size + 1) (by omega) 0 (.slice A1 (runS Wn L ps).2.1.length c1)).set_other (b := w.heap.size + 1 + 1) (by omega) 0 (.slice A2 (runS Wn L ps).2.2.length c2)).set 0 (.int .i64 0)).bw (hd _)
    have z1 := (((R1.out.set F1.out (b := w.heap.size + 1) (by omega) 0 (.slice A1 (runS Wn L ps).2.1.length c1)).set F1.out (b := w.heap.size + 1 + 1) (by omega) 0 (.slice A2 (runS Wn L ps).2.2.length c2)).set F1.out (b := w.heap.size + 1 + 1 + 1) (by omega) 0 (.int .i64 0)).mono (hd _)
    have z2 := (((R2.out.set F2.out (b := w.heap.size + 1) (by omega) 0 (.slice A1 (runS Wn L ps).2.1.length c1)).set F2.out (b := w.heap.size + 1 + 1) (by omega) 0 (.slice A2 (runS Wn L ps).2.2.length c2)).set F2.out (b := w.heap.size + 1 + 1 + 1) (by omega) 0 (.int .i64 0)).mono (hd _)
    have x1 := (KeepsOthers.setCell W ⟨w.heap.size + 1, 0, none⟩ (.slice A1 (runS Wn L ps).2.1.length c1)).same D _ HK.out rfl
    have x2 := (KeepsOthers.setCell _ ⟨w.heap.size + 1 + 1, 0, none⟩ (.slice A2 (runS Wn L ps).2.2.length c2)).same D _ x1 rfl
    have x3 := (KeepsOthers.setCell _ ⟨w.heap.size + 1 + 1 + 1, 0, none⟩ (.int .i64 0)).same D _ x2 rfl
    have xb := Bw.drew (Bw.setCell (Bw.setCell (Bw.setCell JB.out (p := ⟨w.heap.size + 1, 0, none⟩) (by simp) (.slice A1 (runS Wn L ps).2.1.length c1)) (p := ⟨w.heap.size + 1 + 1, 0, none⟩) (by simp; omega) (.slice A2 (runS Wn L ps).2.2.length c2)) (p := ⟨w.heap.size + 1 + 1 + 1, 0, none⟩) (by simp; omega) (.int .i64 0))
    refine ⟨Marks.one (by omega) x3, fun W' hS => ⟨.tuple #[(.slice A1 (runS Wn L ps).2.1.length c1), (.slice A2 (runS Wn L ps).2.2.length c2), .int .i64 0], ?_, ?_, Bw.shut xb hS⟩⟩
    · have k1 := hS.cell _ _ _ (y1.cell (j := 0) rfl)
      have k2 := hS.cell _ _ _ (y2.cell (j := 0) rfl)
      have k3 := hS.cell _ _ _ (y3.cell (j := 0) rfl)
      simp [results, Try.results10, go_sem, k1, k2, k3]
    · rw [HE.out]
      exact ⟨_, _, rfl, z1.shut hS, z2.shut hS, F1.out.mono hw0, F2.out.mono hw0⟩
  case stop =>
    rintro D c k W hD hk ⟨rfl, ⟨m, hm, hmf⟩, hx⟩ hK
    have HE := Lib.hid (replR_bad (W := Wn) (L := L) ⟨hW0, hW1, hL0, hL1⟩ hlen (List.mem_of_mem_take hm) hmf)
    have HX := Lib.hid hx; clear hx hm hmf
    go_wp2
    refine ⟨Marks.one (by omega) hK, fun W' hS => ⟨.tuple #[.slice none 0 0, .slice none 0 0, .int .i64 2], ?_, ?_, Bw.shut HX.out.bw hS⟩⟩
    · have k1 := hS.cell _ _ _ (HX.out.b1.cell (j := 0) rfl)
      have k2 := hS.cell _ _ _ (HX.out.b2.cell (j := 0) rfl)
      have k3 := hS.cell _ _ _ (HX.out.b3.cell (j := 0) rfl)
      simp [results, Try.results10, go_sem, k1, k2, k3]
    · rw [HE.out]
      exact ⟨_, _, rfl, RdS.nil _, RdI.nil _, Fresh.nil _ _ _, Fresh.nil _ _ _⟩
end Go.Proofs.Sky
