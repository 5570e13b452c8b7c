/-
  lemmas for the theorems of this claim. No conditions beyond those written in the statements.
-/
import Derived.Test.YtdaplhjkccfmgaaK30
import Derived.Test.YtdaplhjkccfmgaaL30
set_option linter.unusedVariables false
set_option linter.unusedSimpArgs false
set_option linter.unnecessarySimpa false
namespace Go.Proofs.Sky
open Go Go.RowKit Go.Shelf
set_option maxHeartbeats 2000000
theorem cells_set32 {w : World} {g1 g2 : Nat} {T1 T2 : TypeId} {x0 x1 x2 y0 y1 : Value} (h1 : Blk w g1 T1 #[x0, x1, x2]) (h2 : Blk w g2 T2 #[y0, y1]) (hn : g1 ≠ g2) (a b c d e : Value) :
    let W := ((((w.setCell ⟨g1, 0, none⟩ a).setCell ⟨g1, 1, none⟩ b).setCell ⟨g1, 2, none⟩ c).setCell ⟨g2, 0, none⟩ d).setCell ⟨g2, 1, none⟩ e
    W.cell? ⟨g1, 0, none⟩ = some a ∧ W.cell? ⟨g1, 1, none⟩ = some b ∧ W.cell? ⟨g1, 2, none⟩ = some c ∧ W.cell? ⟨g2, 0, none⟩ = some d ∧ W.cell? ⟨g2, 1, none⟩ = some e := by
  intro W
  have k1 : Blk W g1 T1 #[a, b, c] := by
    have := ((h1.set 0 a).set 1 b).set 2 c
    exact (this.gr ((Gr.refl g2 _).set (.inl rfl) d) hn).gr ((Gr.refl g2 _).set (.inl rfl) e) hn
  have k2 : Blk W g2 T2 #[d, e] := by
    have := ((h2.gr ((Gr.refl g1 _).set (p := ⟨g1, 0, none⟩) (.inl rfl) a) hn.symm).gr ((Gr.refl g1 _).set (p := ⟨g1, 1, none⟩) (.inl rfl) b) hn.symm).gr ((Gr.refl g1 _).set (p := ⟨g1, 2, none⟩) (.inl rfl) c) hn.symm
    exact (this.set 0 d).set 1 e
  exact ⟨k1.cell rfl, k1.cell rfl, k1.cell rfl, k2.cell rfl, k2.cell rfl⟩
theorem stepP_bad (base : Nat) (er : Int) (w' : World) : StepP base 0 0 [] 0 0 false er (.returned (.tuple #[.agg #[.int .i64 0, .int .i64 0, .slice none 0 0], .agg #[.int .i64 0, .int .i64 0], .bool false, .int .i64 er])) w' :=
  ⟨_, rfl, RdI.nil _, Fresh.nil _ _ _⟩
theorem blks3 (w : World) (a b : Value) (v : Value) : Blk (((w.alloc (.cells #[a, b, v] 34)).alloc (.cells #[.int .i64 0, .int .i64 0, .slice none 0 0] 34)).alloc (.cells #[.int .i64 0, .int .i64 0] 36)) (w.heap.size + 1) 34 #[.int .i64 0, .int .i64 0, .slice none 0 0] ∧
    Blk (((w.alloc (.cells #[a, b, v] 34)).alloc (.cells #[.int .i64 0, .int .i64 0, .slice none 0 0] 34)).alloc (.cells #[.int .i64 0, .int .i64 0] 36)) (w.heap.size + 1 + 1) 36 #[.int .i64 0, .int .i64 0] := by
  constructor
  · have := (Blk.new (w.alloc (.cells #[a, b, v] 34)) 34 #[.int .i64 0, .int .i64 0, .slice none 0 0]).alloc (.cells #[.int .i64 0, .int .i64 0] 36); simpa using this
  · have := Blk.new ((w.alloc (.cells #[a, b, v] 34)).alloc (.cells #[.int .i64 0, .int .i64 0, .slice none 0 0] 34)) 36 #[.int .i64 0, .int .i64 0]; simpa using this
theorem Step_bad (W L : Int) (ds : List Int) (v : Value) (p f : Int) (w : World) (hv : RdI w v ds) (h0 : errC W L ds ≠ 0) :
    Calls Try.prog 14 #[.agg #[.int .i64 W, .int .i64 L, v], .int .i64 p, .int .i64 f] w fun e w' => StepP w.heap.size 0 0 [] 0 0 false (errC W L ds) e w' ∧ Bw w w' := by
  have HV := Lib.hid hv
  obtain ⟨ad, cap, rfl⟩ := hv.form
  have HK := blks3 w (.int .i64 W) (.int .i64 L) (.slice ad ds.length cap)
  have B3 := Lib.hid HK.1
  have B4 := Lib.hid HK.2
  have HBW := Lib.hid (Bw.alloc (Bw.alloc (Bw.alloc (Bw.refl w) (.cells #[.int .i64 W, .int .i64 L, .slice ad ds.length cap] 34)) (.cells #[.int .i64 0, .int .i64 0, .slice none 0 0] 34)) (.cells #[.int .i64 0, .int .i64 0] 36))
  clear hv HK
  have HC := Lib.hid (fun W' hW => Check_any W L ds (.slice ad ds.length cap) W' hW)
  generalize errC W L ds = er at HC h0 ⊢
  have h9 : (er != 0) = true := by simpa using h0
  go_enter Try.func14, Try.ntmps14
  go_wp2_with (first | (go_at_call 19; refine (HC.out _ (HV.out.mono HBW.out)).mono ?_; rintro e w1 ⟨rfl, hb1⟩; replace B3 := Lib.hid (B3.out.bw hb1); replace B4 := Lib.hid (B4.out.bw hb1); replace HBW := Lib.hid (HBW.out.trans hb1); clear hb1) | ((with_reducible refine at_store 34 _ _ ?_); refine wpList_store_row rfl 34 _ _ rfl (w.heap.size + 1) #[.int .i64 0, .int .i64 0, .slice none 0 0] rfl rfl 34 #[.int .i64 0, .int .i64 0, .slice none 0 0] B3.out (by kernel_rfl) rfl (by simp [Value.oneCell']) ?_; replace B4 := Lib.hid (B4.out.row_other (g' := w.heap.size + 1) (by omega) #[.int .i64 0, .int .i64 0, .slice none 0 0]); replace B3 := Lib.hid (B3.out.row #[.int .i64 0, .int .i64 0, .slice none 0 0])) | ((with_reducible refine at_store 36 _ _ ?_); refine wpList_store_row rfl 36 _ _ rfl (w.heap.size + 1 + 1) #[.int .i64 0, .int .i64 0] rfl rfl 36 #[.int .i64 0, .int .i64 0] B4.out (by kernel_rfl) rfl (by simp [Value.oneCell']) ?_; replace B3 := Lib.hid (B3.out.row_other (g' := w.heap.size + 1 + 1) (by omega) #[.int .i64 0, .int .i64 0]); replace B4 := Lib.hid (B4.out.row #[.int .i64 0, .int .i64 0])))
  have d0 := B3.out.cell (j := 0) rfl
  have d1 := B3.out.cell (j := 1) rfl
  have d2 := B3.out.cell (j := 2) rfl
  have d3 := B4.out.cell (j := 0) rfl
  have d4 := B4.out.cell (j := 1) rfl
  refine bodyPost_ret (v := .tuple #[.agg #[.int .i64 0, .int .i64 0, .slice none 0 0], .agg #[.int .i64 0, .int .i64 0], .bool false, .int .i64 er]) ?_ rfl ⟨stepP_bad _ _ _, Bw.setRow (Bw.setRow HBW.out (by omega) _) (by omega) _⟩
  simp [results, Try.results14, go_sem, d0, d1, d2, d3, d4]
theorem Step_out (W L : Int) (ds : List Int) (v : Value) (p f : Int) (w : World) (hv : RdI w v ds) (h0 : errC W L ds = 0) (hm : okM (p, f) = false) :
    Calls Try.prog 14 #[.agg #[.int .i64 W, .int .i64 L, v], .int .i64 p, .int .i64 f] w fun e w' => StepP w.heap.size 0 0 [] 0 0 false 2 e w' ∧ Bw w w' := by
  have HV := Lib.hid hv
  obtain ⟨ad, cap, rfl⟩ := hv.form
  have HK := blks3 w (.int .i64 W) (.int .i64 L) (.slice ad ds.length cap)
  have B3 := Lib.hid HK.1
  have B4 := Lib.hid HK.2
  have HBW := Lib.hid (Bw.alloc (Bw.alloc (Bw.alloc (Bw.refl w) (.cells #[.int .i64 W, .int .i64 L, .slice ad ds.length cap] 34)) (.cells #[.int .i64 0, .int .i64 0, .slice none 0 0] 34)) (.cells #[.int .i64 0, .int .i64 0] 36))
  clear hv HK
  have HC := Lib.hid (fun W' hW => Check_any W L ds (.slice ad ds.length cap) W' hW)
  rw [h0] at HC
  have HRt := Lib.hid (fun W => right_any p f W)
  rw [show (inN p 10000000000000 && inN f 10000000000000) = false from hm] at HRt
  go_enter Try.func14, Try.ntmps14
  go_wp2_with (first | (go_at_call 19; refine (HC.out _ (HV.out.mono HBW.out)).mono ?_; rintro e w1 ⟨rfl, hb1⟩; replace B3 := Lib.hid (B3.out.bw hb1); replace B4 := Lib.hid (B4.out.bw hb1); replace HBW := Lib.hid (HBW.out.trans hb1); clear hb1) | (go_at_call 26; refine (HRt.out _).mono ?_; rintro e w2 ⟨rfl, hb2⟩; replace B3 := Lib.hid (B3.out.bw hb2); replace B4 := Lib.hid (B4.out.bw hb2); replace HBW := Lib.hid (HBW.out.trans hb2); clear hb2) | ((with_reducible refine at_store 34 _ _ ?_); refine wpList_store_row rfl 34 _ _ rfl (w.heap.size + 1) #[.int .i64 0, .int .i64 0, .slice none 0 0] rfl rfl 34 #[.int .i64 0, .int .i64 0, .slice none 0 0] B3.out (by kernel_rfl) rfl (by simp [Value.oneCell']) ?_; replace B4 := Lib.hid (B4.out.row_other (g' := w.heap.size + 1) (by omega) #[.int .i64 0, .int .i64 0, .slice none 0 0]); replace B3 := Lib.hid (B3.out.row #[.int .i64 0, .int .i64 0, .slice none 0 0])) | ((with_reducible refine at_store 36 _ _ ?_); refine wpList_store_row rfl 36 _ _ rfl (w.heap.size + 1 + 1) #[.int .i64 0, .int .i64 0] rfl rfl 36 #[.int .i64 0, .int .i64 0] B4.out (by kernel_rfl) rfl (by simp [Value.oneCell']) ?_; replace B3 := Lib.hid (B3.out.row_other (g' := w.heap.size + 1 + 1) (by omega) #[.int .i64 0, .int .i64 0]); replace B4 := Lib.hid (B4.out.row #[.int .i64 0, .int .i64 0])))
  have d0 := B3.out.cell (j := 0) rfl
  have d1 := B3.out.cell (j := 1) rfl
  have d2 := B3.out.cell (j := 2) rfl
  have d3 := B4.out.cell (j := 0) rfl
  have d4 := B4.out.cell (j := 1) rfl
  refine bodyPost_ret (v := .tuple #[.agg #[.int .i64 0, .int .i64 0, .slice none 0 0], .agg #[.int .i64 0, .int .i64 0], .bool false, .int .i64 2]) ?_ rfl ⟨stepP_bad _ _ _, Bw.setRow (Bw.setRow HBW.out (by omega) _) (by omega) _⟩
  simp [results, Try.results14, go_sem, d0, d1, d2, d3, d4]
def stepR (W L : Int) (ds : List Int) (p f : Int) : Int × Int × List Int × Int × Int × Bool × Int :=
  if errC W L ds = 0 then (if okM (p, f) then (W, L, nextD W L ds (p - f), f * (nextD W L ds (p - f)).length + sumI (nextD W L ds (p - f)), (nextD W L ds (p - f)).length, slipD L ds (p - f), 0) else (0, 0, [], 0, 0, false, 2)) else (0, 0, [], 0, 0, false, errC W L ds)
def StepR (base : Nat) (W L : Int) (ds : List Int) (p f : Int) (e : Ending) (w' : World) : Prop := StepP base (stepR W L ds p f).1 (stepR W L ds p f).2.1 (stepR W L ds p f).2.2.1 (stepR W L ds p f).2.2.2.1 (stepR W L ds p f).2.2.2.2.1 (stepR W L ds p f).2.2.2.2.2.1 (stepR W L ds p f).2.2.2.2.2.2 e w'
theorem stepR_of {base : Nat} {W L : Int} {ds : List Int} {p f : Int} {e : Ending} {w' : World} (r : Int × Int × List Int × Int × Int × Bool × Int) (h : stepR W L ds p f = r) (hp : StepP base r.1 r.2.1 r.2.2.1 r.2.2.2.1 r.2.2.2.2.1 r.2.2.2.2.2.1 r.2.2.2.2.2.2 e w') : StepR base W L ds p f e w' := by
  unfold StepR; rw [h]; exact hp
theorem Step_any (W L : Int) (ds : List Int) (v : Value) (p f : Int) (w : World) (hv : RdI w v ds) :
    Calls Try.prog 14 #[.agg #[.int .i64 W, .int .i64 L, v], .int .i64 p, .int .i64 f] w fun e w' => StepR w.heap.size W L ds p f e w' ∧ Bw w w' := by
  by_cases h0 : errC W L ds = 0
  · cases hm : okM (p, f) with
    | true =>
      have hW := (errC_zero h0).1.1
      obtain ⟨Wn, rfl⟩ := Int.eq_ofNat_of_zero_le (show 0 ≤ W by omega)
      exact (Step_ok Wn L ds v p f w hv h0 hm).mono fun e w' ⟨h, hb⟩ => ⟨stepR_of _ (by unfold stepR; rw [if_pos h0, hm, if_pos rfl]) h, hb⟩
    | false => exact (Step_out W L ds v p f w hv h0 hm).mono fun e w' ⟨h, hb⟩ => ⟨stepR_of _ (by unfold stepR; rw [if_pos h0, hm]; first | done | rfl) h, hb⟩
  · exact (Step_bad W L ds v p f w hv h0).mono fun e w' ⟨h, hb⟩ => ⟨stepR_of _ (by unfold stepR; rw [if_neg h0]) h, hb⟩
end Go.Proofs.Sky
