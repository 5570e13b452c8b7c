/-
  lemmas for the theorems of this claim. No conditions beyond those written in the statements.
-/
import Derived.Test.YtmndialneggbjaaC21
import Derived.Deep.Cut
set_option linter.unusedVariables false
set_option linter.unusedSimpArgs false
set_option linter.unnecessarySimpa false
namespace Go.Proofs.Sky
open Go Go.RowKit Go.Shelf
set_option maxHeartbeats 4000000
theorem errS_zero {ch : List Int} {seen : Int} {la : Int × Int} (h : errS ch seen la = 0) : (1 ≤ ch.length ∧ ch.length ≤ 20) ∧ (0 ≤ seen ∧ seen ≤ 1000000) ∧ insP la = true ∧ ∀ i, ch.getD i 0 ≤ 1000000 ∧ 0 ≤ ch.getD i 0 := by
  unfold errS at h
  split at h
  · simp at h
  · rename_i h1
    have h2 : ¬ (ch.length < 1) ∧ ¬ (20 < ch.length) ∧ ¬ (seen < 0) ∧ ¬ (1000000 < seen) :=
      ⟨fun e => h1 (.inl e), fun e => h1 (.inr (.inl e)), fun e => h1 (.inr (.inr (.inl e))), fun e => h1 (.inr (.inr (.inr (.inl e))))⟩
    have h3 : insP la = true := by
      cases h9 : insP la with
      | true => rfl
      | false => exact absurd (.inr (.inr (.inr (.inr h9)))) h1
    split at h
    · simp at h
    · rename_i h4
      have hok : okLeft seen ch = true := by simpa using h4
      obtain ⟨g1, g2⟩ := (okLeft_iff ch seen (by omega)).1 hok
      refine ⟨⟨by omega, by omega⟩, ⟨by omega, by omega⟩, h3, fun i => ?_⟩
      by_cases hi : i < ch.length
      · have hm : ch.getD i 0 ∈ ch := by rw [List.getD_eq_getElem?_getD, List.getElem?_eq_getElem hi]; exact List.getElem_mem hi
        refine ⟨?_, g1 _ hm⟩
        have hle : ∀ (l : List Int), (∀ m ∈ l, 0 ≤ m) → ∀ m ∈ l, m ≤ sumL l := by
          intro l
          induction l with
          | nil => intro _ m hm; cases hm
          | cons a r ih =>
            intro hl m hm
            have ha := hl a (by simp)
            have hr : 0 ≤ sumL r := by
              clear ih hm
              induction r with
              | nil => simp [sumL]
              | cons b r ih2 => have := hl b (by simp); have := ih2 (fun m hm => hl m (by simp at hm ⊢; rcases hm with h | h; exact .inl h; exact .inr (.inr h))); simp [sumL]; omega
            rcases List.mem_cons.1 hm with rfl | hm
            · simp [sumL]; omega
            · have := ih (fun m hm => hl m (by simp [hm])) m hm; simp [sumL]; omega
        have := hle ch g1 _ hm
        omega
      · rw [List.getD_eq_getElem?_getD, List.getElem?_eq_none (by omega)]; simp
theorem blk_below {w w' : World} {base g : Nat} {T : TypeId} {cs : Array Value} (h : Blk w g T cs) (hb : Below base w w') (hg : g < base) : Blk w' g T cs := by
  unfold Blk at *
  rw [hb.block g hg]; exact h
theorem Feed_bad (ch : List Int) (v : Value) (seen x y : Int) (l : List (Int × Int)) (vl : Value) (w : World) (hv : RdI w v ch) (hl : RdS w vl l) (h0 : errS ch seen (x, y) ≠ 0) :
    Calls Try.prog 18 #[.agg #[v, .int .i64 seen, .int .i64 x, .int .i64 y], vl] w fun e w' => SyP w.heap.size [] 0 (0, 0) (errS ch seen (x, y)) e w' ∧ Bw w w' := by
  have HV := Lib.hid hv
  obtain ⟨ad, cap, rfl⟩ := hv.form
  obtain ⟨al, cl, rfl⟩ := hl.form
  clear hv hl
  have HC := Lib.hid (fun W hW => Check_any ch (.slice ad ch.length cap) seen x y W hW)
  generalize errS ch seen (x, y) = er at HC h0 ⊢
  have hne : (er != 0) = true := by simpa using h0
  obtain ⟨n, hn⟩ : ∃ n, n = ch.length := ⟨_, rfl⟩
  rw [← hn] at HC HV ⊢
  clear hn
  have HBW := Lib.hid (Bw.alloc (Bw.alloc (Bw.refl w) (.cells #[.slice ad n cap, .int .i64 seen, .int .i64 x, .int .i64 y] 36)) (.cells #[.slice none 0 0, .int .i64 0, .int .i64 0, .int .i64 0] 36))
  have KX := Lib.hid ((Blk.new w 36 #[.slice ad n cap, .int .i64 seen, .int .i64 x, .int .i64 y]).alloc (.cells #[.slice none 0 0, .int .i64 0, .int .i64 0, .int .i64 0] 36))
  have ZX : Hid (Blk ((w.alloc (.cells #[.slice ad n cap, .int .i64 seen, .int .i64 x, .int .i64 y] 36)).alloc (.cells #[.slice none 0 0, .int .i64 0, .int .i64 0, .int .i64 0] 36)) (w.heap.size + 1) 36 #[.slice none 0 0, .int .i64 0, .int .i64 0, .int .i64 0]) := Lib.hid (by have h9 := Blk.new (w.alloc (.cells #[.slice ad n cap, .int .i64 seen, .int .i64 x, .int .i64 y] 36)) 36 #[.slice none 0 0, .int .i64 0, .int .i64 0, .int .i64 0]; simpa using h9)
  go_enter Try.func18, Try.ntmps18
  go_wp2_with (first | (go_at_call 26; (with_reducible refine Calls.mono (HC.out _ (HV.out.mono HBW.out)) ?_); rintro e1 w1 ⟨rfl, hb1⟩; replace HBW := Lib.hid (HBW.out.trans hb1); replace KX := Lib.hid (KX.out.bw hb1); replace ZX := Lib.hid (ZX.out.bw hb1); have HWL := Lib.hid ZX.out.lt; clear hb1; have k0 : w1.cell? ⟨w.heap.size, 0, none⟩ = some (.slice ad n cap) := KX.out.cell rfl; have k1 : w1.cell? ⟨w.heap.size, 1, none⟩ = some (.int .i64 seen) := KX.out.cell rfl; have k2 : w1.cell? ⟨w.heap.size, 2, none⟩ = some (.int .i64 x) := KX.out.cell rfl; have k3 : w1.cell? ⟨w.heap.size, 3, none⟩ = some (.int .i64 y) := KX.out.cell rfl; have z0 : w1.cell? ⟨w.heap.size + 1, 0, none⟩ = some (.slice none 0 0) := ZX.out.cell rfl; have z1 : w1.cell? ⟨w.heap.size + 1, 1, none⟩ = some (.int .i64 0) := ZX.out.cell rfl; have z2 : w1.cell? ⟨w.heap.size + 1, 2, none⟩ = some (.int .i64 0) := ZX.out.cell rfl; have z3 : w1.cell? ⟨w.heap.size + 1, 3, none⟩ = some (.int .i64 0) := ZX.out.cell rfl; have q0 := ZX.out.frozen 0; have q1 := ZX.out.frozen 1; have q2 := ZX.out.frozen 2; have q3 := ZX.out.frozen 3))
  have B9 := (((ZX.out.set 0 (.slice none 0 0)).set 1 (.int .i64 0)).set 2 (.int .i64 0)).set 3 (.int .i64 0)
  have m0 := B9.cell (j := 0) rfl
  have m1 := B9.cell (j := 1) rfl
  have m2 := B9.cell (j := 2) rfl
  have m3 := B9.cell (j := 3) rfl
  refine bodyPost_ret (v := .tuple #[.agg #[.slice none 0 0, .int .i64 0, .int .i64 0, .int .i64 0], .int .i64 er]) ?_ rfl ⟨⟨_, rfl, RdI.nil _, Fresh.nil _ _ _⟩, Bw.setCell (Bw.setCell (Bw.setCell (Bw.setCell HBW.out (p := ⟨w.heap.size + 1, 0, none⟩) (by simp) _) (p := ⟨w.heap.size + 1, 1, none⟩) (by simp) _) (p := ⟨w.heap.size + 1, 2, none⟩) (by simp) _) (p := ⟨w.heap.size + 1, 3, none⟩) (by simp) _⟩
  simp [results, Try.results18, go_sem, m0, m1, m2, m3]
theorem Feed_long (ch : List Int) (v : Value) (seen x y : Int) (l : List (Int × Int)) (vl : Value) (w : World) (hv : RdI w v ch) (hl : RdS w vl l) (h0 : errS ch seen (x, y) = 0) (hlen : 10000 < l.length) :
    Calls Try.prog 18 #[.agg #[v, .int .i64 seen, .int .i64 x, .int .i64 y], vl] w fun e w' => SyP w.heap.size [] 0 (0, 0) 4 e w' ∧ Bw w w' := by
  have HV := Lib.hid hv
  obtain ⟨ad, cap, rfl⟩ := hv.form
  obtain ⟨al, cl, rfl⟩ := hl.form
  clear hv hl
  have HC := Lib.hid (fun W hW => Check_any ch (.slice ad ch.length cap) seen x y W hW)
  rw [h0] at HC
  clear h0
  obtain ⟨n, hn⟩ : ∃ n, n = ch.length := ⟨_, rfl⟩
  rw [← hn] at HC HV ⊢
  have HN := Lib.hid hn
  clear hn
  have HBW := Lib.hid (Bw.alloc (Bw.alloc (Bw.refl w) (.cells #[.slice ad n cap, .int .i64 seen, .int .i64 x, .int .i64 y] 36)) (.cells #[.slice none 0 0, .int .i64 0, .int .i64 0, .int .i64 0] 36))
  have KX := Lib.hid ((Blk.new w 36 #[.slice ad n cap, .int .i64 seen, .int .i64 x, .int .i64 y]).alloc (.cells #[.slice none 0 0, .int .i64 0, .int .i64 0, .int .i64 0] 36))
  have ZX : Hid (Blk ((w.alloc (.cells #[.slice ad n cap, .int .i64 seen, .int .i64 x, .int .i64 y] 36)).alloc (.cells #[.slice none 0 0, .int .i64 0, .int .i64 0, .int .i64 0] 36)) (w.heap.size + 1) 36 #[.slice none 0 0, .int .i64 0, .int .i64 0, .int .i64 0]) := Lib.hid (by have h9 := Blk.new (w.alloc (.cells #[.slice ad n cap, .int .i64 seen, .int .i64 x, .int .i64 y] 36)) 36 #[.slice none 0 0, .int .i64 0, .int .i64 0, .int .i64 0]; simpa using h9)
  have hli : (10000 : Int) < l.length := by omega
  go_enter Try.func18, Try.ntmps18
  go_wp2_with (first | (go_at_call 26; (with_reducible refine Calls.mono (HC.out _ (HV.out.mono HBW.out)) ?_); rintro e1 w1 ⟨rfl, hb1⟩; replace HBW := Lib.hid (HBW.out.trans hb1); replace KX := Lib.hid (KX.out.bw hb1); replace ZX := Lib.hid (ZX.out.bw hb1); have HWL := Lib.hid ZX.out.lt; clear hb1; have k0 : w1.cell? ⟨w.heap.size, 0, none⟩ = some (.slice ad n cap) := KX.out.cell rfl; have k1 : w1.cell? ⟨w.heap.size, 1, none⟩ = some (.int .i64 seen) := KX.out.cell rfl; have k2 : w1.cell? ⟨w.heap.size, 2, none⟩ = some (.int .i64 x) := KX.out.cell rfl; have k3 : w1.cell? ⟨w.heap.size, 3, none⟩ = some (.int .i64 y) := KX.out.cell rfl; have z0 : w1.cell? ⟨w.heap.size + 1, 0, none⟩ = some (.slice none 0 0) := ZX.out.cell rfl; have z1 : w1.cell? ⟨w.heap.size + 1, 1, none⟩ = some (.int .i64 0) := ZX.out.cell rfl; have z2 : w1.cell? ⟨w.heap.size + 1, 2, none⟩ = some (.int .i64 0) := ZX.out.cell rfl; have z3 : w1.cell? ⟨w.heap.size + 1, 3, none⟩ = some (.int .i64 0) := ZX.out.cell rfl; have q0 := ZX.out.frozen 0; have q1 := ZX.out.frozen 1; have q2 := ZX.out.frozen 2; have q3 := ZX.out.frozen 3))
  have B9 := (((ZX.out.set 0 (.slice none 0 0)).set 1 (.int .i64 0)).set 2 (.int .i64 0)).set 3 (.int .i64 0)
  have m0 := B9.cell (j := 0) rfl
  have m1 := B9.cell (j := 1) rfl
  have m2 := B9.cell (j := 2) rfl
  have m3 := B9.cell (j := 3) rfl
  refine bodyPost_ret (v := .tuple #[.agg #[.slice none 0 0, .int .i64 0, .int .i64 0, .int .i64 0], .int .i64 4]) ?_ rfl ⟨⟨_, rfl, RdI.nil _, Fresh.nil _ _ _⟩, Bw.setCell (Bw.setCell (Bw.setCell (Bw.setCell HBW.out (p := ⟨w.heap.size + 1, 0, none⟩) (by simp) _) (p := ⟨w.heap.size + 1, 1, none⟩) (by simp) _) (p := ⟨w.heap.size + 1, 2, none⟩) (by simp) _) (p := ⟨w.heap.size + 1, 3, none⟩) (by simp) _⟩
  simp [results, Try.results18, go_sem, m0, m1, m2, m3]
theorem Feed_main (ch : List Int) (v : Value) (seen x y : Int) (l : List (Int × Int)) (vl : Value) (w : World) (hv : RdI w v ch) (hl : RdS w vl l) (h0 : errS ch seen (x, y) = 0) (hlen : l.length ≤ 10000) :
    Calls Try.prog 18 #[.agg #[v, .int .i64 seen, .int .i64 x, .int .i64 y], vl] w fun e w' => SyP w.heap.size (feedL ch seen (x, y) l).1.1 (feedL ch seen (x, y) l).1.2.1 (feedL ch seen (x, y) l).1.2.2 (feedL ch seen (x, y) l).2 e w' ∧ Bw w w' := by
  have HZ0 := Lib.hid h0
  have HLL := Lib.hid hl
  have HV := Lib.hid hv
  obtain ⟨ad, cap, rfl⟩ := hv.form
  obtain ⟨al, cl, rfl⟩ := hl.form
  clear hv hl
  have HC := Lib.hid (fun W hW => Check_any ch (.slice ad ch.length cap) seen x y W hW)
  rw [h0] at HC
  clear h0
  obtain ⟨n, hn⟩ : ∃ n, n = ch.length := ⟨_, rfl⟩
  rw [← hn] at HC HV ⊢
  have HN := Lib.hid hn
  clear hn
  have HBW := Lib.hid (Bw.alloc (Bw.alloc (Bw.refl w) (.cells #[.slice ad n cap, .int .i64 seen, .int .i64 x, .int .i64 y] 36)) (.cells #[.slice none 0 0, .int .i64 0, .int .i64 0, .int .i64 0] 36))
  have KX := Lib.hid ((Blk.new w 36 #[.slice ad n cap, .int .i64 seen, .int .i64 x, .int .i64 y]).alloc (.cells #[.slice none 0 0, .int .i64 0, .int .i64 0, .int .i64 0] 36))
  have ZX : Hid (Blk ((w.alloc (.cells #[.slice ad n cap, .int .i64 seen, .int .i64 x, .int .i64 y] 36)).alloc (.cells #[.slice none 0 0, .int .i64 0, .int .i64 0, .int .i64 0] 36)) (w.heap.size + 1) 36 #[.slice none 0 0, .int .i64 0, .int .i64 0, .int .i64 0]) := Lib.hid (by have h9 := Blk.new (w.alloc (.cells #[.slice ad n cap, .int .i64 seen, .int .i64 x, .int .i64 y] 36)) 36 #[.slice none 0 0, .int .i64 0, .int .i64 0, .int .i64 0]; simpa using h9)
  have HE0 := HZ0
  obtain ⟨⟨c1, c2⟩, ⟨c3, c4⟩, _⟩ := errS_zero HZ0.out
  obtain ⟨m, hm⟩ : ∃ m, m = l.length := ⟨_, rfl⟩
  rw [← hm] at HLL hlen ⊢
  have HM := Lib.hid hm
  clear hm
  have hli : ¬ (10000 : Int) < m := by omega
  have HO := Lib.hid (fun W hW => own_any ch (.slice ad n cap) seen x y W hW c1 (by omega))
  unfold OwnP at HO
  have HNL := Lib.hid (show ch.length = n from HN.out.symm)
  obtain ⟨FF, hFF⟩ : ∃ FF, FF = feedL ch seen (x, y) l := ⟨_, rfl⟩
  rw [← hFF]
  have HF := Lib.hid hFF
  clear hFF
  obtain ⟨S, rfl⟩ := Int.eq_ofNat_of_zero_le c3
  clear c1 c2 c3 c4
  go_enter Try.func18, Try.ntmps18
  go_wp2_with (first | (go_at_call 26; (with_reducible refine Calls.mono (HC.out _ (HV.out.mono HBW.out)) ?_); rintro e1 w1 ⟨rfl, hb1⟩; replace HBW := Lib.hid (HBW.out.trans hb1); replace KX := Lib.hid (KX.out.bw hb1); replace ZX := Lib.hid (ZX.out.bw hb1); have HWL := Lib.hid ZX.out.lt; clear hb1; have k0 : w1.cell? ⟨w.heap.size, 0, none⟩ = some (.slice ad n cap) := KX.out.cell rfl; have k1 : w1.cell? ⟨w.heap.size, 1, none⟩ = some (.int .i64 S) := KX.out.cell rfl; have k2 : w1.cell? ⟨w.heap.size, 2, none⟩ = some (.int .i64 x) := KX.out.cell rfl; have k3 : w1.cell? ⟨w.heap.size, 3, none⟩ = some (.int .i64 y) := KX.out.cell rfl; have z0 : w1.cell? ⟨w.heap.size + 1, 0, none⟩ = some (.slice none 0 0) := ZX.out.cell rfl; have z1 : w1.cell? ⟨w.heap.size + 1, 1, none⟩ = some (.int .i64 0) := ZX.out.cell rfl; have z2 : w1.cell? ⟨w.heap.size + 1, 2, none⟩ = some (.int .i64 0) := ZX.out.cell rfl; have z3 : w1.cell? ⟨w.heap.size + 1, 3, none⟩ = some (.int .i64 0) := ZX.out.cell rfl; have q0 := ZX.out.frozen 0; have q1 := ZX.out.frozen 1; have q2 := ZX.out.frozen 2; have q3 := ZX.out.frozen 3) | (go_at_call 38; (with_reducible refine Calls.mono (HO.out _ (HV.out.mono HBW.out)) ?_); rintro e1 w2 ⟨⟨v2, rfl, ⟨b, c, rfl, hO⟩⟩, hb1⟩; replace HBW := Lib.hid (HBW.out.trans hb1); replace ZX := Lib.hid (ZX.out.bw hb1); have OR := Lib.hid hO; have HBW1 := Lib.hid hb1.size; clear hb1 hO k0 k1 k2 k3 z0 z1 z2 z3 q0 q1 q2 q3))
  obtain ⟨g0, hg0⟩ : ∃ g0, w2.heap.size = g0 := ⟨_, rfl⟩
  have GX := Blk.new w2 60 #[.slice (some ⟨b, 0, none⟩) ch.length c, .int .i64 S, .int .i64 x, .int .i64 y]
  rw [hg0] at GX ⊢
  have HG0 := Lib.hid hg0
  clear hg0
  have hba := Bw.alloc (Bw.refl w2) (.cells #[.slice (some ⟨b, 0, none⟩) ch.length c, .int .i64 S, .int .i64 x, .int .i64 y] 60)
  replace OR := Lib.hid (own_bw (own_down OR.out (show w.heap.size + 2 ≤ w1.heap.size by have := HWL.out; omega)) hba)
  replace ZX := Lib.hid (ZX.out.bw hba)
  replace HBW := Lib.hid (HBW.out.trans hba)
  clear hba
  rw [HNL.out] at OR GX HBW ZX ⊢
  have HGB := Lib.hid (show w.heap.size + 2 ≤ g0 by have := ZX.out.lt; have := HG0.out; have := HWL.out; have := HBW1.out; omega)
  generalize w2.alloc _ = w3 at OR GX ZX HBW ⊢
  replace GX := Lib.hid GX
  go_loopg [25] 10000 (fun gg s25 wr => ∃ k : Nat, k ≤ m ∧ m - k ≤ gg ∧ s25 = .int .i64 k ∧ ∃ (ch' : List Int) (S' : Nat) (x' y' : Int), Hid (Blk wr g0 60 #[.slice (some ⟨b, 0, none⟩) n c, .int .i64 S', .int .i64 x', .int .i64 y']) ∧ Hid (wr.ownsRow (w.heap.size + 2) 3 1 (.slice (some ⟨b, 0, none⟩) n c) n (ch'.map (Value.int .i64))) ∧ Hid (errS ch' S' (x', y') = 0) ∧ Hid (ch'.length = n) ∧ Hid (Bw w wr) ∧ Hid (Blk wr (w.heap.size + 1) 36 #[.slice none 0 0, .int .i64 0, .int .i64 0, .int .i64 0]) ∧ Hid (FF = feedL ch' S' (x', y') (l.drop k)))
  case atStart => exact ⟨0, Nat.zero_le _, by omega, rfl, ch, S, x, y, GX, OR, HZ0, HNL, HBW, ZX, Lib.hid (by rw [List.drop_zero]; exact HF.out)⟩
  case round =>
    obtain ⟨k, hk, hgg, rfl, ch', S', x', y', GX, OR, HE, HL, HW, ZX, HFF⟩ := hrel
    clear HBW
    by_cases hlt : k < m
    · have hkz : (k : Int) < m := by omega
      obtain ⟨b1, o1, cc, hv1, hb1, hd1⟩ := HLL.out.at (by have := HM.out; omega)
      injection hv1 with i1 i2 i3; subst i1; clear i2 i3
      have hd1 := hd1 k (by have := HM.out; omega)
      have y1 := HW.out.cell' hd1.1
      have y2 := HW.out.cell' hd1.2
      clear hd1 hb1
      have HD := Lib.hid (show l.drop k = l.getD k (0, 0) :: l.drop (k + 1) by
        have hkl : k < l.length := by have := HM.out; omega
        rw [List.getD_eq_getElem?_getD, List.getElem?_eq_getElem hkl]; exact List.drop_eq_getElem_cons hkl)
      generalize l.getD k (0, 0) = a at y1 y2 HD
      obtain ⟨a1, a2⟩ := a
      simp only at y1 y2
      have hz9 := errS_zero HE.out
      have ADD := Lib.hid (fun W h1 h2 => add_any (w.heap.size + 2) g0 b c ch' S' x' y' a1 a2 W h1 h2 HGB.out hz9.1.1 hz9.1.2 (by have := hz9.2.1; omega) hz9.2.2.1 hz9.2.2.2)
      rw [HL.out] at ADD
      unfold AddP at ADD
      clear hz9
      by_cases ha : addE S' (a1, a2) = 0
      · have HFN := Lib.hid (show FF = feedL (chN ch' S' (x', y') (a1, a2)) ((S' + 1 : Nat) : Int) (a1, a2) (l.drop (k + 1)) by
          rw [HFF.out, HD.out, feedL, if_pos ha]; simp)
        have HEN := Lib.hid (errS_step HE.out ha)
        have HLN := Lib.hid ((chN_len ch' S' (x', y') (a1, a2)).trans HL.out)
        rw [ha] at ADD
        clear ha
        go_wp2_with (go_at_call 39; (with_reducible refine Calls.mono (ADD.out _ ?_ ?_) ?_); (focus exact GX.out.bw (Bw.alloc (Bw.refl _) _)); (focus exact own_bw OR.out (Bw.alloc (Bw.refl _) _)); rintro e1 w5 ⟨rfl, hbl, hP⟩; replace HW := Lib.hid (Below.trans (HW.out.trans (Bw.alloc (Bw.refl wr) (.cells #[.int .i64 a1, .int .i64 a2] 34))) (Below.mono hbl (Nat.le_add_right _ _))); replace ZX := Lib.hid (blk_below (ZX.out.alloc (.cells #[.int .i64 a1, .int .i64 a2] 34)) hbl (by omega)); clear hbl)
        go_roundg (m - (k + 1))
        case measure => omega
        case rel => exact ⟨k + 1, by omega, by omega, by go_num, _, S' + 1, a1, a2, Lib.hid (by have h9 := (hP trivial).1; rw [HL.out] at h9; simpa using h9), Lib.hid (by have h9 := (hP trivial).2; rw [HL.out] at h9; exact h9), Lib.hid (by simpa using HEN.out), HLN, HW, ZX, HFN⟩
      · have HFN := Lib.hid (show FF = (([], 0, (0, 0)), addE S' (a1, a2)) by rw [HFF.out, HD.out, feedL, if_neg ha])
        generalize addE S' (a1, a2) = er at ADD HFN ha
        have hne : (er != 0) = true := by simpa using ha
        go_wp2_with (go_at_call 39; (with_reducible refine Calls.mono (ADD.out _ ?_ ?_) ?_); (focus exact GX.out.bw (Bw.alloc (Bw.refl _) _)); (focus exact own_bw OR.out (Bw.alloc (Bw.refl _) _)); rintro e1 w5 ⟨rfl, hbl, hP⟩; replace HW := Lib.hid (Below.trans (HW.out.trans (Bw.alloc (Bw.refl wr) (.cells #[.int .i64 a1, .int .i64 a2] 34))) (Below.mono hbl (Nat.le_add_right _ _))); replace ZX := Lib.hid (blk_below (ZX.out.alloc (.cells #[.int .i64 a1, .int .i64 a2] 34)) hbl (by omega)); clear hbl; have z0 : w5.cell? ⟨w.heap.size + 1, 0, none⟩ = some (.slice none 0 0) := ZX.out.cell rfl; have z1 : w5.cell? ⟨w.heap.size + 1, 1, none⟩ = some (.int .i64 0) := ZX.out.cell rfl; have z2 : w5.cell? ⟨w.heap.size + 1, 2, none⟩ = some (.int .i64 0) := ZX.out.cell rfl; have z3 : w5.cell? ⟨w.heap.size + 1, 3, none⟩ = some (.int .i64 0) := ZX.out.cell rfl; have q0 := ZX.out.frozen 0; have q1 := ZX.out.frozen 1; have q2 := ZX.out.frozen 2; have q3 := ZX.out.frozen 3)
        rw [HFN.out]
        have B9 := (((ZX.out.set 0 (.slice none 0 0)).set 1 (.int .i64 0)).set 2 (.int .i64 0)).set 3 (.int .i64 0)
        have m0 := B9.cell (j := 0) rfl
        have m1 := B9.cell (j := 1) rfl
        have m2 := B9.cell (j := 2) rfl
        have m3 := B9.cell (j := 3) rfl
        refine bodyPost_ret (v := .tuple #[.agg #[.slice none 0 0, .int .i64 0, .int .i64 0, .int .i64 0], .int .i64 er]) ?_ rfl ⟨⟨_, rfl, RdI.nil _, Fresh.nil _ _ _⟩, Bw.setCell (Bw.setCell (Bw.setCell (Bw.setCell HW.out (p := ⟨w.heap.size + 1, 0, none⟩) (by simp) _) (p := ⟨w.heap.size + 1, 1, none⟩) (by simp) _) (p := ⟨w.heap.size + 1, 2, none⟩) (by simp) _) (p := ⟨w.heap.size + 1, 3, none⟩) (by simp) _⟩
        simp [results, Try.results18, go_sem, m0, m1, m2, m3]
    · obtain rfl : m = k := by omega
      have hkz : ¬ (m : Int) < m := by omega
      have HFF2 := Lib.hid (show FF = ((ch', (S' : Int), (x', y')), 0) by rw [HFF.out, List.drop_eq_nil_of_le (by have := HM.out; omega)]; rfl)
      clear HFF
      have j0 : wr.cell? ⟨g0, 0, none⟩ = some (.slice (some ⟨b, 0, none⟩) n c) := GX.out.cell rfl
      have j1 : wr.cell? ⟨g0, 1, none⟩ = some (.int .i64 S') := GX.out.cell rfl
      have j2 : wr.cell? ⟨g0, 2, none⟩ = some (.int .i64 x') := GX.out.cell rfl
      have j3 : wr.cell? ⟨g0, 3, none⟩ = some (.int .i64 y') := GX.out.cell rfl
      have z0 : wr.cell? ⟨w.heap.size + 1, 0, none⟩ = some (.slice none 0 0) := ZX.out.cell rfl; have z1 : wr.cell? ⟨w.heap.size + 1, 1, none⟩ = some (.int .i64 0) := ZX.out.cell rfl; have z2 : wr.cell? ⟨w.heap.size + 1, 2, none⟩ = some (.int .i64 0) := ZX.out.cell rfl; have z3 : wr.cell? ⟨w.heap.size + 1, 3, none⟩ = some (.int .i64 0) := ZX.out.cell rfl
      have q0 := ZX.out.frozen 0; have q1 := ZX.out.frozen 1; have q2 := ZX.out.frozen 2; have q3 := ZX.out.frozen 3
      go_wp2
      rw [HFF2.out]
      have B9 := (((ZX.out.set 0 (.slice (some ⟨b, 0, none⟩) n c)).set 1 (.int .i64 S')).set 2 (.int .i64 x')).set 3 (.int .i64 y')
      have m0 := B9.cell (j := 0) rfl
      have m1 := B9.cell (j := 1) rfl
      have m2 := B9.cell (j := 2) rfl
      have m3 := B9.cell (j := 3) rfl
      have o9 := ownsRow_setCell_below (ownsRow_setCell_below (ownsRow_setCell_below (ownsRow_setCell_below OR.out (a := ⟨w.heap.size + 1, 0, none⟩) (by simp) (.slice (some ⟨b, 0, none⟩) n c)) (a := ⟨w.heap.size + 1, 1, none⟩) (by simp) (.int .i64 S')) (a := ⟨w.heap.size + 1, 2, none⟩) (by simp) (.int .i64 x')) (a := ⟨w.heap.size + 1, 3, none⟩) (by simp) (.int .i64 y')
      have hn9 : n ≤ 20 := by have := (errS_zero HE.out).1.2; have := HL.out; omega
      have hr9 := (own_rd (zs := ch') (by rw [HL.out]; exact o9) (by rw [HL.out]; omega)).1
      have hlt9 := (OR.out.lt b rfl).1
      refine bodyPost_ret (v := .tuple #[.agg #[.slice (some ⟨b, 0, none⟩) n c, .int .i64 S', .int .i64 x', .int .i64 y'], .int .i64 0]) ?_ rfl ⟨⟨_, rfl, hr9, Fresh.at (by omega)⟩, Bw.setCell (Bw.setCell (Bw.setCell (Bw.setCell HW.out (p := ⟨w.heap.size + 1, 0, none⟩) (by simp) _) (p := ⟨w.heap.size + 1, 1, none⟩) (by simp) _) (p := ⟨w.heap.size + 1, 2, none⟩) (by simp) _) (p := ⟨w.heap.size + 1, 3, none⟩) (by simp) _⟩
      simp [results, Try.results18, go_sem, m0, m1, m2, m3]
theorem Feed_any (ch : List Int) (v : Value) (seen x y : Int) (l : List (Int × Int)) (vl : Value) (w : World) (hv : RdI w v ch) (hl : RdS w vl l) :
    Calls Try.prog 18 #[.agg #[v, .int .i64 seen, .int .i64 x, .int .i64 y], vl] w fun e w' => SyP w.heap.size (feedR ch seen (x, y) l).1.1 (feedR ch seen (x, y) l).1.2.1 (feedR ch seen (x, y) l).1.2.2 (feedR ch seen (x, y) l).2 e w' ∧ Bw w w' := by
  by_cases h0 : errS ch seen (x, y) = 0
  · by_cases hlen : 10000 < l.length
    · have e : feedR ch seen (x, y) l = (([], 0, (0, 0)), 4) := by unfold feedR; rw [if_neg (by simpa using h0), if_pos hlen]
      rw [e]; exact Feed_long ch v seen x y l vl w hv hl h0 hlen
    · have e : feedR ch seen (x, y) l = feedL ch seen (x, y) l := by unfold feedR; rw [if_neg (by simpa using h0), if_neg hlen]
      rw [e]; exact Feed_main ch v seen x y l vl w hv hl h0 (by omega)
  · have e : feedR ch seen (x, y) l = (([], 0, (0, 0)), errS ch seen (x, y)) := by unfold feedR; rw [if_pos h0]
    rw [e]; exact Feed_bad ch v seen x y l vl w hv hl h0
end Go.Proofs.Sky
