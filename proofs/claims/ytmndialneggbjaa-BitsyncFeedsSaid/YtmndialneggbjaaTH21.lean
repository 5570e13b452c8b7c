/-
  lemmas for the theorems of this claim. No conditions beyond those written in the statements.
-/
import Derived.Test.YtmndialneggbjaaTG21
set_option linter.unusedVariables false
set_option linter.unusedSimpArgs false
set_option linter.unnecessarySimpa false
namespace Go.Proofs.Sky
open Go Go.RowKit Go.Shelf
set_option maxHeartbeats 4000000
set_option maxRecDepth 4000
theorem rFeed_any (ch : List Int) (v : Value) (seen x y : Int) (l : List (Int × Int)) (vl : Value) (w : World) (hv : RdI w v ch) (hl : RdS w vl l) :
    Calls Try.prog 23 #[.agg #[v, .int .i64 seen, .int .i64 x, .int .i64 y], vl] w fun e w' => SyP w.heap.size (feedR ch seen (x, y) l).1.1 (feedR ch seen (x, y) l).1.2.1 (feedR ch seen (x, y) l).1.2.2 (feedR ch seen (x, y) l).2 e w' ∧ Bw w w' := by
  by_cases h0 : errS ch seen (x, y) = 0
  · by_cases hlen : 10000 < l.length
    · have e : feedR ch seen (x, y) l = (([], 0, (0, 0)), 4) := by unfold feedR; rw [if_neg (by simpa using h0), if_pos hlen]
      rw [e]; exact rFeed_long ch v seen x y l vl w hv hl h0 hlen
    · have e : feedR ch seen (x, y) l = feedL ch seen (x, y) l := by unfold feedR; rw [if_neg (by simpa using h0), if_neg hlen]
      obtain ⟨S, rfl⟩ := Int.eq_ofNat_of_zero_le (errS_zero h0).2.1.1
      rw [e]; exact rFeed_main ch v S x y l vl w hv hl h0 (by omega)
  · have e : feedR ch seen (x, y) l = (([], 0, (0, 0)), errS ch seen (x, y)) := by unfold feedR; rw [if_pos h0]
    rw [e]; exact rFeed_bad ch v seen x y l vl w hv hl h0
theorem feedR_one (ch : List Int) (S : Int) (la a : Int × Int) (h : errS ch S la = 0) : feedR ch S la [a] = if addE S a = 0 then ((chN ch S la a, S + 1, a), 0) else (([], 0, (0, 0)), addE S a) := by
  unfold feedR
  rw [if_neg (by simpa using h), if_neg (by simp)]
  simp only [feedL]
theorem rAdd_any (ch : List Int) (v : Value) (S x y a1 a2 : Int) (w : World) (hv : RdI w v ch) :
    Calls Try.prog 29 #[.agg #[v, .int .i64 S, .int .i64 x, .int .i64 y], .agg #[.int .i64 a1, .int .i64 a2]] w fun e w' => SyP w.heap.size (feedR ch S (x, y) [(a1, a2)]).1.1 (feedR ch S (x, y) [(a1, a2)]).1.2.1 (feedR ch S (x, y) [(a1, a2)]).1.2.2 (feedR ch S (x, y) [(a1, a2)]).2 e w' ∧ Bw w w' := by
  by_cases h0 : errS ch S (x, y) = 0
  · rw [feedR_one _ _ _ _ h0]
    obtain ⟨N, rfl⟩ := Int.eq_ofNat_of_zero_le (errS_zero h0).2.1.1
    have h := rAdd_main ch v N x y a1 a2 w hv h0
    by_cases h9 : addE N (a1, a2) = 0
    · rw [if_pos h9, if_pos h9, if_pos h9, h9] at h
      rw [if_pos h9]; exact h
    · rw [if_neg h9, if_neg h9, if_neg h9] at h
      rw [if_neg h9]; exact h
  · have e : feedR ch S (x, y) [(a1, a2)] = (([], 0, (0, 0)), errS ch S (x, y)) := by unfold feedR; rw [if_pos h0]
    rw [e]; exact rAdd_bad ch v S x y a1 a2 w hv h0
theorem New_all (p : Int) : ∃ CN en, (∀ W, Calls Try.prog 16 #[.int .i64 p] W fun e w' => SyP W.heap.size CN 0 (0, 0) en e w' ∧ Bw W w') ∧ (∀ W, Calls Try.prog 24 #[.int .i64 p] W fun e w' => SyP W.heap.size CN 0 (0, 0) en e w' ∧ Bw W w') := by
  by_cases h : p < 1 ∨ 20 < p
  · refine ⟨[], 2, fun W => ?_, fun W => ?_⟩
    · refine (New_bad p W h).mono ?_
      rintro e w' ⟨rfl, hb⟩
      exact ⟨⟨_, rfl, RdI.nil _, Fresh.nil _ _ _⟩, hb⟩
    · refine (rNew_bad p W h).mono ?_
      rintro e w' ⟨rfl, hb⟩
      exact ⟨⟨_, rfl, RdI.nil _, Fresh.nil _ _ _⟩, hb⟩
  · obtain ⟨n, rfl⟩ := Int.eq_ofNat_of_zero_le (show 0 ≤ p by omega)
    exact ⟨List.replicate n 0, 0, fun W => New_ok n W (by omega) (by omega), fun W => rNew_ok n W (by omega) (by omega)⟩
theorem Add_any (ch : List Int) (v : Value) (S x y a1 a2 : Int) (w : World) (hv : RdI w v ch) :
    Calls Try.prog 28 #[.agg #[v, .int .i64 S, .int .i64 x, .int .i64 y], .agg #[.int .i64 a1, .int .i64 a2]] w fun e w' => SyP w.heap.size (feedR ch S (x, y) [(a1, a2)]).1.1 (feedR ch S (x, y) [(a1, a2)]).1.2.1 (feedR ch S (x, y) [(a1, a2)]).1.2.2 (feedR ch S (x, y) [(a1, a2)]).2 e w' ∧ Bw w w' := by
  have HV := Lib.hid hv
  obtain ⟨ad, cap, rfl⟩ := hv.form
  clear hv
  obtain ⟨n, hn⟩ : ∃ n, n = ch.length := ⟨_, rfl⟩
  rw [← hn] at HV ⊢
  have FD := Lib.hid (fun W vl (h1 : RdI W (.slice ad n cap) ch) (h2 : RdS W vl [(a1, a2)]) => Feed_any ch (.slice ad n cap) S x y [(a1, a2)] vl W h1 h2)
  unfold SyP at FD
  obtain ⟨FF, hFF⟩ : ∃ FF, FF = feedR ch S (x, y) [(a1, a2)] := ⟨_, rfl⟩
  rw [← hFF] at FD ⊢
  clear hn hFF
  obtain ⟨⟨CA, sA, xA, yA⟩, er⟩ := FF
  simp only at FD ⊢
  have HBW := Lib.hid (Bw.alloc (Bw.alloc (Bw.alloc (Bw.refl w) (.cells #[.slice ad n cap, .int .i64 S, .int .i64 x, .int .i64 y] 36)) (.cells #[.int .i64 a1, .int .i64 a2] 34)) (.cells #[.slice none 0 0, .int .i64 0, .int .i64 0, .int .i64 0] 36))
  have KX := Lib.hid (((Blk.new w 36 #[.slice ad n cap, .int .i64 S, .int .i64 x, .int .i64 y]).alloc (.cells #[.int .i64 a1, .int .i64 a2] 34)).alloc (.cells #[.slice none 0 0, .int .i64 0, .int .i64 0, .int .i64 0] 36))
  have SX : Hid (Blk (((w.alloc (.cells #[.slice ad n cap, .int .i64 S, .int .i64 x, .int .i64 y] 36)).alloc (.cells #[.int .i64 a1, .int .i64 a2] 34)).alloc (.cells #[.slice none 0 0, .int .i64 0, .int .i64 0, .int .i64 0] 36)) (w.heap.size + 1) 34 #[.int .i64 a1, .int .i64 a2]) := Lib.hid (by have h9 := (Blk.new (w.alloc (.cells #[.slice ad n cap, .int .i64 S, .int .i64 x, .int .i64 y] 36)) 34 #[.int .i64 a1, .int .i64 a2]).alloc (.cells #[.slice none 0 0, .int .i64 0, .int .i64 0, .int .i64 0] 36); simpa using h9)
  have ZX : Hid (Blk (((w.alloc (.cells #[.slice ad n cap, .int .i64 S, .int .i64 x, .int .i64 y] 36)).alloc (.cells #[.int .i64 a1, .int .i64 a2] 34)).alloc (.cells #[.slice none 0 0, .int .i64 0, .int .i64 0, .int .i64 0] 36)) (w.heap.size + 1 + 1) 36 #[.slice none 0 0, .int .i64 0, .int .i64 0, .int .i64 0]) := Lib.hid (by have h9 := Blk.new ((w.alloc (.cells #[.slice ad n cap, .int .i64 S, .int .i64 x, .int .i64 y] 36)).alloc (.cells #[.int .i64 a1, .int .i64 a2] 34)) 36 #[.slice none 0 0, .int .i64 0, .int .i64 0, .int .i64 0]; simpa using h9)
  go_enter Try.func28, Try.ntmps28
  go_upto_region 1 with fail
  obtain ⟨W0, hW0⟩ : ∃ W0, (((w.alloc (.cells #[.slice ad n cap, .int .i64 S, .int .i64 x, .int .i64 y] 36)).alloc (.cells #[.int .i64 a1, .int .i64 a2] 34)).alloc (.cells #[.slice none 0 0, .int .i64 0, .int .i64 0, .int .i64 0] 36)) = W0 := ⟨_, rfl⟩
  rw [hW0] at HBW KX SX ZX ⊢
  clear hW0
  have k0 : W0.cell? ⟨w.heap.size, 0, none⟩ = some (.slice ad n cap) := KX.out.cell rfl
  have k1 : W0.cell? ⟨w.heap.size, 1, none⟩ = some (.int .i64 S) := KX.out.cell rfl
  have k2 : W0.cell? ⟨w.heap.size, 2, none⟩ = some (.int .i64 x) := KX.out.cell rfl
  have k3 : W0.cell? ⟨w.heap.size, 3, none⟩ = some (.int .i64 y) := KX.out.cell rfl
  have s0 : W0.cell? ⟨w.heap.size + 1, 0, none⟩ = some (.int .i64 a1) := SX.out.cell rfl
  have s1 : W0.cell? ⟨w.heap.size + 1, 1, none⟩ = some (.int .i64 a2) := SX.out.cell rfl
  have z0 : W0.cell? ⟨w.heap.size + 1 + 1, 0, none⟩ = some (.slice none 0 0) := ZX.out.cell rfl
  have z1 : W0.cell? ⟨w.heap.size + 1 + 1, 1, none⟩ = some (.int .i64 0) := ZX.out.cell rfl
  have z2 : W0.cell? ⟨w.heap.size + 1 + 1, 2, none⟩ = some (.int .i64 0) := ZX.out.cell rfl
  have z3 : W0.cell? ⟨w.heap.size + 1 + 1, 3, none⟩ = some (.int .i64 0) := ZX.out.cell rfl
  have q0 := ZX.out.frozen 0
  have q1 := ZX.out.frozen 1
  have q2 := ZX.out.frozen 2
  have q3 := ZX.out.frozen 3
  have HZL := Lib.hid ZX.out.lt
  clear q0 q1 q2 q3
  go_wp2_with (go_at_call 18; (with_reducible refine Calls.mono (FD.out _ _ (HV.out.mono (HBW.out.trans (Bw.alloc (Bw.refl _) _))) ?_) ?_); (focus exact RdS.lit _ _ _ [(a1, a2)] (by rfl) (by simp)); rintro e1 u1 ⟨⟨v9, rfl, hr, hf⟩, hb⟩; obtain ⟨a1_, c1_, rfl⟩ := hr.form; have hb2 := (Bw.alloc (Bw.refl W0) (.cells #[.int .i64 a1, .int .i64 a2] 34)).trans hb; replace HBW := Lib.hid (HBW.out.trans hb2); replace ZX := Lib.hid (ZX.out.bw hb2); have HR := Lib.hid hr; have HFR := Lib.hid (hf.mono (show W0.heap.size ≤ _ by simp)); clear hr hf hb hb2 k0 k1 k2 k3 s0 s1 z0 z1 z2 z3; have z0 : u1.cell? ⟨w.heap.size + 1 + 1, 0, none⟩ = some (.slice none 0 0) := ZX.out.cell rfl; have z1 : u1.cell? ⟨w.heap.size + 1 + 1, 1, none⟩ = some (.int .i64 0) := ZX.out.cell rfl; have z2 : u1.cell? ⟨w.heap.size + 1 + 1, 2, none⟩ = some (.int .i64 0) := ZX.out.cell rfl; have z3 : u1.cell? ⟨w.heap.size + 1 + 1, 3, none⟩ = some (.int .i64 0) := ZX.out.cell rfl; have q0 := ZX.out.frozen 0; have q1 := ZX.out.frozen 1; have q2 := ZX.out.frozen 2; have q3 := ZX.out.frozen 3)
  have HRD := Lib.hid ((((HR.out.set HFR.out HZL.out 0 (.slice a1_ CA.length c1_)).set HFR.out HZL.out 1 (.int .i64 sA)).set HFR.out HZL.out 2 (.int .i64 xA)).set HFR.out HZL.out 3 (.int .i64 yA))
  have HFS := Lib.hid (HFR.out.mono (show w.heap.size ≤ W0.heap.size by have := HZL.out; omega))
  have B9 := (((ZX.out.set 0 (.slice a1_ CA.length c1_)).set 1 (.int .i64 sA)).set 2 (.int .i64 xA)).set 3 (.int .i64 yA)
  have m0 := B9.cell (j := 0) rfl
  have m1 := B9.cell (j := 1) rfl
  have m2 := B9.cell (j := 2) rfl
  have m3 := B9.cell (j := 3) rfl
  refine bodyPost_ret (v := .tuple #[.agg #[.slice a1_ CA.length c1_, .int .i64 sA, .int .i64 xA, .int .i64 yA], .int .i64 er]) ?_ rfl ⟨⟨_, rfl, HRD.out, HFS.out⟩, Bw.setCell (Bw.setCell (Bw.setCell (Bw.setCell HBW.out (p := ⟨w.heap.size + 1 + 1, 0, none⟩) (by simp; try omega) _) (p := ⟨w.heap.size + 1 + 1, 1, none⟩) (by simp; try omega) _) (p := ⟨w.heap.size + 1 + 1, 2, none⟩) (by simp; try omega) _) (p := ⟨w.heap.size + 1 + 1, 3, none⟩) (by simp; try omega) _⟩
  simp [results, Try.results28, go_sem, m0, m1, m2, m3]
end Go.Proofs.Sky
