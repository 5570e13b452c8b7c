/-
  lemmas for the theorems of this claim. No conditions beyond those written in the statements.
-/
import Derived.Test.YtgeojbmhkmmedaaRA28
set_option linter.unusedVariables false
set_option linter.unusedSimpArgs false
set_option linter.unnecessarySimpa false
namespace Go.Proofs.Sky
open Go Go.RowKit Go.Shelf
set_option maxHeartbeats 4000000
set_option maxRecDepth 8000
/-! chapter 28: the reference's coordinate and velocity -/
theorem prod_ab28 (ls : List Int) (h : ∀ y ∈ ls, -4611686018427387904 ≤ y ∧ y ≤ 4611686018427387904) (hn : ls.length ≤ 6) : ((prodI ls).natAbs : Int) ≤ 1000000000000000000000000000000000000000000000000000000000000000000000000000000000000000000000000000000000000000000000000 := by
  have h9 := prod_bd6 ls h hn ls.length
  rw [List.take_length] at h9
  omega
theorem rcoord_any (c0 c1 c2 c3 d : Int) (w : World) (h0 : c0.natAbs ≤ 2147483648) (h1 : c1.natAbs ≤ 8388608) (h2 : c2.natAbs ≤ 2097152) (h3 : c3.natAbs ≤ 8388608) (hd : d.natAbs ≤ 7200000000000) :
    Calls Try.prog 27 #[.agg #[.int .i64 c0, .int .i64 c1, .int .i64 c2, .int .i64 c3], .int .i64 d] w fun e w' => e = .returned (.int .i64 (coordQ c0 c1 c2 c3 d)) ∧ Bw w w' := by
  have hbd := (place4 h0 h1 h2 h3 hd).2
  rw [← zW_abs, place4_z] at hbd
  obtain ⟨S, hS⟩ : ∃ S : Int, S = c0 * 16 * 1000000000 * 1000000000 * 1000000000 * 67108864 + c1 * d * 1000000000 * 1000000000 * 67108864 + c2 * d * d * 1000000000 * 65536 + c3 * d * d * d := ⟨_, rfl⟩
  rw [← hS] at hbd
  have HS1 := Lib.hid (show prodI [c0, 16, 1000000000, 1000000000, 1000000000, 67108864] + prodI [c1, d, 1000000000, 1000000000, 67108864] + prodI [c2, d, d, 1000000000, 65536] + prodI [c3, d, d, d] = S by rw [hS]; simp [prodI])
  have HBD := Lib.hid hbd
  show Calls _ _ _ _ fun e w' => e = .returned (.int .i64 (rndQ (c0 * 16 * 1000000000 * 1000000000 * 1000000000 * 67108864 + c1 * d * 1000000000 * 1000000000 * 67108864 + c2 * d * d * 1000000000 * 65536 + c3 * d * d * d) 67108864000000000000000000000000000)) ∧ Bw w w'
  rw [← hS]
  clear hS hbd
  have PR := Lib.hid (fun g base U D vl ls W a1 a2 a3 a4 a5 a6 a7 a8 => Product_any g base U D vl ls W a1 a2 a3 a4 a5 a6 a7 a8)
  unfold ProdP at PR
  have RO := Lib.hid (fun g base U D vl ls W S P a1 a2 a3 a4 a5 a6 a7 a8 a9 => Rounded_any g base U D vl ls W a1 a2 a3 a4 a5 a6 S P a7 a8 a9)
  have HBW := Lib.hid (Bw.alloc (Bw.alloc (Bw.refl w) (.cells #[.int .i64 c0, .int .i64 c1, .int .i64 c2, .int .i64 c3] 23)) (.cells #[.slice none 0 0, .slice none 0 0] 62))
  have KX := Lib.hid ((Blk.new w 23 #[.int .i64 c0, .int .i64 c1, .int .i64 c2, .int .i64 c3]).alloc (.cells #[.slice none 0 0, .slice none 0 0] 62))
  have BA : Hid (Blk ((w.alloc (.cells #[.int .i64 c0, .int .i64 c1, .int .i64 c2, .int .i64 c3] 23)).alloc (.cells #[.slice none 0 0, .slice none 0 0] 62)) (w.heap.size + 1) 62 #[.slice none 0 0, .slice none 0 0]) := Lib.hid (by have h9 := Blk.new (w.alloc (.cells #[.int .i64 c0, .int .i64 c1, .int .i64 c2, .int .i64 c3] 23)) 62 #[.slice none 0 0, .slice none 0 0]; simpa using h9)
  have HSZ := Lib.hid (show ((w.alloc (.cells #[.int .i64 c0, .int .i64 c1, .int .i64 c2, .int .i64 c3] 23)).alloc (.cells #[.slice none 0 0, .slice none 0 0] 62)).heap.size = w.heap.size + 2 by simp)
  obtain ⟨g, hg⟩ : ∃ g, w.heap.size = g := ⟨_, rfl⟩
  rw [hg] at KX BA HSZ
  have HG := Lib.hid hg
  go_enter Try.func27, Try.ntmps27
  go_upto_region 2 with fail
  obtain ⟨v0, hv0⟩ : ∃ v0, ((w.alloc (.cells #[.int .i64 c0, .int .i64 c1, .int .i64 c2, .int .i64 c3] 23)).alloc (.cells #[.slice none 0 0, .slice none 0 0] 62)) = v0 := ⟨_, rfl⟩
  rw [hv0] at HBW KX BA HSZ ⊢
  clear hv0 hg
  have SA : Hid (SumAt v0 (g + 1) (g + 2) 0 0) := Lib.hid ⟨_, _, BA.out, Wd.zero _ _, Wd.zero _ _⟩
  replace HSZ := Lib.hid (Nat.le_of_eq HSZ.out.symm)
  clear BA
  have k0 : v0.cell? ⟨g, 0, none⟩ = some (.int .i64 c0) := KX.out.cell rfl
  have k1 : v0.cell? ⟨g, 1, none⟩ = some (.int .i64 c1) := KX.out.cell rfl
  have k2 : v0.cell? ⟨g, 2, none⟩ = some (.int .i64 c2) := KX.out.cell rfl
  have k3 : v0.cell? ⟨g, 3, none⟩ = some (.int .i64 c3) := KX.out.cell rfl
  go_upto_region 3 with (go_at_call 32; (with_reducible refine Calls.mono (PR.out (g + 1) (g + 2) 0 0 _ [c0, 16, 1000000000, 1000000000, 1000000000, 67108864] _ (SA.out.bw (Bw.alloc (Bw.refl v0) (.cells #[.int .i64 (c0), .int .i64 (16), .int .i64 (1000000000), .int .i64 (1000000000), .int .i64 (1000000000), .int .i64 (67108864)] 3))) (by omega) ?_ ?_ (by simp) (by intro y hy; simp at hy; omega) (by decide) (by decide)) ?_); (focus (have := HSZ.out; simp only [World.size_alloc]; omega)); (focus exact RdI.litN _ _ _ [c0, 16, 1000000000, 1000000000, 1000000000, 67108864] _ (by simp) (by rfl) (by simp)); rintro e1 v1 ⟨rfl, hk9, U1, D1, hs9, hu9, hd9⟩)
  clear k0 k1 k2 k3
  replace hk9 := (Kx.of_bw (g := (g + 1)) (Bw.alloc (Bw.refl v0) (.cells #[.int .i64 (c0), .int .i64 (16), .int .i64 (1000000000), .int .i64 (1000000000), .int .i64 (1000000000), .int .i64 (67108864)] 3)) (by have := HSZ.out; omega)).trans hk9
  replace HBW := Lib.hid (hk9.bw HBW.out (by have := HG.out; omega))
  replace KX := Lib.hid (hk9.blk KX.out (by omega))
  replace SA := Lib.hid hs9
  replace HSZ := Lib.hid (Nat.le_trans HSZ.out hk9.size)
  have hp9 := prod_ab28 [c0, 16, 1000000000, 1000000000, 1000000000, 67108864] (by intro y hy; simp at hy; omega) (by simp)
  have HE1 := Lib.hid hu9
  have HLa : Hid (U1 + D1 ≤ 1 * 1000000000000000000000000000000000000000000000000000000000000000000000000000000000000000000000000000000000000000000000000 ∧ 0 ≤ U1 ∧ 0 ≤ D1) := Lib.hid ⟨by omega, by obtain ⟨_, _, _, q1, q2⟩ := hs9; exact q1.pos, by obtain ⟨_, _, _, q1, q2⟩ := hs9; exact q2.pos⟩
  clear hk9 hs9 hu9 hd9 hp9
  have k0 : v1.cell? ⟨g, 0, none⟩ = some (.int .i64 c0) := KX.out.cell rfl
  have k1 : v1.cell? ⟨g, 1, none⟩ = some (.int .i64 c1) := KX.out.cell rfl
  have k2 : v1.cell? ⟨g, 2, none⟩ = some (.int .i64 c2) := KX.out.cell rfl
  have k3 : v1.cell? ⟨g, 3, none⟩ = some (.int .i64 c3) := KX.out.cell rfl
  go_upto_region 4 with (go_at_call 32; (with_reducible refine Calls.mono (PR.out (g + 1) (g + 2) U1 D1 _ [c1, d, 1000000000, 1000000000, 67108864] _ (SA.out.bw (Bw.alloc (Bw.refl v1) (.cells #[.int .i64 (c1), .int .i64 (d), .int .i64 (1000000000), .int .i64 (1000000000), .int .i64 (67108864)] 3))) (by omega) ?_ ?_ (by simp) (by intro y hy; simp at hy; omega) (by have := HLa.out; omega) (by have := HLa.out; omega)) ?_); (focus (have := HSZ.out; simp only [World.size_alloc]; omega)); (focus exact RdI.litN _ _ _ [c1, d, 1000000000, 1000000000, 67108864] _ (by simp) (by rfl) (by simp)); rintro e1 v2 ⟨rfl, hk9, U2, D2, hs9, hu9, hd9⟩)
  clear k0 k1 k2 k3
  replace hk9 := (Kx.of_bw (g := (g + 1)) (Bw.alloc (Bw.refl v1) (.cells #[.int .i64 (c1), .int .i64 (d), .int .i64 (1000000000), .int .i64 (1000000000), .int .i64 (67108864)] 3)) (by have := HSZ.out; omega)).trans hk9
  replace HBW := Lib.hid (hk9.bw HBW.out (by have := HG.out; omega))
  replace KX := Lib.hid (hk9.blk KX.out (by omega))
  replace SA := Lib.hid hs9
  replace HSZ := Lib.hid (Nat.le_trans HSZ.out hk9.size)
  have hp9 := prod_ab28 [c1, d, 1000000000, 1000000000, 67108864] (by intro y hy; simp at hy; omega) (by simp)
  have HE2 := Lib.hid hu9
  replace HLa : Hid (U2 + D2 ≤ 2 * 1000000000000000000000000000000000000000000000000000000000000000000000000000000000000000000000000000000000000000000000000 ∧ 0 ≤ U2 ∧ 0 ≤ D2) := Lib.hid ⟨by have := HLa.out; omega, by obtain ⟨_, _, _, q1, q2⟩ := hs9; exact q1.pos, by obtain ⟨_, _, _, q1, q2⟩ := hs9; exact q2.pos⟩
  clear hk9 hs9 hu9 hd9 hp9
  have k0 : v2.cell? ⟨g, 0, none⟩ = some (.int .i64 c0) := KX.out.cell rfl
  have k1 : v2.cell? ⟨g, 1, none⟩ = some (.int .i64 c1) := KX.out.cell rfl
  have k2 : v2.cell? ⟨g, 2, none⟩ = some (.int .i64 c2) := KX.out.cell rfl
  have k3 : v2.cell? ⟨g, 3, none⟩ = some (.int .i64 c3) := KX.out.cell rfl
  go_upto_region 5 with (go_at_call 32; (with_reducible refine Calls.mono (PR.out (g + 1) (g + 2) U2 D2 _ [c2, d, d, 1000000000, 65536] _ (SA.out.bw (Bw.alloc (Bw.refl v2) (.cells #[.int .i64 (c2), .int .i64 (d), .int .i64 (d), .int .i64 (1000000000), .int .i64 (65536)] 3))) (by omega) ?_ ?_ (by simp) (by intro y hy; simp at hy; omega) (by have := HLa.out; omega) (by have := HLa.out; omega)) ?_); (focus (have := HSZ.out; simp only [World.size_alloc]; omega)); (focus exact RdI.litN _ _ _ [c2, d, d, 1000000000, 65536] _ (by simp) (by rfl) (by simp)); rintro e1 v3 ⟨rfl, hk9, U3, D3, hs9, hu9, hd9⟩)
  clear k0 k1 k2 k3
  replace hk9 := (Kx.of_bw (g := (g + 1)) (Bw.alloc (Bw.refl v2) (.cells #[.int .i64 (c2), .int .i64 (d), .int .i64 (d), .int .i64 (1000000000), .int .i64 (65536)] 3)) (by have := HSZ.out; omega)).trans hk9
  replace HBW := Lib.hid (hk9.bw HBW.out (by have := HG.out; omega))
  replace KX := Lib.hid (hk9.blk KX.out (by omega))
  replace SA := Lib.hid hs9
  replace HSZ := Lib.hid (Nat.le_trans HSZ.out hk9.size)
  have hp9 := prod_ab28 [c2, d, d, 1000000000, 65536] (by intro y hy; simp at hy; omega) (by simp)
  have HE3 := Lib.hid hu9
  replace HLa : Hid (U3 + D3 ≤ 3 * 1000000000000000000000000000000000000000000000000000000000000000000000000000000000000000000000000000000000000000000000000 ∧ 0 ≤ U3 ∧ 0 ≤ D3) := Lib.hid ⟨by have := HLa.out; omega, by obtain ⟨_, _, _, q1, q2⟩ := hs9; exact q1.pos, by obtain ⟨_, _, _, q1, q2⟩ := hs9; exact q2.pos⟩
  clear hk9 hs9 hu9 hd9 hp9
  have k0 : v3.cell? ⟨g, 0, none⟩ = some (.int .i64 c0) := KX.out.cell rfl
  have k1 : v3.cell? ⟨g, 1, none⟩ = some (.int .i64 c1) := KX.out.cell rfl
  have k2 : v3.cell? ⟨g, 2, none⟩ = some (.int .i64 c2) := KX.out.cell rfl
  have k3 : v3.cell? ⟨g, 3, none⟩ = some (.int .i64 c3) := KX.out.cell rfl
  go_upto_region 6 with (go_at_call 32; (with_reducible refine Calls.mono (PR.out (g + 1) (g + 2) U3 D3 _ [c3, d, d, d] _ (SA.out.bw (Bw.alloc (Bw.refl v3) (.cells #[.int .i64 (c3), .int .i64 (d), .int .i64 (d), .int .i64 (d)] 3))) (by omega) ?_ ?_ (by simp) (by intro y hy; simp at hy; omega) (by have := HLa.out; omega) (by have := HLa.out; omega)) ?_); (focus (have := HSZ.out; simp only [World.size_alloc]; omega)); (focus exact RdI.litN _ _ _ [c3, d, d, d] _ (by simp) (by rfl) (by simp)); rintro e1 v4 ⟨rfl, hk9, U4, D4, hs9, hu9, hd9⟩)
  clear k0 k1 k2 k3
  replace hk9 := (Kx.of_bw (g := (g + 1)) (Bw.alloc (Bw.refl v3) (.cells #[.int .i64 (c3), .int .i64 (d), .int .i64 (d), .int .i64 (d)] 3)) (by have := HSZ.out; omega)).trans hk9
  replace HBW := Lib.hid (hk9.bw HBW.out (by have := HG.out; omega))
  replace KX := Lib.hid (hk9.blk KX.out (by omega))
  replace SA := Lib.hid hs9
  replace HSZ := Lib.hid (Nat.le_trans HSZ.out hk9.size)
  have hp9 := prod_ab28 [c3, d, d, d] (by intro y hy; simp at hy; omega) (by simp)
  have HE4 := Lib.hid hu9
  replace HLa : Hid (U4 + D4 ≤ 4 * 1000000000000000000000000000000000000000000000000000000000000000000000000000000000000000000000000000000000000000000000000 ∧ 0 ≤ U4 ∧ 0 ≤ D4) := Lib.hid ⟨by have := HLa.out; omega, by obtain ⟨_, _, _, q1, q2⟩ := hs9; exact q1.pos, by obtain ⟨_, _, _, q1, q2⟩ := hs9; exact q2.pos⟩
  clear hk9 hs9 hu9 hd9 hp9
  have HSa := Lib.hid (show S = U4 - D4 by have q1 := HE1.out; have q2 := HE2.out; have q3 := HE3.out; have q4 := HE4.out; have q9 := HS1.out; omega)
  clear HE1 HE2 HE3 HE4
  go_wp2_with (go_at_call 33; (with_reducible refine Calls.mono (RO.out (g + 1) (g + 2) U4 D4 _ [1000000000, 1000000000, 1000000000, 67108864] _ S 67108864000000000000000000000000000 (SA.out.bw (Bw.alloc (Bw.refl v4) (.cells #[.int .i64 1000000000, .int .i64 1000000000, .int .i64 1000000000, .int .i64 67108864] 3))) ?_ (by decide) (by intro y hy; simp at hy; omega) (by have := HLa.out; omega) (by have := HLa.out; omega) HSa.out (by decide) ?_) ?_); (focus exact RdI.litN _ _ _ [1000000000, 1000000000, 1000000000, 67108864] _ (by simp) (by rfl) (by simp)); (focus (have := HBD.out; omega)); rintro e1 w9 ⟨rfl, hb9⟩; replace hb9 := (Bw.alloc (Bw.refl v4) (.cells #[.int .i64 1000000000, .int .i64 1000000000, .int .i64 1000000000, .int .i64 67108864] 3)).trans hb9; replace HBW := Lib.hid (HBW.out.trans hb9); clear hb9)
  go_ret
  exact ⟨rfl, HBW.out⟩
theorem rvel_any (c0 c1 c2 c3 d : Int) (w : World) (h1 : c1.natAbs ≤ 8388608) (h2 : c2.natAbs ≤ 2097152) (h3 : c3.natAbs ≤ 8388608) (hd : d.natAbs ≤ 7200000000000) :
    Calls Try.prog 28 #[.agg #[.int .i64 c0, .int .i64 c1, .int .i64 c2, .int .i64 c3], .int .i64 d] w fun e w' => e = .returned (.int .i64 (velQ c1 c2 c3 d)) ∧ Bw w w' := by
  have hbd := (vel3 (c1 := c1) (c2 := 2 * c2) (c3 := 3 * c3) h1 (by omega) (by omega) hd).2
  rw [← zW_abs, vel3_z, vel_sum] at hbd
  obtain ⟨S, hS⟩ : ∃ S : Int, S = c1 * 1000000000 * 1000000000 * 67108864 + 2 * c2 * d * 1000000000 * 65536 + 3 * c3 * d * d := ⟨_, rfl⟩
  rw [← hS] at hbd
  have HS1 := Lib.hid (show prodI [c1, 1000000000, 1000000000, 67108864] + prodI [2, c2, d, 1000000000, 65536] + prodI [3, c3, d, d] = S by rw [hS]; simp [prodI])
  have HBD := Lib.hid hbd
  show Calls _ _ _ _ fun e w' => e = .returned (.int .i64 (rndQ (c1 * 1000000000 * 1000000000 * 67108864 + 2 * c2 * d * 1000000000 * 65536 + 3 * c3 * d * d) 67108864000000000000000000)) ∧ Bw w w'
  rw [← hS]
  clear hS hbd
  have PR := Lib.hid (fun g base U D vl ls W a1 a2 a3 a4 a5 a6 a7 a8 => Product_any g base U D vl ls W a1 a2 a3 a4 a5 a6 a7 a8)
  unfold ProdP at PR
  have RO := Lib.hid (fun g base U D vl ls W S P a1 a2 a3 a4 a5 a6 a7 a8 a9 => Rounded_any g base U D vl ls W a1 a2 a3 a4 a5 a6 S P a7 a8 a9)
  have HBW := Lib.hid (Bw.alloc (Bw.alloc (Bw.refl w) (.cells #[.int .i64 c0, .int .i64 c1, .int .i64 c2, .int .i64 c3] 23)) (.cells #[.slice none 0 0, .slice none 0 0] 62))
  have KX := Lib.hid ((Blk.new w 23 #[.int .i64 c0, .int .i64 c1, .int .i64 c2, .int .i64 c3]).alloc (.cells #[.slice none 0 0, .slice none 0 0] 62))
  have BA : Hid (Blk ((w.alloc (.cells #[.int .i64 c0, .int .i64 c1, .int .i64 c2, .int .i64 c3] 23)).alloc (.cells #[.slice none 0 0, .slice none 0 0] 62)) (w.heap.size + 1) 62 #[.slice none 0 0, .slice none 0 0]) := Lib.hid (by have h9 := Blk.new (w.alloc (.cells #[.int .i64 c0, .int .i64 c1, .int .i64 c2, .int .i64 c3] 23)) 62 #[.slice none 0 0, .slice none 0 0]; simpa using h9)
  have HSZ := Lib.hid (show ((w.alloc (.cells #[.int .i64 c0, .int .i64 c1, .int .i64 c2, .int .i64 c3] 23)).alloc (.cells #[.slice none 0 0, .slice none 0 0] 62)).heap.size = w.heap.size + 2 by simp)
  obtain ⟨g, hg⟩ : ∃ g, w.heap.size = g := ⟨_, rfl⟩
  rw [hg] at KX BA HSZ
  have HG := Lib.hid hg
  go_enter Try.func28, Try.ntmps28
  go_upto_region 2 with fail
  obtain ⟨v0, hv0⟩ : ∃ v0, ((w.alloc (.cells #[.int .i64 c0, .int .i64 c1, .int .i64 c2, .int .i64 c3] 23)).alloc (.cells #[.slice none 0 0, .slice none 0 0] 62)) = v0 := ⟨_, rfl⟩
  rw [hv0] at HBW KX BA HSZ ⊢
  clear hv0 hg
  have SA : Hid (SumAt v0 (g + 1) (g + 2) 0 0) := Lib.hid ⟨_, _, BA.out, Wd.zero _ _, Wd.zero _ _⟩
  replace HSZ := Lib.hid (Nat.le_of_eq HSZ.out.symm)
  clear BA
  have k0 : v0.cell? ⟨g, 0, none⟩ = some (.int .i64 c0) := KX.out.cell rfl
  have k1 : v0.cell? ⟨g, 1, none⟩ = some (.int .i64 c1) := KX.out.cell rfl
  have k2 : v0.cell? ⟨g, 2, none⟩ = some (.int .i64 c2) := KX.out.cell rfl
  have k3 : v0.cell? ⟨g, 3, none⟩ = some (.int .i64 c3) := KX.out.cell rfl
  go_upto_region 3 with (go_at_call 32; (with_reducible refine Calls.mono (PR.out (g + 1) (g + 2) 0 0 _ [c1, 1000000000, 1000000000, 67108864] _ (SA.out.bw (Bw.alloc (Bw.refl v0) (.cells #[.int .i64 (c1), .int .i64 (1000000000), .int .i64 (1000000000), .int .i64 (67108864)] 3))) (by omega) ?_ ?_ (by simp) (by intro y hy; simp at hy; omega) (by decide) (by decide)) ?_); (focus (have := HSZ.out; simp only [World.size_alloc]; omega)); (focus exact RdI.litN _ _ _ [c1, 1000000000, 1000000000, 67108864] _ (by simp) (by rfl) (by simp)); rintro e1 v1 ⟨rfl, hk9, U1, D1, hs9, hu9, hd9⟩)
  clear k0 k1 k2 k3
  replace hk9 := (Kx.of_bw (g := (g + 1)) (Bw.alloc (Bw.refl v0) (.cells #[.int .i64 (c1), .int .i64 (1000000000), .int .i64 (1000000000), .int .i64 (67108864)] 3)) (by have := HSZ.out; omega)).trans hk9
  replace HBW := Lib.hid (hk9.bw HBW.out (by have := HG.out; omega))
  replace KX := Lib.hid (hk9.blk KX.out (by omega))
  replace SA := Lib.hid hs9
  replace HSZ := Lib.hid (Nat.le_trans HSZ.out hk9.size)
  have hp9 := prod_ab28 [c1, 1000000000, 1000000000, 67108864] (by intro y hy; simp at hy; omega) (by simp)
  have HE1 := Lib.hid hu9
  have HLa : Hid (U1 + D1 ≤ 1 * 1000000000000000000000000000000000000000000000000000000000000000000000000000000000000000000000000000000000000000000000000 ∧ 0 ≤ U1 ∧ 0 ≤ D1) := Lib.hid ⟨by omega, by obtain ⟨_, _, _, q1, q2⟩ := hs9; exact q1.pos, by obtain ⟨_, _, _, q1, q2⟩ := hs9; exact q2.pos⟩
  clear hk9 hs9 hu9 hd9 hp9
  have k0 : v1.cell? ⟨g, 0, none⟩ = some (.int .i64 c0) := KX.out.cell rfl
  have k1 : v1.cell? ⟨g, 1, none⟩ = some (.int .i64 c1) := KX.out.cell rfl
  have k2 : v1.cell? ⟨g, 2, none⟩ = some (.int .i64 c2) := KX.out.cell rfl
  have k3 : v1.cell? ⟨g, 3, none⟩ = some (.int .i64 c3) := KX.out.cell rfl
  go_upto_region 4 with (go_at_call 32; (with_reducible refine Calls.mono (PR.out (g + 1) (g + 2) U1 D1 _ [2, c2, d, 1000000000, 65536] _ (SA.out.bw (Bw.alloc (Bw.refl v1) (.cells #[.int .i64 (2), .int .i64 (c2), .int .i64 (d), .int .i64 (1000000000), .int .i64 (65536)] 3))) (by omega) ?_ ?_ (by simp) (by intro y hy; simp at hy; omega) (by have := HLa.out; omega) (by have := HLa.out; omega)) ?_); (focus (have := HSZ.out; simp only [World.size_alloc]; omega)); (focus exact RdI.litN _ _ _ [2, c2, d, 1000000000, 65536] _ (by simp) (by rfl) (by simp)); rintro e1 v2 ⟨rfl, hk9, U2, D2, hs9, hu9, hd9⟩)
  clear k0 k1 k2 k3
  replace hk9 := (Kx.of_bw (g := (g + 1)) (Bw.alloc (Bw.refl v1) (.cells #[.int .i64 (2), .int .i64 (c2), .int .i64 (d), .int .i64 (1000000000), .int .i64 (65536)] 3)) (by have := HSZ.out; omega)).trans hk9
  replace HBW := Lib.hid (hk9.bw HBW.out (by have := HG.out; omega))
  replace KX := Lib.hid (hk9.blk KX.out (by omega))
  replace SA := Lib.hid hs9
  replace HSZ := Lib.hid (Nat.le_trans HSZ.out hk9.size)
  have hp9 := prod_ab28 [2, c2, d, 1000000000, 65536] (by intro y hy; simp at hy; omega) (by simp)
  have HE2 := Lib.hid hu9
  replace HLa : Hid (U2 + D2 ≤ 2 * 1000000000000000000000000000000000000000000000000000000000000000000000000000000000000000000000000000000000000000000000000 ∧ 0 ≤ U2 ∧ 0 ≤ D2) := Lib.hid ⟨by have := HLa.out; omega, by obtain ⟨_, _, _, q1, q2⟩ := hs9; exact q1.pos, by obtain ⟨_, _, _, q1, q2⟩ := hs9; exact q2.pos⟩
  clear hk9 hs9 hu9 hd9 hp9
  have k0 : v2.cell? ⟨g, 0, none⟩ = some (.int .i64 c0) := KX.out.cell rfl
  have k1 : v2.cell? ⟨g, 1, none⟩ = some (.int .i64 c1) := KX.out.cell rfl
  have k2 : v2.cell? ⟨g, 2, none⟩ = some (.int .i64 c2) := KX.out.cell rfl
  have k3 : v2.cell? ⟨g, 3, none⟩ = some (.int .i64 c3) := KX.out.cell rfl
  go_upto_region 5 with (go_at_call 32; (with_reducible refine Calls.mono (PR.out (g + 1) (g + 2) U2 D2 _ [3, c3, d, d] _ (SA.out.bw (Bw.alloc (Bw.refl v2) (.cells #[.int .i64 (3), .int .i64 (c3), .int .i64 (d), .int .i64 (d)] 3))) (by omega) ?_ ?_ (by simp) (by intro y hy; simp at hy; omega) (by have := HLa.out; omega) (by have := HLa.out; omega)) ?_); (focus (have := HSZ.out; simp only [World.size_alloc]; omega)); (focus exact RdI.litN _ _ _ [3, c3, d, d] _ (by simp) (by rfl) (by simp)); rintro e1 v3 ⟨rfl, hk9, U3, D3, hs9, hu9, hd9⟩)
  clear k0 k1 k2 k3
  replace hk9 := (Kx.of_bw (g := (g + 1)) (Bw.alloc (Bw.refl v2) (.cells #[.int .i64 (3), .int .i64 (c3), .int .i64 (d), .int .i64 (d)] 3)) (by have := HSZ.out; omega)).trans hk9
  replace HBW := Lib.hid (hk9.bw HBW.out (by have := HG.out; omega))
  replace KX := Lib.hid (hk9.blk KX.out (by omega))
  replace SA := Lib.hid hs9
  replace HSZ := Lib.hid (Nat.le_trans HSZ.out hk9.size)
  have hp9 := prod_ab28 [3, c3, d, d] (by intro y hy; simp at hy; omega) (by simp)
  have HE3 := Lib.hid hu9
  replace HLa : Hid (U3 + D3 ≤ 3 * 1000000000000000000000000000000000000000000000000000000000000000000000000000000000000000000000000000000000000000000000000 ∧ 0 ≤ U3 ∧ 0 ≤ D3) := Lib.hid ⟨by have := HLa.out; omega, by obtain ⟨_, _, _, q1, q2⟩ := hs9; exact q1.pos, by obtain ⟨_, _, _, q1, q2⟩ := hs9; exact q2.pos⟩
  clear hk9 hs9 hu9 hd9 hp9
  have HSa := Lib.hid (show S = U3 - D3 by have q1 := HE1.out; have q2 := HE2.out; have q3 := HE3.out; have q9 := HS1.out; omega)
  clear HE1 HE2 HE3
  go_wp2_with (go_at_call 33; (with_reducible refine Calls.mono (RO.out (g + 1) (g + 2) U3 D3 _ [1000000000, 1000000000, 67108864] _ S 67108864000000000000000000 (SA.out.bw (Bw.alloc (Bw.refl v3) (.cells #[.int .i64 1000000000, .int .i64 1000000000, .int .i64 67108864] 3))) ?_ (by decide) (by intro y hy; simp at hy; omega) (by have := HLa.out; omega) (by have := HLa.out; omega) HSa.out (by decide) ?_) ?_); (focus exact RdI.litN _ _ _ [1000000000, 1000000000, 67108864] _ (by simp) (by rfl) (by simp)); (focus (have := HBD.out; omega)); rintro e1 w9 ⟨rfl, hb9⟩; replace hb9 := (Bw.alloc (Bw.refl v3) (.cells #[.int .i64 1000000000, .int .i64 1000000000, .int .i64 67108864] 3)).trans hb9; replace HBW := Lib.hid (HBW.out.trans hb9); clear hb9)
  go_ret
  exact ⟨rfl, HBW.out⟩
end Go.Proofs.Sky

namespace Go.Proofs.Sky
open Go Go.RowKit Go.Shelf
set_option maxHeartbeats 4000000
set_option maxRecDepth 8000
/-! chapter 28: the reference's Position, Velocity, Clock -/
theorem run_load_ax {o : Oper} {ρ : Operand → Value} (x : Operand) (ho : o.op = .load 23 x) {w : World} (g b : Nat) (hx : ρ x = .pointer (some ⟨g, b, none⟩)) {x0 x1 x2 x3 : Int} (hB : w.rangeAt g b [.int .i64 x0, .int .i64 x1, .int .i64 x2, .int .i64 x3]) : (execOp ρ o).run Try.prog w = .ok (.value (.agg #[.int .i64 x0, .int .i64 x1, .int .i64 x2, .int .i64 x3])) w := by
  have h9 : (Instr.loadAt 23 (.pointer (some ⟨g, b, none⟩))).run Try.prog w = .ok (.agg #[.int .i64 x0, .int .i64 x1, .int .i64 x2, .int .i64 x3]) w := run_loadAt_mid w g b 23 _ _ hB Try.underlying23 rfl (by kernel_rfl)
  unfold execOp
  simp only [ho, hx, Sem.run_bind, Sem.run_pure, Result.andThen_ok, h9]
theorem ax_r7 {W : World} {g : Nat} {T : TypeId} {X : Nat → Int} (hB : Blk W g T (eV X)) : W.rangeAt g 7 [.int .i64 (X 7), .int .i64 (X 8), .int .i64 (X 9), .int .i64 (X 10)] := by
  intro j v h
  have hj : j < 4 := (List.getElem?_eq_some_iff.1 h).1
  refine hB.cell ?_
  rw [← h]
  match j, hj with
  | 0, _ => rfl
  | 1, _ => rfl
  | 2, _ => rfl
  | 3, _ => rfl
theorem ax_r11 {W : World} {g : Nat} {T : TypeId} {X : Nat → Int} (hB : Blk W g T (eV X)) : W.rangeAt g 11 [.int .i64 (X 11), .int .i64 (X 12), .int .i64 (X 13), .int .i64 (X 14)] := by
  intro j v h
  have hj : j < 4 := (List.getElem?_eq_some_iff.1 h).1
  refine hB.cell ?_
  rw [← h]
  match j, hj with
  | 0, _ => rfl
  | 1, _ => rfl
  | 2, _ => rfl
  | 3, _ => rfl
theorem ax_r15 {W : World} {g : Nat} {T : TypeId} {X : Nat → Int} (hB : Blk W g T (eV X)) : W.rangeAt g 15 [.int .i64 (X 15), .int .i64 (X 16), .int .i64 (X 17), .int .i64 (X 18)] := by
  intro j v h
  have hj : j < 4 := (List.getElem?_eq_some_iff.1 h).1
  refine hB.cell ?_
  rw [← h]
  match j, hj with
  | 0, _ => rfl
  | 1, _ => rfl
  | 2, _ => rfl
  | 3, _ => rfl
theorem RPosition28_any (X : Nat → Int) (t : Int) (w : World) : Calls Try.prog 8 #[.agg (eV X), .int .i64 t] w fun e w' => e = .returned (.tuple #[.agg (l3V (psE X t)), .int .i64 (atE X t).2]) ∧ Bw w w' := by
  have AT := Lib.hid (fun W => rdist28_any X t W)
  have KX := Lib.hid ((Blk.new w 25 (eV X)).alloc (.cells #[.int .i64 0, .int .i64 0, .int .i64 0] 27))
  have KP := Lib.hid (show Blk ((w.alloc (.cells (eV X) 25)).alloc (.cells #[.int .i64 0, .int .i64 0, .int .i64 0] 27)) (w.heap.size + 1) 27 #[.int .i64 0, .int .i64 0, .int .i64 0] from by have h9 := Blk.new (w.alloc (.cells (eV X) 25)) 27 #[.int .i64 0, .int .i64 0, .int .i64 0]; simp only [World.size_alloc] at h9; exact h9)
  have HW := Lib.hid (Bw.alloc (Bw.alloc (Bw.refl w) (.cells (eV X) 25)) (.cells #[.int .i64 0, .int .i64 0, .int .i64 0] 27))
  have HSZ : Hid ((Try.prog.info? 25).map (·.size) = some (eV X).size) := Lib.hid (by kernel_rfl)
  have R0 := Lib.hid (fun W (hB : Blk W w.heap.size 25 (eV X)) => ax_r7 hB)
  have R1 := Lib.hid (fun W (hB : Blk W w.heap.size 25 (eV X)) => ax_r11 hB)
  have R2 := Lib.hid (fun W (hB : Blk W w.heap.size 25 (eV X)) => ax_r15 hB)
  obtain ⟨g, hg⟩ : ∃ g, w.heap.size = g := ⟨_, rfl⟩
  rw [hg] at KX KP R0 R1 R2
  have HG := Lib.hid hg
  have HOK := Lib.hid (fun h => atE_ok (X := X) (t := t) h)
  have HBD := Lib.hid (fun (h : errE X = 0) j hj => ax_bd h j hj)
  have HPS := Lib.hid (show ∀ j, psE X t j = if (atE X t).2 = 0 then posQ X (atE X t).1 j else 0 from fun j => rfl)
  generalize psE X t = PSF at *
  generalize atE X t = R at *
  obtain ⟨d, er⟩ := R
  dsimp only at AT HOK HPS
  obtain ⟨A, hA⟩ : ∃ A, A = eV X := ⟨_, rfl⟩
  rw [← hA] at AT KX KP HW HSZ R0 R1 R2 ⊢
  clear hA
  go_enter Try.func8, Try.ntmps8
  go_upto_region 1 with fail
  obtain ⟨W0, hW0⟩ : ∃ W0, (w.alloc (.cells A 25)).alloc (.cells #[.int .i64 0, .int .i64 0, .int .i64 0] 27) = W0 := ⟨_, rfl⟩
  rw [hW0] at KX KP HW ⊢
  clear hW0 hg
  go_upto_region 2 with (first | ((with_reducible refine at_load 25 (.tmp 2) ?_); refine wpList_load_row rfl 25 _ rfl g rfl 25 A (0, 0) _ KX.out Try.underlying25 rfl HSZ.out ?_) | (go_at_call 26; (with_reducible refine Calls.mono (AT.out _) ?_); rintro e1 w1 ⟨rfl, hb1⟩; replace KX := Lib.hid (KX.out.bw hb1); replace KP := Lib.hid (KP.out.bw hb1); replace HW := Lib.hid (HW.out.trans hb1); clear hb1))
  by_cases c1 : er = 0
  case neg =>
    have c1z : (er != 0) = true := by simpa using c1
    have HR := Lib.hid (show l3V PSF = #[.int .i64 0, .int .i64 0, .int .i64 0] from l3V_congr (y := fun _ => 0) (fun j hj => by rw [HPS.out j, if_neg c1]))
    clear c1
    go_wp2_with ((with_reducible refine at_store 27 (.tmp 4) (.tmp 16) ?_); refine wpList_store_row rfl 27 (.tmp 4) (.tmp 16) rfl (g + 1) #[.int .i64 0, .int .i64 0, .int .i64 0] rfl rfl 27 _ KP.out (by kernel_rfl) rfl (by simp [Value.oneCell', l3V]) ?_)
    have F9 := KP.out.row #[.int .i64 0, .int .i64 0, .int .i64 0]
    have B9 := Bw.setRow HW.out (show w.heap.size ≤ g + 1 by have := HG.out; omega) #[.int .i64 0, .int .i64 0, .int .i64 0]
    refine bodyPost_ret (v := .tuple #[.agg #[.int .i64 0, .int .i64 0, .int .i64 0], .int .i64 er]) ?_ rfl ⟨by rw [HR.out], B9⟩
    exact results_two_row (p := 4) (u := 5) rfl _ _ (g + 1) _ rfl (run_loadVar_row _ (g + 1) 27 27 #[.int .i64 0, .int .i64 0, .int .i64 0] (0, 0) _ F9 Try.underlying27 rfl (by kernel_rfl))
  obtain ⟨hx, hd⟩ := HOK.out c1
  subst c1
  have HBX := Lib.hid (HBD.out hx)
  have HDD := Lib.hid hd
  have HPJ := Lib.hid (show ∀ j, PSF j = posQ X d j from fun j => by rw [HPS.out j, if_pos rfl])
  clear hx hd HBD HOK HPS AT
  obtain ⟨a0, a1, a2, a3⟩ := HBX.out 0 (by omega)
  obtain ⟨b0, b1, b2, b3⟩ := HBX.out 1 (by omega)
  obtain ⟨c0, c1, c2, c3⟩ := HBX.out 2 (by omega)
  simp only [Nat.mul_zero, Nat.add_zero, Nat.mul_one, show 7 + 4 * 2 = 15 from rfl, show 7 + 4 = 11 from rfl, show 7 + 1 = 8 from rfl, show 7 + 2 = 9 from rfl, show 7 + 3 = 10 from rfl, show 11 + 1 = 12 from rfl, show 11 + 2 = 13 from rfl, show 11 + 3 = 14 from rfl, show 15 + 1 = 16 from rfl, show 15 + 2 = 17 from rfl, show 15 + 3 = 18 from rfl] at a0 a1 a2 a3 b0 b1 b2 b3 c0 c1 c2 c3
  have C0 := Lib.hid (fun W => rcoord_any (X 7) (X 8) (X 9) (X 10) d W a0 a1 a2 a3 HDD.out)
  have C1 := Lib.hid (fun W => rcoord_any (X 11) (X 12) (X 13) (X 14) d W b0 b1 b2 b3 HDD.out)
  have C2 := Lib.hid (fun W => rcoord_any (X 15) (X 16) (X 17) (X 18) d W c0 c1 c2 c3 HDD.out)
  have HR3 := Lib.hid (show l3V PSF = #[.int .i64 (coordQ (X 7) (X 8) (X 9) (X 10) d), .int .i64 (coordQ (X 11) (X 12) (X 13) (X 14) d), .int .i64 (coordQ (X 15) (X 16) (X 17) (X 18) d)] by unfold l3V; rw [HPJ.out 0, HPJ.out 1, HPJ.out 2]; rfl)
  clear a0 a1 a2 a3 b0 b1 b2 b3 c0 c1 c2 c3 HPJ HBX
  generalize coordQ (X 7) (X 8) (X 9) (X 10) d = p0 at *
  generalize coordQ (X 11) (X 12) (X 13) (X 14) d = p1 at *
  generalize coordQ (X 15) (X 16) (X 17) (X 18) d = p2 at *
  generalize X 7 = y00 at *
  generalize X 8 = y01 at *
  generalize X 9 = y02 at *
  generalize X 10 = y03 at *
  generalize X 11 = y10 at *
  generalize X 12 = y11 at *
  generalize X 13 = y12 at *
  generalize X 14 = y13 at *
  generalize X 15 = y20 at *
  generalize X 16 = y21 at *
  generalize X 17 = y22 at *
  generalize X 18 = y23 at *
  go_upto_region 4 with fail
  refine wp_region_held_drew (S := Kx (g + 1) w1) (by kernel_rfl) (Kx.of_bw (Bw.drew (Bw.refl _)) (Nat.le_of_lt KP.out.lt)) (fun hS => ?_)
  replace KP := Lib.hid (KP.out.bw (Bw.drew (Bw.refl _)))
  generalize World.drew _ = wd at hS KP ⊢
  refine take1 (i := 0) (some 18) rfl rfl (by kernel_rfl) (by kernel_rfl) (by kernel_rfl) (fun _ _ _ _ h => h) rfl hS ?_
  apply Exists.intro
  apply And.intro
  · intro W9 hW9; skip; go_simp; try with_reducible rfl
  simp only [Act.put, List.setIfInBounds_toArray, List.set_cons_zero, List.set_cons_succ]
  refine take1 (i := 1) (some 19) rfl rfl (by kernel_rfl) (by kernel_rfl) (by kernel_rfl) (fun _ _ _ _ h => h) rfl hS ?_
  refine Exists.intro (.agg #[.int .i64 y00, .int .i64 y01, .int .i64 y02, .int .i64 y03]) ?_
  apply And.intro
  · intro W9 hW9; skip; exact run_load_ax _ rfl g 7 rfl (R0.out _ (hW9.blk KX.out (by omega)))
  simp only [Act.put, List.setIfInBounds_toArray, List.set_cons_zero, List.set_cons_succ]
  refine take1 (i := 2) (some 20) rfl rfl (by kernel_rfl) (by kernel_rfl) (by kernel_rfl) (fun _ _ _ _ h => h) rfl hS ?_
  apply Exists.intro
  apply And.intro
  · intro W9 hW9; skip; go_simp; try with_reducible rfl
  simp only [Act.put, List.setIfInBounds_toArray, List.set_cons_zero, List.set_cons_succ]
  refine take1 (i := 4) (some 22) rfl rfl (by kernel_rfl) (by kernel_rfl) (by kernel_rfl) (fun _ _ _ _ h => h) rfl hS ?_
  apply Exists.intro
  apply And.intro
  · intro W9 hW9; skip; go_simp; try with_reducible rfl
  simp only [Act.put, List.setIfInBounds_toArray, List.set_cons_zero, List.set_cons_succ]
  refine take1 (i := 5) (some 23) rfl rfl (by kernel_rfl) (by kernel_rfl) (by kernel_rfl) (fun _ _ _ _ h => h) rfl hS ?_
  refine Exists.intro (.agg #[.int .i64 y10, .int .i64 y11, .int .i64 y12, .int .i64 y13]) ?_
  apply And.intro
  · intro W9 hW9; skip; exact run_load_ax _ rfl g 11 rfl (R1.out _ (hW9.blk KX.out (by omega)))
  simp only [Act.put, List.setIfInBounds_toArray, List.set_cons_zero, List.set_cons_succ]
  refine take1 (i := 6) (some 24) rfl rfl (by kernel_rfl) (by kernel_rfl) (by kernel_rfl) (fun _ _ _ _ h => h) rfl hS ?_
  apply Exists.intro
  apply And.intro
  · intro W9 hW9; skip; go_simp; try with_reducible rfl
  simp only [Act.put, List.setIfInBounds_toArray, List.set_cons_zero, List.set_cons_succ]
  refine take1 (i := 8) (some 26) rfl rfl (by kernel_rfl) (by kernel_rfl) (by kernel_rfl) (fun _ _ _ _ h => h) rfl hS ?_
  apply Exists.intro
  apply And.intro
  · intro W9 hW9; skip; go_simp; try with_reducible rfl
  simp only [Act.put, List.setIfInBounds_toArray, List.set_cons_zero, List.set_cons_succ]
  refine take1 (i := 9) (some 27) rfl rfl (by kernel_rfl) (by kernel_rfl) (by kernel_rfl) (fun _ _ _ _ h => h) rfl hS ?_
  refine Exists.intro (.agg #[.int .i64 y20, .int .i64 y21, .int .i64 y22, .int .i64 y23]) ?_
  apply And.intro
  · intro W9 hW9; skip; exact run_load_ax _ rfl g 15 rfl (R2.out _ (hW9.blk KX.out (by omega)))
  simp only [Act.put, List.setIfInBounds_toArray, List.set_cons_zero, List.set_cons_succ]
  refine take1 (i := 10) (some 28) rfl rfl (by kernel_rfl) (by kernel_rfl) (by kernel_rfl) (fun _ _ _ _ h => h) rfl hS ?_
  apply Exists.intro
  apply And.intro
  · intro W9 hW9; skip; go_simp; try with_reducible rfl
  simp only [Act.put, List.setIfInBounds_toArray, List.set_cons_zero, List.set_cons_succ]
  refine wpAnyH_ready (rs := [3]) (by kernel_rfl) (by simp) ?_
  refine AllReadyH.cons rfl (fun K hK => ?_) ?_
  go_simp
  go_wp2_with (go_at_call 27; (with_reducible refine Calls.mono (C0.out _) ?_); rintro e1 wd ⟨rfl, hb13⟩)
  have hle := Nat.le_of_lt KP.out.lt
  replace KP := Lib.hid (KP.out.bw hb13)
  refine hK.out _ _ (hS.trans (Kx.of_bw hb13 hle)) (fun hS => ?_)
  clear hK K
  clear hb13 hle
  refine wpAnyH_ready (rs := [7]) (by kernel_rfl) (by simp) ?_
  refine AllReadyH.cons rfl (fun K hK => ?_) ?_
  go_simp
  go_wp2_with (go_at_call 27; (with_reducible refine Calls.mono (C1.out _) ?_); rintro e1 wd ⟨rfl, hb13⟩)
  have hle := Nat.le_of_lt KP.out.lt
  replace KP := Lib.hid (KP.out.bw hb13)
  refine hK.out _ _ (hS.trans (Kx.of_bw hb13 hle)) (fun hS => ?_)
  clear hK K
  clear hb13 hle
  refine wpAnyH_ready (rs := [11]) (by kernel_rfl) (by simp) ?_
  refine AllReadyH.cons rfl (fun K hK => ?_) ?_
  go_simp
  go_wp2_with (go_at_call 27; (with_reducible refine Calls.mono (C2.out _) ?_); rintro e1 wd ⟨rfl, hb13⟩)
  have hle := Nat.le_of_lt KP.out.lt
  replace KP := Lib.hid (KP.out.bw hb13)
  refine hK.out _ _ (hS.trans (Kx.of_bw hb13 hle)) (fun hS => ?_)
  clear hK K
  clear hb13 hle
  refine take1 (i := 12) (some 30) rfl rfl (by kernel_rfl) (by kernel_rfl) (by kernel_rfl) (fun _ _ _ _ h => h) rfl hS ?_
  apply Exists.intro
  apply And.intro
  · intro W9 hW9; skip; go_simp; try with_reducible rfl
  simp only [Act.put, List.setIfInBounds_toArray, List.set_cons_zero, List.set_cons_succ]
  refine wpAnyH_ready (rs := [13]) (by kernel_rfl) (by simp) ?_
  refine AllReadyH.cons rfl (fun K hK => ?_) ?_
  rw [if_pos (by rfl)]
  have hst := Kx.row KP.out.lt #[.int .i64 p0, .int .i64 p1, .int .i64 p2]
  refine wp_store_row0 27 _ _ rfl rfl (g + 1) #[.int .i64 p0, .int .i64 p1, .int .i64 p2] rfl rfl 27 _ KP.out (by kernel_rfl) rfl (by simp [Value.oneCell']) ?_
  replace KP := Lib.hid (KP.out.row #[.int .i64 p0, .int .i64 p1, .int .i64 p2])
  refine hK.out _ _ (hS.trans hst) (fun hS => ?_)
  clear hK K
  clear hst
  refine take1 (i := 14) (some 5) rfl rfl (by kernel_rfl) (by kernel_rfl) (by kernel_rfl) (fun _ _ _ _ h => h) rfl hS ?_
  apply Exists.intro
  apply And.intro
  · intro W9 hW9; skip; go_simp; try with_reducible rfl
  simp only [Act.put, List.setIfInBounds_toArray, List.set_cons_zero, List.set_cons_succ]
  refine wpAnyH_done (by kernel_rfl) ?_ _
  rotate_left
  exact AllReadyH.nil
  exact AllReadyH.nil
  exact AllReadyH.nil
  exact AllReadyH.nil
  all_goals
    go_wp2
    refine bodyPost_ret (v := .tuple #[.agg #[.int .i64 p0, .int .i64 p1, .int .i64 p2], .int .i64 0]) ?_ rfl ⟨by rw [HR3.out], hS.bw HW.out (by have := HG.out; omega)⟩
    exact results_two_row (p := 4) (u := 5) rfl _ _ (g + 1) _ rfl (run_loadVar_row _ (g + 1) 27 27 #[.int .i64 p0, .int .i64 p1, .int .i64 p2] (0, 0) _ KP.out Try.underlying27 rfl (by kernel_rfl))
theorem RVelocity28_any (X : Nat → Int) (t : Int) (w : World) : Calls Try.prog 10 #[.agg (eV X), .int .i64 t] w fun e w' => e = .returned (.tuple #[.agg (l3V (vsE X t)), .int .i64 (atE X t).2]) ∧ Bw w w' := by
  have AT := Lib.hid (fun W => rdist28_any X t W)
  have KX := Lib.hid ((Blk.new w 25 (eV X)).alloc (.cells #[.int .i64 0, .int .i64 0, .int .i64 0] 27))
  have KP := Lib.hid (show Blk ((w.alloc (.cells (eV X) 25)).alloc (.cells #[.int .i64 0, .int .i64 0, .int .i64 0] 27)) (w.heap.size + 1) 27 #[.int .i64 0, .int .i64 0, .int .i64 0] from by have h9 := Blk.new (w.alloc (.cells (eV X) 25)) 27 #[.int .i64 0, .int .i64 0, .int .i64 0]; simp only [World.size_alloc] at h9; exact h9)
  have HW := Lib.hid (Bw.alloc (Bw.alloc (Bw.refl w) (.cells (eV X) 25)) (.cells #[.int .i64 0, .int .i64 0, .int .i64 0] 27))
  have HSZ : Hid ((Try.prog.info? 25).map (·.size) = some (eV X).size) := Lib.hid (by kernel_rfl)
  have R0 := Lib.hid (fun W (hB : Blk W w.heap.size 25 (eV X)) => ax_r7 hB)
  have R1 := Lib.hid (fun W (hB : Blk W w.heap.size 25 (eV X)) => ax_r11 hB)
  have R2 := Lib.hid (fun W (hB : Blk W w.heap.size 25 (eV X)) => ax_r15 hB)
  obtain ⟨g, hg⟩ : ∃ g, w.heap.size = g := ⟨_, rfl⟩
  rw [hg] at KX KP R0 R1 R2
  have HG := Lib.hid hg
  have HOK := Lib.hid (fun h => atE_ok (X := X) (t := t) h)
  have HBD := Lib.hid (fun (h : errE X = 0) j hj => ax_bd h j hj)
  have HPS := Lib.hid (show ∀ j, vsE X t j = if (atE X t).2 = 0 then vlQ X (atE X t).1 j else 0 from fun j => rfl)
  generalize vsE X t = PSF at *
  generalize atE X t = R at *
  obtain ⟨d, er⟩ := R
  dsimp only at AT HOK HPS
  obtain ⟨A, hA⟩ : ∃ A, A = eV X := ⟨_, rfl⟩
  rw [← hA] at AT KX KP HW HSZ R0 R1 R2 ⊢
  clear hA
  go_enter Try.func10, Try.ntmps10
  go_upto_region 1 with fail
  obtain ⟨W0, hW0⟩ : ∃ W0, (w.alloc (.cells A 25)).alloc (.cells #[.int .i64 0, .int .i64 0, .int .i64 0] 27) = W0 := ⟨_, rfl⟩
  rw [hW0] at KX KP HW ⊢
  clear hW0 hg
  go_upto_region 2 with (first | ((with_reducible refine at_load 25 (.tmp 2) ?_); refine wpList_load_row rfl 25 _ rfl g rfl 25 A (0, 0) _ KX.out Try.underlying25 rfl HSZ.out ?_) | (go_at_call 26; (with_reducible refine Calls.mono (AT.out _) ?_); rintro e1 w1 ⟨rfl, hb1⟩; replace KX := Lib.hid (KX.out.bw hb1); replace KP := Lib.hid (KP.out.bw hb1); replace HW := Lib.hid (HW.out.trans hb1); clear hb1))
  by_cases c1 : er = 0
  case neg =>
    have c1z : (er != 0) = true := by simpa using c1
    have HR := Lib.hid (show l3V PSF = #[.int .i64 0, .int .i64 0, .int .i64 0] from l3V_congr (y := fun _ => 0) (fun j hj => by rw [HPS.out j, if_neg c1]))
    clear c1
    go_wp2_with ((with_reducible refine at_store 27 (.tmp 4) (.tmp 16) ?_); refine wpList_store_row rfl 27 (.tmp 4) (.tmp 16) rfl (g + 1) #[.int .i64 0, .int .i64 0, .int .i64 0] rfl rfl 27 _ KP.out (by kernel_rfl) rfl (by simp [Value.oneCell', l3V]) ?_)
    have F9 := KP.out.row #[.int .i64 0, .int .i64 0, .int .i64 0]
    have B9 := Bw.setRow HW.out (show w.heap.size ≤ g + 1 by have := HG.out; omega) #[.int .i64 0, .int .i64 0, .int .i64 0]
    refine bodyPost_ret (v := .tuple #[.agg #[.int .i64 0, .int .i64 0, .int .i64 0], .int .i64 er]) ?_ rfl ⟨by rw [HR.out], B9⟩
    exact results_two_row (p := 4) (u := 5) rfl _ _ (g + 1) _ rfl (run_loadVar_row _ (g + 1) 27 27 #[.int .i64 0, .int .i64 0, .int .i64 0] (0, 0) _ F9 Try.underlying27 rfl (by kernel_rfl))
  obtain ⟨hx, hd⟩ := HOK.out c1
  subst c1
  have HBX := Lib.hid (HBD.out hx)
  have HDD := Lib.hid hd
  have HPJ := Lib.hid (show ∀ j, PSF j = vlQ X d j from fun j => by rw [HPS.out j, if_pos rfl])
  clear hx hd HBD HOK HPS AT
  obtain ⟨a0, a1, a2, a3⟩ := HBX.out 0 (by omega)
  obtain ⟨b0, b1, b2, b3⟩ := HBX.out 1 (by omega)
  obtain ⟨c0, c1, c2, c3⟩ := HBX.out 2 (by omega)
  simp only [Nat.mul_zero, Nat.add_zero, Nat.mul_one, show 7 + 4 * 2 = 15 from rfl, show 7 + 4 = 11 from rfl, show 7 + 1 = 8 from rfl, show 7 + 2 = 9 from rfl, show 7 + 3 = 10 from rfl, show 11 + 1 = 12 from rfl, show 11 + 2 = 13 from rfl, show 11 + 3 = 14 from rfl, show 15 + 1 = 16 from rfl, show 15 + 2 = 17 from rfl, show 15 + 3 = 18 from rfl] at a0 a1 a2 a3 b0 b1 b2 b3 c0 c1 c2 c3
  have C0 := Lib.hid (fun W => rvel_any (X 7) (X 8) (X 9) (X 10) d W a1 a2 a3 HDD.out)
  have C1 := Lib.hid (fun W => rvel_any (X 11) (X 12) (X 13) (X 14) d W b1 b2 b3 HDD.out)
  have C2 := Lib.hid (fun W => rvel_any (X 15) (X 16) (X 17) (X 18) d W c1 c2 c3 HDD.out)
  have HR3 := Lib.hid (show l3V PSF = #[.int .i64 (velQ (X 8) (X 9) (X 10) d), .int .i64 (velQ (X 12) (X 13) (X 14) d), .int .i64 (velQ (X 16) (X 17) (X 18) d)] by unfold l3V; rw [HPJ.out 0, HPJ.out 1, HPJ.out 2]; rfl)
  clear a0 a1 a2 a3 b0 b1 b2 b3 c0 c1 c2 c3 HPJ HBX
  generalize velQ (X 8) (X 9) (X 10) d = p0 at *
  generalize velQ (X 12) (X 13) (X 14) d = p1 at *
  generalize velQ (X 16) (X 17) (X 18) d = p2 at *
  generalize X 7 = y00 at *
  generalize X 8 = y01 at *
  generalize X 9 = y02 at *
  generalize X 10 = y03 at *
  generalize X 11 = y10 at *
  generalize X 12 = y11 at *
  generalize X 13 = y12 at *
  generalize X 14 = y13 at *
  generalize X 15 = y20 at *
  generalize X 16 = y21 at *
  generalize X 17 = y22 at *
  generalize X 18 = y23 at *
  go_upto_region 4 with fail
  refine wp_region_held_drew (S := Kx (g + 1) w1) (by kernel_rfl) (Kx.of_bw (Bw.drew (Bw.refl _)) (Nat.le_of_lt KP.out.lt)) (fun hS => ?_)
  replace KP := Lib.hid (KP.out.bw (Bw.drew (Bw.refl _)))
  generalize World.drew _ = wd at hS KP ⊢
  refine take1 (i := 0) (some 18) rfl rfl (by kernel_rfl) (by kernel_rfl) (by kernel_rfl) (fun _ _ _ _ h => h) rfl hS ?_
  apply Exists.intro
  apply And.intro
  · intro W9 hW9; skip; go_simp; try with_reducible rfl
  simp only [Act.put, List.setIfInBounds_toArray, List.set_cons_zero, List.set_cons_succ]
  refine take1 (i := 1) (some 19) rfl rfl (by kernel_rfl) (by kernel_rfl) (by kernel_rfl) (fun _ _ _ _ h => h) rfl hS ?_
  refine Exists.intro (.agg #[.int .i64 y00, .int .i64 y01, .int .i64 y02, .int .i64 y03]) ?_
  apply And.intro
  · intro W9 hW9; skip; exact run_load_ax _ rfl g 7 rfl (R0.out _ (hW9.blk KX.out (by omega)))
  simp only [Act.put, List.setIfInBounds_toArray, List.set_cons_zero, List.set_cons_succ]
  refine take1 (i := 2) (some 20) rfl rfl (by kernel_rfl) (by kernel_rfl) (by kernel_rfl) (fun _ _ _ _ h => h) rfl hS ?_
  apply Exists.intro
  apply And.intro
  · intro W9 hW9; skip; go_simp; try with_reducible rfl
  simp only [Act.put, List.setIfInBounds_toArray, List.set_cons_zero, List.set_cons_succ]
  refine take1 (i := 4) (some 22) rfl rfl (by kernel_rfl) (by kernel_rfl) (by kernel_rfl) (fun _ _ _ _ h => h) rfl hS ?_
  apply Exists.intro
  apply And.intro
  · intro W9 hW9; skip; go_simp; try with_reducible rfl
  simp only [Act.put, List.setIfInBounds_toArray, List.set_cons_zero, List.set_cons_succ]
  refine take1 (i := 5) (some 23) rfl rfl (by kernel_rfl) (by kernel_rfl) (by kernel_rfl) (fun _ _ _ _ h => h) rfl hS ?_
  refine Exists.intro (.agg #[.int .i64 y10, .int .i64 y11, .int .i64 y12, .int .i64 y13]) ?_
  apply And.intro
  · intro W9 hW9; skip; exact run_load_ax _ rfl g 11 rfl (R1.out _ (hW9.blk KX.out (by omega)))
  simp only [Act.put, List.setIfInBounds_toArray, List.set_cons_zero, List.set_cons_succ]
  refine take1 (i := 6) (some 24) rfl rfl (by kernel_rfl) (by kernel_rfl) (by kernel_rfl) (fun _ _ _ _ h => h) rfl hS ?_
  apply Exists.intro
  apply And.intro
  · intro W9 hW9; skip; go_simp; try with_reducible rfl
  simp only [Act.put, List.setIfInBounds_toArray, List.set_cons_zero, List.set_cons_succ]
  refine take1 (i := 8) (some 26) rfl rfl (by kernel_rfl) (by kernel_rfl) (by kernel_rfl) (fun _ _ _ _ h => h) rfl hS ?_
  apply Exists.intro
  apply And.intro
  · intro W9 hW9; skip; go_simp; try with_reducible rfl
  simp only [Act.put, List.setIfInBounds_toArray, List.set_cons_zero, List.set_cons_succ]
  refine take1 (i := 9) (some 27) rfl rfl (by kernel_rfl) (by kernel_rfl) (by kernel_rfl) (fun _ _ _ _ h => h) rfl hS ?_
  refine Exists.intro (.agg #[.int .i64 y20, .int .i64 y21, .int .i64 y22, .int .i64 y23]) ?_
  apply And.intro
  · intro W9 hW9; skip; exact run_load_ax _ rfl g 15 rfl (R2.out _ (hW9.blk KX.out (by omega)))
  simp only [Act.put, List.setIfInBounds_toArray, List.set_cons_zero, List.set_cons_succ]
  refine take1 (i := 10) (some 28) rfl rfl (by kernel_rfl) (by kernel_rfl) (by kernel_rfl) (fun _ _ _ _ h => h) rfl hS ?_
  apply Exists.intro
  apply And.intro
  · intro W9 hW9; skip; go_simp; try with_reducible rfl
  simp only [Act.put, List.setIfInBounds_toArray, List.set_cons_zero, List.set_cons_succ]
  refine wpAnyH_ready (rs := [3]) (by kernel_rfl) (by simp) ?_
  refine AllReadyH.cons rfl (fun K hK => ?_) ?_
  go_simp
  go_wp2_with (go_at_call 28; (with_reducible refine Calls.mono (C0.out _) ?_); rintro e1 wd ⟨rfl, hb13⟩)
  have hle := Nat.le_of_lt KP.out.lt
  replace KP := Lib.hid (KP.out.bw hb13)
  refine hK.out _ _ (hS.trans (Kx.of_bw hb13 hle)) (fun hS => ?_)
  clear hK K
  clear hb13 hle
  refine wpAnyH_ready (rs := [7]) (by kernel_rfl) (by simp) ?_
  refine AllReadyH.cons rfl (fun K hK => ?_) ?_
  go_simp
  go_wp2_with (go_at_call 28; (with_reducible refine Calls.mono (C1.out _) ?_); rintro e1 wd ⟨rfl, hb13⟩)
  have hle := Nat.le_of_lt KP.out.lt
  replace KP := Lib.hid (KP.out.bw hb13)
  refine hK.out _ _ (hS.trans (Kx.of_bw hb13 hle)) (fun hS => ?_)
  clear hK K
  clear hb13 hle
  refine wpAnyH_ready (rs := [11]) (by kernel_rfl) (by simp) ?_
  refine AllReadyH.cons rfl (fun K hK => ?_) ?_
  go_simp
  go_wp2_with (go_at_call 28; (with_reducible refine Calls.mono (C2.out _) ?_); rintro e1 wd ⟨rfl, hb13⟩)
  have hle := Nat.le_of_lt KP.out.lt
  replace KP := Lib.hid (KP.out.bw hb13)
  refine hK.out _ _ (hS.trans (Kx.of_bw hb13 hle)) (fun hS => ?_)
  clear hK K
  clear hb13 hle
  refine take1 (i := 12) (some 30) rfl rfl (by kernel_rfl) (by kernel_rfl) (by kernel_rfl) (fun _ _ _ _ h => h) rfl hS ?_
  apply Exists.intro
  apply And.intro
  · intro W9 hW9; skip; go_simp; try with_reducible rfl
  simp only [Act.put, List.setIfInBounds_toArray, List.set_cons_zero, List.set_cons_succ]
  refine wpAnyH_ready (rs := [13]) (by kernel_rfl) (by simp) ?_
  refine AllReadyH.cons rfl (fun K hK => ?_) ?_
  rw [if_pos (by rfl)]
  have hst := Kx.row KP.out.lt #[.int .i64 p0, .int .i64 p1, .int .i64 p2]
  refine wp_store_row0 27 _ _ rfl rfl (g + 1) #[.int .i64 p0, .int .i64 p1, .int .i64 p2] rfl rfl 27 _ KP.out (by kernel_rfl) rfl (by simp [Value.oneCell']) ?_
  replace KP := Lib.hid (KP.out.row #[.int .i64 p0, .int .i64 p1, .int .i64 p2])
  refine hK.out _ _ (hS.trans hst) (fun hS => ?_)
  clear hK K
  clear hst
  refine take1 (i := 14) (some 5) rfl rfl (by kernel_rfl) (by kernel_rfl) (by kernel_rfl) (fun _ _ _ _ h => h) rfl hS ?_
  apply Exists.intro
  apply And.intro
  · intro W9 hW9; skip; go_simp; try with_reducible rfl
  simp only [Act.put, List.setIfInBounds_toArray, List.set_cons_zero, List.set_cons_succ]
  refine wpAnyH_done (by kernel_rfl) ?_ _
  rotate_left
  exact AllReadyH.nil
  exact AllReadyH.nil
  exact AllReadyH.nil
  exact AllReadyH.nil
  all_goals
    go_wp2
    refine bodyPost_ret (v := .tuple #[.agg #[.int .i64 p0, .int .i64 p1, .int .i64 p2], .int .i64 0]) ?_ rfl ⟨by rw [HR3.out], hS.bw HW.out (by have := HG.out; omega)⟩
    exact results_two_row (p := 4) (u := 5) rfl _ _ (g + 1) _ rfl (run_loadVar_row _ (g + 1) 27 27 #[.int .i64 p0, .int .i64 p1, .int .i64 p2] (0, 0) _ KP.out Try.underlying27 rfl (by kernel_rfl))
end Go.Proofs.Sky

namespace Go.Proofs.Sky
open Go Go.RowKit Go.Shelf
set_option maxHeartbeats 4000000
set_option maxRecDepth 8000
/-! chapter 28: the reference's Clock -/
theorem RClock28_any (X : Nat → Int) (t : Int) (w : World) : Calls Try.prog 13 #[.agg (eV X), .int .i64 t] w fun e w' => e = .returned (.tuple #[.int .i64 (ckE X t), .int .i64 (atE X t).2]) ∧ Bw w w' := by
  have AT := Lib.hid (fun W => rdist28_any X t W)
  have KX := Lib.hid (Blk.new w 25 (eV X))
  have HW := Lib.hid (Bw.alloc (Bw.refl w) (.cells (eV X) 25))
  have HSZ : Hid ((Try.prog.info? 25).map (·.size) = some (eV X).size) := Lib.hid (by kernel_rfl)
  have HCX := Lib.hid (fun i (hi : i < 19) => eV_at X i hi)
  obtain ⟨g, hg⟩ : ∃ g, w.heap.size = g := ⟨_, rfl⟩
  rw [hg] at KX
  have HOK := Lib.hid (fun h => atE_ok (X := X) (t := t) h)
  have HBD := Lib.hid (fun (h : errE X = 0) => ck_bd h)
  have HPS := Lib.hid (show ckE X t = if (atE X t).2 = 0 then clkQ (X 4) (X 5) (X 6) (atE X t).1 else 0 from rfl)
  generalize ckE X t = CE at *
  generalize atE X t = R at *
  obtain ⟨d, er⟩ := R
  dsimp only at AT HOK HPS
  obtain ⟨A, hA⟩ : ∃ A, A = eV X := ⟨_, rfl⟩
  rw [← hA] at AT KX HW HSZ HCX ⊢
  clear hA
  go_enter Try.func13, Try.ntmps13
  go_upto_region 1 with fail
  obtain ⟨W0, hW0⟩ : ∃ W0, w.alloc (.cells A 25) = W0 := ⟨_, rfl⟩
  rw [hW0] at KX HW ⊢
  have HG2 := Lib.hid hg
  clear hW0 hg
  go_upto_region 2 with (first | ((with_reducible refine at_load 25 (.tmp 2) ?_); refine wpList_load_row rfl 25 _ rfl g rfl 25 A (0, 0) _ KX.out Try.underlying25 rfl HSZ.out ?_) | (go_at_call 26; (with_reducible refine Calls.mono (AT.out _) ?_); rintro e1 w1 ⟨rfl, hb1⟩; replace KX := Lib.hid (KX.out.bw hb1); replace HW := Lib.hid (HW.out.trans hb1); clear hb1))
  by_cases c1 : er = 0
  case neg =>
    have c1z : (er != 0) = true := by simpa using c1
    have HR := Lib.hid (HPS.out.trans (if_neg c1))
    clear c1
    go_wp2
    refine bodyPost_ret (v := .tuple #[.int .i64 0, .int .i64 er]) ?_ rfl ⟨by rw [HR.out], HW.out⟩
    simp [results, Try.results13, go_sem]
  obtain ⟨hx, hd⟩ := HOK.out c1
  subst c1
  have HR := Lib.hid (HPS.out.trans (if_pos rfl))
  obtain ⟨b0, b1, b2⟩ := HBD.out hx
  have e0 := HCX.out 4 (by omega)
  have e1 := HCX.out 5 (by omega)
  have e2 := HCX.out 6 (by omega)
  have hbd := (clk3 b0 b1 b2 hd).2
  rw [← zW_abs, clk3_z] at hbd
  have hcs := clk_sum (X 4) (X 5) (X 6) d
  clear hx HBD HOK HPS AT HCX
  generalize X 4 = k0 at *
  generalize X 5 = k1 at *
  generalize X 6 = k2 at *
  obtain ⟨S, hS⟩ : ∃ S : Int, S = 299792458 * k0 * 1000000000 * 1000000000 * 1099511627776 + 299792458 * k1 * d * 1000000000 * 16777216 + 299792458 * k2 * d * d := ⟨_, rfl⟩
  rw [← hS] at hcs
  have HS1 := Lib.hid (show prodI [299792458, k0, 1000000000, 1000000000, 1099511627776] + prodI [299792458, k1, d, 1000000000, 16777216] + prodI [299792458, k2, d, d] = S by rw [hS]; simp [prodI])
  have HBD : Hid (S.natAbs ≤ 708168710917889191074735325184000000000000000000) := Lib.hid (by rw [← hcs]; omega)
  replace HR := Lib.hid (show CE = rndQ S 1125899906842624000000000000000000000000 by rw [HR.out]; unfold clkQ; rw [← hS])
  clear hS hbd hcs
  have PR := Lib.hid (fun g base U D vl ls W a1 a2 a3 a4 a5 a6 a7 a8 => Product_any g base U D vl ls W a1 a2 a3 a4 a5 a6 a7 a8)
  unfold ProdP at PR
  have RO := Lib.hid (fun g base U D vl ls W S P a1 a2 a3 a4 a5 a6 a7 a8 a9 => Rounded_any g base U D vl ls W a1 a2 a3 a4 a5 a6 S P a7 a8 a9)
  have hb1 := Bw.alloc (Bw.refl w1) (.cells #[.slice none 0 0, .slice none 0 0] 62)
  have BA := Lib.hid (Blk.new w1 62 #[.slice none 0 0, .slice none 0 0])
  have HSZ2 := Lib.hid (show (w1.alloc (.cells #[.slice none 0 0, .slice none 0 0] 62)).heap.size = w1.heap.size + 1 by simp)
  have HGA := Lib.hid (show g < w1.heap.size from KX.out.lt)
  replace KX := Lib.hid (KX.out.bw hb1)
  replace HW := Lib.hid (HW.out.trans hb1)
  clear hb1
  obtain ⟨ga, hga⟩ : ∃ ga, w1.heap.size = ga := ⟨_, rfl⟩
  rw [hga] at BA HSZ2 HGA
  go_upto_region 5 with fail
  obtain ⟨v0, hv0⟩ : ∃ v0, w1.alloc (.cells #[.slice none 0 0, .slice none 0 0] 62) = v0 := ⟨_, rfl⟩
  rw [hv0] at KX BA HSZ2 HW ⊢
  clear hv0 hga
  have SA : Hid (SumAt v0 ga (ga + 1) 0 0) := Lib.hid ⟨_, _, BA.out, Wd.zero _ _, Wd.zero _ _⟩
  replace HSZ2 := Lib.hid (Nat.le_of_eq HSZ2.out.symm)
  clear BA
  have HWG := Lib.hid (show w.heap.size ≤ ga by have := HG2.out; have := HGA.out; omega)
  have q0 := KX.out.cell e0
  have q1 := KX.out.cell e1
  have q2 := KX.out.cell e2
  go_upto_region 6 with (go_at_call 32; (with_reducible refine Calls.mono (PR.out ga (ga + 1) 0 0 _ [299792458, k0, 1000000000, 1000000000, 1099511627776] _ (SA.out.bw (Bw.alloc (Bw.refl v0) (.cells #[.int .i64 (299792458), .int .i64 (k0), .int .i64 (1000000000), .int .i64 (1000000000), .int .i64 (1099511627776)] 3))) (by omega) ?_ ?_ (by simp) (by intro y hy; simp at hy; omega) (by decide) (by decide)) ?_); (focus (have := HSZ2.out; simp only [World.size_alloc]; omega)); (focus exact RdI.litN _ _ _ [299792458, k0, 1000000000, 1000000000, 1099511627776] _ (by simp) (by rfl) (by simp)); rintro e1 v1 ⟨rfl, hk9, U1, D1, hs9, hu9, hd9⟩)
  clear q0 q1 q2
  replace hk9 := (Kx.of_bw (g := ga) (Bw.alloc (Bw.refl v0) (.cells #[.int .i64 (299792458), .int .i64 (k0), .int .i64 (1000000000), .int .i64 (1000000000), .int .i64 (1099511627776)] 3)) (by have := HSZ2.out; omega)).trans hk9
  replace HW := Lib.hid (hk9.bw HW.out HWG.out)
  replace KX := Lib.hid (hk9.blk KX.out (by have := HGA.out; omega))
  replace SA := Lib.hid hs9
  replace HSZ2 := Lib.hid (Nat.le_trans HSZ2.out hk9.size)
  have hp9 := prod_ab28 [299792458, k0, 1000000000, 1000000000, 1099511627776] (by intro y hy; simp at hy; omega) (by simp)
  have HE1 := Lib.hid hu9
  have HLa : Hid (U1 + D1 ≤ 1 * 1000000000000000000000000000000000000000000000000000000000000000000000000000000000000000000000000000000000000000000000000 ∧ 0 ≤ U1 ∧ 0 ≤ D1) := Lib.hid ⟨by omega, by obtain ⟨_, _, _, q1, q2⟩ := hs9; exact q1.pos, by obtain ⟨_, _, _, q1, q2⟩ := hs9; exact q2.pos⟩
  clear hk9 hs9 hu9 hd9 hp9
  have q0 := KX.out.cell e0
  have q1 := KX.out.cell e1
  have q2 := KX.out.cell e2
  go_upto_region 7 with (go_at_call 32; (with_reducible refine Calls.mono (PR.out ga (ga + 1) U1 D1 _ [299792458, k1, d, 1000000000, 16777216] _ (SA.out.bw (Bw.alloc (Bw.refl v1) (.cells #[.int .i64 (299792458), .int .i64 (k1), .int .i64 (d), .int .i64 (1000000000), .int .i64 (16777216)] 3))) (by omega) ?_ ?_ (by simp) (by intro y hy; simp at hy; omega) (by have := HLa.out; omega) (by have := HLa.out; omega)) ?_); (focus (have := HSZ2.out; simp only [World.size_alloc]; omega)); (focus exact RdI.litN _ _ _ [299792458, k1, d, 1000000000, 16777216] _ (by simp) (by rfl) (by simp)); rintro e1 v2 ⟨rfl, hk9, U2, D2, hs9, hu9, hd9⟩)
  clear q0 q1 q2
  replace hk9 := (Kx.of_bw (g := ga) (Bw.alloc (Bw.refl v1) (.cells #[.int .i64 (299792458), .int .i64 (k1), .int .i64 (d), .int .i64 (1000000000), .int .i64 (16777216)] 3)) (by have := HSZ2.out; omega)).trans hk9
  replace HW := Lib.hid (hk9.bw HW.out HWG.out)
  replace KX := Lib.hid (hk9.blk KX.out (by have := HGA.out; omega))
  replace SA := Lib.hid hs9
  replace HSZ2 := Lib.hid (Nat.le_trans HSZ2.out hk9.size)
  have hp9 := prod_ab28 [299792458, k1, d, 1000000000, 16777216] (by intro y hy; simp at hy; omega) (by simp)
  have HE2 := Lib.hid hu9
  replace HLa : Hid (U2 + D2 ≤ 2 * 1000000000000000000000000000000000000000000000000000000000000000000000000000000000000000000000000000000000000000000000000 ∧ 0 ≤ U2 ∧ 0 ≤ D2) := Lib.hid ⟨by have := HLa.out; omega, by obtain ⟨_, _, _, q1, q2⟩ := hs9; exact q1.pos, by obtain ⟨_, _, _, q1, q2⟩ := hs9; exact q2.pos⟩
  clear hk9 hs9 hu9 hd9 hp9
  have q0 := KX.out.cell e0
  have q1 := KX.out.cell e1
  have q2 := KX.out.cell e2
  go_upto_region 8 with (go_at_call 32; (with_reducible refine Calls.mono (PR.out ga (ga + 1) U2 D2 _ [299792458, k2, d, d] _ (SA.out.bw (Bw.alloc (Bw.refl v2) (.cells #[.int .i64 (299792458), .int .i64 (k2), .int .i64 (d), .int .i64 (d)] 3))) (by omega) ?_ ?_ (by simp) (by intro y hy; simp at hy; omega) (by have := HLa.out; omega) (by have := HLa.out; omega)) ?_); (focus (have := HSZ2.out; simp only [World.size_alloc]; omega)); (focus exact RdI.litN _ _ _ [299792458, k2, d, d] _ (by simp) (by rfl) (by simp)); rintro e1 v3 ⟨rfl, hk9, U3, D3, hs9, hu9, hd9⟩)
  clear q0 q1 q2
  replace hk9 := (Kx.of_bw (g := ga) (Bw.alloc (Bw.refl v2) (.cells #[.int .i64 (299792458), .int .i64 (k2), .int .i64 (d), .int .i64 (d)] 3)) (by have := HSZ2.out; omega)).trans hk9
  replace HW := Lib.hid (hk9.bw HW.out HWG.out)
  replace KX := Lib.hid (hk9.blk KX.out (by have := HGA.out; omega))
  replace SA := Lib.hid hs9
  replace HSZ2 := Lib.hid (Nat.le_trans HSZ2.out hk9.size)
  have hp9 := prod_ab28 [299792458, k2, d, d] (by intro y hy; simp at hy; omega) (by simp)
  have HE3 := Lib.hid hu9
  replace HLa : Hid (U3 + D3 ≤ 3 * 1000000000000000000000000000000000000000000000000000000000000000000000000000000000000000000000000000000000000000000000000 ∧ 0 ≤ U3 ∧ 0 ≤ D3) := Lib.hid ⟨by have := HLa.out; omega, by obtain ⟨_, _, _, q1, q2⟩ := hs9; exact q1.pos, by obtain ⟨_, _, _, q1, q2⟩ := hs9; exact q2.pos⟩
  clear hk9 hs9 hu9 hd9 hp9
  have HSa := Lib.hid (show S = U3 - D3 by have q1 := HE1.out; have q2 := HE2.out; have q3 := HE3.out; have q9 := HS1.out; omega)
  clear HE1 HE2 HE3
  go_wp2_with (go_at_call 33; (with_reducible refine Calls.mono (RO.out ga (ga + 1) U3 D3 _ [1000000000, 1000000000, 33554432, 32768, 1024, 1000000] _ S 1125899906842624000000000000000000000000 (SA.out.bw (Bw.alloc (Bw.refl v3) (.cells #[.int .i64 1000000000, .int .i64 1000000000, .int .i64 33554432, .int .i64 32768, .int .i64 1024, .int .i64 1000000] 3))) ?_ (by decide) (by intro y hy; simp at hy; omega) (by have := HLa.out; omega) (by have := HLa.out; omega) HSa.out (by decide) ?_) ?_); (focus exact RdI.litN _ _ _ [1000000000, 1000000000, 33554432, 32768, 1024, 1000000] _ (by simp) (by rfl) (by simp)); (focus (have := HBD.out; omega)); rintro e1 w9 ⟨rfl, hb9⟩; replace hb9 := (Bw.alloc (Bw.refl v3) (.cells #[.int .i64 1000000000, .int .i64 1000000000, .int .i64 33554432, .int .i64 32768, .int .i64 1024, .int .i64 1000000] 3)).trans hb9; replace HW := Lib.hid (HW.out.trans hb9); clear hb9)
  refine bodyPost_ret (v := .tuple #[.int .i64 (rndQ S 1125899906842624000000000000000000000000), .int .i64 0]) ?_ rfl ⟨by rw [HR.out], HW.out⟩
  simp [results, Try.results13, go_sem]
end Go.Proofs.Sky
