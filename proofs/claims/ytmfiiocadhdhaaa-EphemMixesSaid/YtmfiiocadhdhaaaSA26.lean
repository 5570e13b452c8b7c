/-
  lemmas for the theorems of this claim. No conditions beyond those written in the statements.
-/
import Derived.Test.YtmfiiocadhdhaaaN26
import Derived.Test.YtmfiiocadhdhaaaRdAt
import Derived.Deep.Cut
import Derived.Test.YtmfiiocadhdhaaaPB26
import Derived.Test.YtmfiiocadhdhaaaG26
import Derived.Test.YtmfiiocadhdhaaaJ26
set_option linter.unusedVariables false
set_option linter.unusedSimpArgs false
set_option linter.unnecessarySimpa false
namespace Go.Proofs.Sky
open Go Go.RowKit Go.Shelf
set_option maxHeartbeats 4000000
set_option maxRecDepth 8000
section
variable {P : Program} {ops : Array Oper} {Q : Exit → Act → World → Prop}
theorem wp_alloc_new {o : Oper} {a : Act} {w : World} {K : Act → World → Prop} (ty : TypeId) (ho : o.op = .alloc ty) (dst : Option Tmp) (hd : o.dst = dst) (cs : Array Value) (hz : (zeroValue ty).run P w = .ok (.agg cs) w)
    (h : ∀ g w', w.heap.size ≤ g → Blk w' g ty cs → Bw w w' → K (a.put dst (.pointer (some ⟨g, 0, none⟩))) w') : o.wp P a w K Q :=
  wp_alloc_agg ty ho dst hd cs hz (h _ _ (Nat.le_refl _) (Blk.new w ty cs) (Bw.alloc (Bw.refl w) _))
end
theorem zeroEp (w : World) : (zeroValue 25).run Try.prog w = .ok (.agg #[.int .i64 0, .int .i64 0, .int .i64 0, .int .i64 0, .int .i64 0, .int .i64 0, .int .i64 0, .int .i64 0, .int .i64 0, .int .i64 0, .int .i64 0, .int .i64 0, .int .i64 0, .int .i64 0, .int .i64 0, .int .i64 0, .int .i64 0, .int .i64 0, .int .i64 0]) w := by kernel_rfl
theorem quiet_load {P : Program} {o : Oper} {a : Act} {C : World → Prop} {K : Act → Prop} (v : Value) (dst : Option Tmp) (hd : o.dst = dst) (hv : ∀ w, C w → (execOp a.eval o).run P w = .ok (.value v) w) (h : K (a.put dst v)) : o.quiet P a C K := by
  subst hd
  refine ⟨v, fun w hw => ?_, h⟩
  unfold Oper.quietAt Oper.quietUpon
  rw [hv w hw]
  exact ⟨rfl, rfl⟩
theorem plV : eV (plE 7) = #[.int .i64 1, .int .i64 7, .int .i64 100, .int .i64 0, .int .i64 0, .int .i64 0, .int .i64 0, .int .i64 0, .int .i64 0, .int .i64 0, .int .i64 0, .int .i64 0, .int .i64 0, .int .i64 0, .int .i64 0, .int .i64 0, .int .i64 0, .int .i64 0, .int .i64 0] := by kernel_rfl
theorem fr3 {x : Nat → Int} {tow : Int} {fs : List Fr} (h : fs.map (fun f => (f.t, f.k, f.l)) = (List.range 3).map (frK x tow)) : ∃ d0 d1 d2, fs = [⟨(tow + (0 : Nat)) % 131072, (0 : Nat) + 1, d0, FrE x 0⟩, ⟨(tow + (1 : Nat)) % 131072, (1 : Nat) + 1, d1, FrE x 1⟩, ⟨(tow + (2 : Nat)) % 131072, (2 : Nat) + 1, d2, FrE x 2⟩] := by
  have hl : fs.length = 3 := by have h9 := congrArg List.length h; simpa using h9
  match fs, hl with
  | [⟨t0, k0, d0, l0⟩, ⟨t1, k1, d1, l1⟩, ⟨t2, k2, d2, l2⟩], _ =>
    rw [show List.range 3 = [0, 1, 2] from rfl] at h
    simp only [List.map_cons, List.map_nil, frK, List.cons.injEq, Prod.mk.injEq, and_true] at h
    obtain ⟨⟨a1, a2, a3⟩, ⟨b1, b2, b3⟩, c1, c2, c3⟩ := h
    exact ⟨d0, d1, d2, by rw [a1, a2, a3, b1, b2, b3, c1, c2, c3]⟩
theorem OwFr.lit {w : World} {base : Nat} {v : Value} {fs : List Fr} (h : OwFr w base v fs) (h0 : 0 < fs.length) : ∃ g cap, v = .slice (some ⟨g, 0, none⟩) fs.length cap ∧ base ≤ g ∧ ∀ i f, fs[i]? = some f → ∀ j, j < 3 → w.cell? ⟨g, i * 3 + j, none⟩ = (frc f)[j]? := by
  rcases h.own.2 with ⟨rfl, h2⟩ | ⟨g, cap, cur, rfl, hg, hh, hnc, _⟩
  · omega
  · refine ⟨g, cap, rfl, hg, fun i f hi j hj => ?_⟩
    have hil : i < fs.length := (List.getElem?_eq_some_iff.1 hi).1
    exact (h.own.cellAt (i * 3 + j) (by omega)).trans (flatR_at fs i f hi j hj)
theorem RdFr.three {w : World} (g : Nat) (t0 k0 t1 k1 t2 k2 : Int) (d0 d1 d2 : Value) (l0 l1 l2 : List Int) (hB : Blk w g 47 #[.int .i64 t0, .int .i64 k0, d0, .int .i64 t1, .int .i64 k1, d1, .int .i64 t2, .int .i64 k2, d2])
    (h0 : RdI w d0 l0 ∧ Capd d0) (h1 : RdI w d1 l1 ∧ Capd d1) (h2 : RdI w d2 l2 ∧ Capd d2) : RdFr w (.slice (some ⟨g, 0, none⟩) 3 3) [⟨t0, k0, d0, l0⟩, ⟨t1, k1, d1, l1⟩, ⟨t2, k2, d2, l2⟩] := by
  refine ⟨by simp, fun f hf => ?_, _, 3, rfl, by simp, by omega, .inr ⟨g, 0, rfl, hB.lt, fun i f hi => ?_⟩⟩
  · simp only [List.mem_cons, List.not_mem_nil, or_false] at hf
    rcases hf with rfl | rfl | rfl
    · exact h0
    · exact h1
    · exact h2
  · match i, hi with
    | 0, hi => obtain rfl := Option.some.inj hi; exact ⟨hB.cell (j := 0) rfl, hB.cell (j := 1) rfl, hB.cell (j := 2) rfl⟩
    | 1, hi => obtain rfl := Option.some.inj hi; exact ⟨hB.cell (j := 3) rfl, hB.cell (j := 4) rfl, hB.cell (j := 5) rfl⟩
    | 2, hi => obtain rfl := Option.some.inj hi; exact ⟨hB.cell (j := 6) rfl, hB.cell (j := 7) rfl, hB.cell (j := 8) rfl⟩
    | i + 3, hi => simp at hi
theorem awake_any (w : World) : Calls Try.prog 16 #[] w fun e w' => e = .returned (.bool true) ∧ Bw w w' := by
  have PL : Hid (∀ W, Calls Try.prog 23 #[.int .i64 7] W fun e w' => e = .returned (.agg #[.int .i64 1, .int .i64 7, .int .i64 100, .int .i64 0, .int .i64 0, .int .i64 0, .int .i64 0, .int .i64 0, .int .i64 0, .int .i64 0, .int .i64 0, .int .i64 0, .int .i64 0, .int .i64 0, .int .i64 0, .int .i64 0, .int .i64 0, .int .i64 0, .int .i64 0]) ∧ Bw W w') := Lib.hid (fun W => by have h9 := plain_any 7 W; rw [plV] at h9; exact h9)
  have FR := Lib.hid (fun W => frames_any (plE 7) 131071 W plE_ok (by decide))
  have FT : Hid (∀ W, Calls Try.prog 9 #[.agg #[.int .i64 1, .int .i64 7, .int .i64 100, .int .i64 0, .int .i64 0, .int .i64 0, .int .i64 0, .int .i64 0, .int .i64 0, .int .i64 0, .int .i64 0, .int .i64 0, .int .i64 0, .int .i64 0, .int .i64 0, .int .i64 0, .int .i64 0, .int .i64 0, .int .i64 0], .int .i64 7301] W fun e w' => e = .returned (.tuple #[.bool false, .int .i64 0]) ∧ Bw W w') := Lib.hid (fun W => by have h9 := EFits_any (plE 7) 7301 W; rw [plV, plE_fits.1, plE_fits.2] at h9; exact h9)
  have RD : Hid (∀ W v a b c, RdFr W v [⟨1, 3, a, FrE (plE 7) 2⟩, ⟨131071, 1, b, FrE (plE 7) 0⟩, ⟨0, 2, c, FrE (plE 7) 1⟩] → Calls Try.prog 18 #[v] W fun e w' => e = .returned (.tuple #[.agg #[.int .i64 1, .int .i64 7, .int .i64 100, .int .i64 0, .int .i64 0, .int .i64 0, .int .i64 0, .int .i64 0, .int .i64 0, .int .i64 0, .int .i64 0, .int .i64 0, .int .i64 0, .int .i64 0, .int .i64 0, .int .i64 0, .int .i64 0, .int .i64 0, .int .i64 0], .int .i64 0]) ∧ Bw W w') := Lib.hid (fun W v a b c hv => by have h9 := ERead_any [pF a 2, pF b 0, pF c 1] v W (by have e9 : [pF a 2, pF b 0, pF c 1] = [⟨1, 3, a, FrE (plE 7) 2⟩, ⟨131071, 1, b, FrE (plE 7) 0⟩, ⟨0, 2, c, FrE (plE 7) 1⟩] := (by simp [pF]); rw [e9]; exact hv); rw [read_pl1, read_pl2, plV] at h9; exact h9)
  rw [plV] at FR
  go_enter Try.func16, Try.ntmps16
  go_upto_region 2 with (first | (go_at_call 23; (with_reducible refine Calls.mono (PL.out _) ?_); rintro e1 w1 ⟨rfl, hb1⟩) | (go_at_call 25; (with_reducible refine Calls.mono (FR.out _) ?_); rintro e1 w2 ⟨⟨v, fs, rfl, hO, hM⟩, hb2⟩; obtain ⟨d0, d1, d2, rfl⟩ := fr3 hM; clear hM; obtain ⟨g, c, rfl, hg, hcl⟩ := hO.lit (by simp)))
  have HBW := Lib.hid (hb1.trans hb2)
  have D0 := hO.rd _ (.head _)
  have D1 := hO.rd _ (.tail _ (.head _))
  have D2 := hO.rd _ (.tail _ (.tail _ (.head _)))
  dsimp only at D0 D1 D2
  obtain ⟨r0, r0c, _⟩ := D0
  obtain ⟨r1, r1c, _⟩ := D1
  obtain ⟨r2, r2c, _⟩ := D2
  have R0 := Lib.hid (And.intro r0 r0c)
  have R1 := Lib.hid (And.intro r1 r1c)
  have R2 := Lib.hid (And.intro r2 r2c)
  obtain ⟨a0, c0, rfl⟩ := r0.form
  obtain ⟨a1, c1, rfl⟩ := r1.form
  obtain ⟨a2, c2, rfl⟩ := r2.form
  clear r0 r1 r2 r0c r1c r2c hO hb1 hb2
  have q0 : w2.cell? ⟨g, 0, none⟩ = some (.int .i64 131071) := hcl 0 _ rfl 0 (by omega)
  have q1 : w2.cell? ⟨g, 1, none⟩ = some (.int .i64 1) := hcl 0 _ rfl 1 (by omega)
  have q2 : w2.cell? ⟨g, 2, none⟩ = some (.slice a0 (FrE (plE 7) 0).length c0) := hcl 0 _ rfl 2 (by omega)
  have q3 : w2.cell? ⟨g, 3, none⟩ = some (.int .i64 0) := hcl 1 _ rfl 0 (by omega)
  have q4 : w2.cell? ⟨g, 4, none⟩ = some (.int .i64 2) := hcl 1 _ rfl 1 (by omega)
  have q5 : w2.cell? ⟨g, 5, none⟩ = some (.slice a1 (FrE (plE 7) 1).length c1) := hcl 1 _ rfl 2 (by omega)
  have q6 : w2.cell? ⟨g, 6, none⟩ = some (.int .i64 1) := hcl 2 _ rfl 0 (by omega)
  have q7 : w2.cell? ⟨g, 7, none⟩ = some (.int .i64 3) := hcl 2 _ rfl 1 (by omega)
  have q8 : w2.cell? ⟨g, 8, none⟩ = some (.slice a2 (FrE (plE 7) 2).length c2) := hcl 2 _ rfl 2 (by omega)
  clear hcl hg
  have R0 := Lib.hid (show RdI w2 (.slice a0 (FrE (plE 7) 0).length c0) (FrE (plE 7) 0) ∧ Capd (.slice a0 (FrE (plE 7) 0).length c0) from R0.out)
  generalize FrE (plE 7) 0 = L0 at *
  generalize FrE (plE 7) 1 = L1 at *
  generalize FrE (plE 7) 2 = L2 at *
  go_upto_region 4 with fail
  clear FR
  go_cut [3, 4] from 35 (fun s3 s4 wc => ∃ g3, s3 = .pointer (some ⟨g3, 0, none⟩) ∧ s4 = .int .i64 0 ∧ Hid (Bw w2 wc) ∧ Hid (Blk wc g3 25 #[.int .i64 1, .int .i64 7, .int .i64 100, .int .i64 0, .int .i64 0, .int .i64 0, .int .i64 0, .int .i64 0, .int .i64 0, .int .i64 0, .int .i64 0, .int .i64 0, .int .i64 0, .int .i64 0, .int .i64 0, .int .i64 0, .int .i64 0, .int .i64 0, .int .i64 0]))
  case first =>
    refine wp_region_held_drew (S := Bw w2) (by kernel_rfl) (Bw.drew (Bw.refl _)) (fun hS => ?_)
    generalize World.drew _ = wd at hS ⊢
    refine take1 (i := 0) (some 36) rfl rfl (by kernel_rfl) (by kernel_rfl) (by kernel_rfl) (fun _ _ _ _ h => h) rfl hS ?_
    apply Exists.intro
    apply And.intro
    · intro W9 hW9; have y0 := hW9.cell' q0; have y1 := hW9.cell' q1; have y2 := hW9.cell' q2; have y3 := hW9.cell' q3; have y4 := hW9.cell' q4; have y5 := hW9.cell' q5; have y6 := hW9.cell' q6; have y7 := hW9.cell' q7; have y8 := hW9.cell' q8; go_simp; try with_reducible rfl
    simp only [Act.put, List.setIfInBounds_toArray, List.set_cons_zero, List.set_cons_succ]
    refine take1 (i := 1) (some 37) rfl rfl (by kernel_rfl) (by kernel_rfl) (by kernel_rfl) (fun _ _ _ _ h => h) rfl hS ?_
    apply Exists.intro
    apply And.intro
    · intro W9 hW9; have y0 := hW9.cell' q0; have y1 := hW9.cell' q1; have y2 := hW9.cell' q2; have y3 := hW9.cell' q3; have y4 := hW9.cell' q4; have y5 := hW9.cell' q5; have y6 := hW9.cell' q6; have y7 := hW9.cell' q7; have y8 := hW9.cell' q8; go_simp; try with_reducible rfl
    simp only [Act.put, List.setIfInBounds_toArray, List.set_cons_zero, List.set_cons_succ]
    refine take1 (i := 2) (some 38) rfl rfl (by kernel_rfl) (by kernel_rfl) (by kernel_rfl) (fun _ _ _ _ h => h) rfl hS ?_
    apply Exists.intro
    apply And.intro
    · intro W9 hW9; have y0 := hW9.cell' q0; have y1 := hW9.cell' q1; have y2 := hW9.cell' q2; have y3 := hW9.cell' q3; have y4 := hW9.cell' q4; have y5 := hW9.cell' q5; have y6 := hW9.cell' q6; have y7 := hW9.cell' q7; have y8 := hW9.cell' q8; go_simp; try with_reducible rfl
    simp only [Act.put, List.setIfInBounds_toArray, List.set_cons_zero, List.set_cons_succ]
    refine take1 (i := 3) (some 39) rfl rfl (by kernel_rfl) (by kernel_rfl) (by kernel_rfl) (fun _ _ _ _ h => h) rfl hS ?_
    apply Exists.intro
    apply And.intro
    · intro W9 hW9; have y0 := hW9.cell' q0; have y1 := hW9.cell' q1; have y2 := hW9.cell' q2; have y3 := hW9.cell' q3; have y4 := hW9.cell' q4; have y5 := hW9.cell' q5; have y6 := hW9.cell' q6; have y7 := hW9.cell' q7; have y8 := hW9.cell' q8; go_simp; try with_reducible rfl
    simp only [Act.put, List.setIfInBounds_toArray, List.set_cons_zero, List.set_cons_succ]
    refine take1 (i := 4) (some 40) rfl rfl (by kernel_rfl) (by kernel_rfl) (by kernel_rfl) (fun _ _ _ _ h => h) rfl hS ?_
    apply Exists.intro
    apply And.intro
    · intro W9 hW9; have y0 := hW9.cell' q0; have y1 := hW9.cell' q1; have y2 := hW9.cell' q2; have y3 := hW9.cell' q3; have y4 := hW9.cell' q4; have y5 := hW9.cell' q5; have y6 := hW9.cell' q6; have y7 := hW9.cell' q7; have y8 := hW9.cell' q8; go_simp; try with_reducible rfl
    simp only [Act.put, List.setIfInBounds_toArray, List.set_cons_zero, List.set_cons_succ]
    refine take1 (i := 5) (some 41) rfl rfl (by kernel_rfl) (by kernel_rfl) (by kernel_rfl) (fun _ _ _ _ h => h) rfl hS ?_
    apply Exists.intro
    apply And.intro
    · intro W9 hW9; have y0 := hW9.cell' q0; have y1 := hW9.cell' q1; have y2 := hW9.cell' q2; have y3 := hW9.cell' q3; have y4 := hW9.cell' q4; have y5 := hW9.cell' q5; have y6 := hW9.cell' q6; have y7 := hW9.cell' q7; have y8 := hW9.cell' q8; go_simp; try with_reducible rfl
    simp only [Act.put, List.setIfInBounds_toArray, List.set_cons_zero, List.set_cons_succ]
    refine take1 (i := 6) (some 42) rfl rfl (by kernel_rfl) (by kernel_rfl) (by kernel_rfl) (fun _ _ _ _ h => h) rfl hS ?_
    apply Exists.intro
    apply And.intro
    · intro W9 hW9; have y0 := hW9.cell' q0; have y1 := hW9.cell' q1; have y2 := hW9.cell' q2; have y3 := hW9.cell' q3; have y4 := hW9.cell' q4; have y5 := hW9.cell' q5; have y6 := hW9.cell' q6; have y7 := hW9.cell' q7; have y8 := hW9.cell' q8; go_simp; try with_reducible rfl
    simp only [Act.put, List.setIfInBounds_toArray, List.set_cons_zero, List.set_cons_succ]
    refine take1 (i := 7) (some 43) rfl rfl (by kernel_rfl) (by kernel_rfl) (by kernel_rfl) (fun _ _ _ _ h => h) rfl hS ?_
    apply Exists.intro
    apply And.intro
    · intro W9 hW9; have y0 := hW9.cell' q0; have y1 := hW9.cell' q1; have y2 := hW9.cell' q2; have y3 := hW9.cell' q3; have y4 := hW9.cell' q4; have y5 := hW9.cell' q5; have y6 := hW9.cell' q6; have y7 := hW9.cell' q7; have y8 := hW9.cell' q8; go_simp; try with_reducible rfl
    simp only [Act.put, List.setIfInBounds_toArray, List.set_cons_zero, List.set_cons_succ]
    refine take1 (i := 8) (some 44) rfl rfl (by kernel_rfl) (by kernel_rfl) (by kernel_rfl) (fun _ _ _ _ h => h) rfl hS ?_
    apply Exists.intro
    apply And.intro
    · intro W9 hW9; have y0 := hW9.cell' q0; have y1 := hW9.cell' q1; have y2 := hW9.cell' q2; have y3 := hW9.cell' q3; have y4 := hW9.cell' q4; have y5 := hW9.cell' q5; have y6 := hW9.cell' q6; have y7 := hW9.cell' q7; have y8 := hW9.cell' q8; go_simp; try with_reducible rfl
    simp only [Act.put, List.setIfInBounds_toArray, List.set_cons_zero, List.set_cons_succ]
    refine wpAnyH_ready (rs := [9, 14]) (by kernel_rfl) (by simp) ?_
    refine AllReadyH.cons rfl (fun K hK => ?_) ?_
    go_simp
    have hba := Bw.alloc (Bw.refl wd) (.cells #[.int .i64 1, .int .i64 3, .slice a2 L2.length c2, .int .i64 131071, .int .i64 1, .slice a0 L0.length c0, .int .i64 0, .int .i64 2, .slice a1 L1.length c1] 47)
    have HF := Lib.hid (RdFr.three wd.heap.size 1 3 131071 1 0 2 (.slice a2 L2.length c2) (.slice a0 L0.length c0) (.slice a1 L1.length c1) L2 L0 L1 (Blk.new wd 47 #[.int .i64 1, .int .i64 3, .slice a2 L2.length c2, .int .i64 131071, .int .i64 1, .slice a0 L0.length c0, .int .i64 0, .int .i64 2, .slice a1 L1.length c1]) (And.intro (R2.out.1.mono (hS.trans hba)) R2.out.2) (And.intro (R0.out.1.mono (hS.trans hba)) R0.out.2) (And.intro (R1.out.1.mono (hS.trans hba)) R1.out.2))
    refine hK.out _ _ (hS.trans hba) (fun hS => ?_)
    clear hK K
    clear hba
    generalize World.alloc wd _ = w13 at hS HF ⊢
    refine wpAnyH_ready (rs := [10, 14]) (by kernel_rfl) (by simp) ?_
    refine AllReadyH.cons rfl (fun K hK => ?_) ?_
    go_simp
    go_wp2_with (go_at_call 18; (with_reducible refine Calls.mono (RD.out _ _ _ _ _ HF.out) ?_); rintro e1 w14 ⟨rfl, hb14⟩)
    refine hK.out _ _ (hS.trans hb14) (fun hS => ?_)
    clear hK K
    refine take1 (i := 11) (some 35) rfl rfl (by kernel_rfl) (by kernel_rfl) (by kernel_rfl) (fun _ _ _ _ h => h) rfl hS ?_
    apply Exists.intro
    apply And.intro
    · intro W9 hW9; have y0 := hW9.cell' q0; have y1 := hW9.cell' q1; have y2 := hW9.cell' q2; have y3 := hW9.cell' q3; have y4 := hW9.cell' q4; have y5 := hW9.cell' q5; have y6 := hW9.cell' q6; have y7 := hW9.cell' q7; have y8 := hW9.cell' q8; go_simp; try with_reducible rfl
    simp only [Act.put, List.setIfInBounds_toArray, List.set_cons_zero, List.set_cons_succ]
    refine take1 (i := 12) (some 47) rfl rfl (by kernel_rfl) (by kernel_rfl) (by kernel_rfl) (fun _ _ _ _ h => h) rfl hS ?_
    apply Exists.intro
    apply And.intro
    · intro W9 hW9; have y0 := hW9.cell' q0; have y1 := hW9.cell' q1; have y2 := hW9.cell' q2; have y3 := hW9.cell' q3; have y4 := hW9.cell' q4; have y5 := hW9.cell' q5; have y6 := hW9.cell' q6; have y7 := hW9.cell' q7; have y8 := hW9.cell' q8; go_simp; try with_reducible rfl
    simp only [Act.put, List.setIfInBounds_toArray, List.set_cons_zero, List.set_cons_succ]
    refine take1 (i := 13) (some 48) rfl rfl (by kernel_rfl) (by kernel_rfl) (by kernel_rfl) (fun _ _ _ _ h => h) rfl hS ?_
    apply Exists.intro
    apply And.intro
    · intro W9 hW9; have y0 := hW9.cell' q0; have y1 := hW9.cell' q1; have y2 := hW9.cell' q2; have y3 := hW9.cell' q3; have y4 := hW9.cell' q4; have y5 := hW9.cell' q5; have y6 := hW9.cell' q6; have y7 := hW9.cell' q7; have y8 := hW9.cell' q8; go_simp; try with_reducible rfl
    simp only [Act.put, List.setIfInBounds_toArray, List.set_cons_zero, List.set_cons_succ]
    refine wpAnyH_ready (rs := [14]) (by kernel_rfl) (by simp) ?_
    refine AllReadyH.cons rfl (fun K hK => ?_) ?_
    rw [if_pos (by rfl)]
    refine wp_alloc_new 25 rfl (some 3) rfl _ (zeroEp _) ?_
    intro g3 w7 hg3 hN hbw
    simp only [Act.put, List.setIfInBounds_toArray, List.set_cons_zero, List.set_cons_succ]
    have NB3 := Lib.hid hN
    have HG3 := Lib.hid (Nat.le_trans hS.size hg3)
    clear hN
    refine hK.out _ _ (hS.trans hbw) (fun hS => ?_)
    clear hK K
    refine wpAnyH_ready (rs := [15]) (by kernel_rfl) (by simp) ?_
    refine AllReadyH.cons rfl (fun K hK => ?_) ?_
    rw [if_pos (by rfl)]
    refine wp_store_row0 25 _ _ rfl rfl g3 #[.int .i64 1, .int .i64 7, .int .i64 100, .int .i64 0, .int .i64 0, .int .i64 0, .int .i64 0, .int .i64 0, .int .i64 0, .int .i64 0, .int .i64 0, .int .i64 0, .int .i64 0, .int .i64 0, .int .i64 0, .int .i64 0, .int .i64 0, .int .i64 0, .int .i64 0] rfl rfl 25 #[.int .i64 0, .int .i64 0, .int .i64 0, .int .i64 0, .int .i64 0, .int .i64 0, .int .i64 0, .int .i64 0, .int .i64 0, .int .i64 0, .int .i64 0, .int .i64 0, .int .i64 0, .int .i64 0, .int .i64 0, .int .i64 0, .int .i64 0, .int .i64 0, .int .i64 0] NB3.out (by kernel_rfl) rfl (by simp [Value.oneCell']) ?_
    replace NB3 := Lib.hid (NB3.out.row #[.int .i64 1, .int .i64 7, .int .i64 100, .int .i64 0, .int .i64 0, .int .i64 0, .int .i64 0, .int .i64 0, .int .i64 0, .int .i64 0, .int .i64 0, .int .i64 0, .int .i64 0, .int .i64 0, .int .i64 0, .int .i64 0, .int .i64 0, .int .i64 0, .int .i64 0])
    refine hK.out _ _ (Bw.setRow hS HG3.out #[.int .i64 1, .int .i64 7, .int .i64 100, .int .i64 0, .int .i64 0, .int .i64 0, .int .i64 0, .int .i64 0, .int .i64 0, .int .i64 0, .int .i64 0, .int .i64 0, .int .i64 0, .int .i64 0, .int .i64 0, .int .i64 0, .int .i64 0, .int .i64 0, .int .i64 0]) (fun hS => ?_)
    clear hK K
    refine take1 (i := 16) (some 4) rfl rfl (by kernel_rfl) (by kernel_rfl) (by kernel_rfl) (fun _ _ _ _ h => h) rfl hS ?_
    apply Exists.intro
    apply And.intro
    · intro W9 hW9; have y0 := hW9.cell' q0; have y1 := hW9.cell' q1; have y2 := hW9.cell' q2; have y3 := hW9.cell' q3; have y4 := hW9.cell' q4; have y5 := hW9.cell' q5; have y6 := hW9.cell' q6; have y7 := hW9.cell' q7; have y8 := hW9.cell' q8; go_simp; try with_reducible rfl
    simp only [Act.put, List.setIfInBounds_toArray, List.set_cons_zero, List.set_cons_succ]
    refine wpAnyH_done (by kernel_rfl) ?_ _
    rotate_left
    exact AllReadyH.nil
    exact AllReadyH.nil
    refine AllReadyH.cons rfl (fun K hK => ?_) ?_
    rw [if_pos (by rfl)]
    refine wp_alloc_new 25 rfl (some 3) rfl _ (zeroEp _) ?_
    intro g3 w7 hg3 hN hbw
    simp only [Act.put, List.setIfInBounds_toArray, List.set_cons_zero, List.set_cons_succ]
    have NB3 := Lib.hid hN
    have HG3 := Lib.hid (Nat.le_trans hS.size hg3)
    replace HF := Lib.hid (HF.out.mono hbw)
    clear hN
    refine hK.out _ _ (hS.trans hbw) (fun hS => ?_)
    clear hK K
    refine wpAnyH_ready (rs := [10]) (by kernel_rfl) (by simp) ?_
    refine AllReadyH.cons rfl (fun K hK => ?_) ?_
    go_simp
    go_wp2_with (go_at_call 18; (with_reducible refine Calls.mono (RD.out _ _ _ _ _ HF.out) ?_); rintro e1 w14 ⟨rfl, hb14⟩)
    replace NB3 := Lib.hid (NB3.out.bw hb14)
    refine hK.out _ _ (hS.trans hb14) (fun hS => ?_)
    clear hK K
    refine take1 (i := 11) (some 35) rfl rfl (by kernel_rfl) (by kernel_rfl) (by kernel_rfl) (fun _ _ _ _ h => h) rfl hS ?_
    apply Exists.intro
    apply And.intro
    · intro W9 hW9; have y0 := hW9.cell' q0; have y1 := hW9.cell' q1; have y2 := hW9.cell' q2; have y3 := hW9.cell' q3; have y4 := hW9.cell' q4; have y5 := hW9.cell' q5; have y6 := hW9.cell' q6; have y7 := hW9.cell' q7; have y8 := hW9.cell' q8; go_simp; try with_reducible rfl
    simp only [Act.put, List.setIfInBounds_toArray, List.set_cons_zero, List.set_cons_succ]
    refine take1 (i := 12) (some 47) rfl rfl (by kernel_rfl) (by kernel_rfl) (by kernel_rfl) (fun _ _ _ _ h => h) rfl hS ?_
    apply Exists.intro
    apply And.intro
    · intro W9 hW9; have y0 := hW9.cell' q0; have y1 := hW9.cell' q1; have y2 := hW9.cell' q2; have y3 := hW9.cell' q3; have y4 := hW9.cell' q4; have y5 := hW9.cell' q5; have y6 := hW9.cell' q6; have y7 := hW9.cell' q7; have y8 := hW9.cell' q8; go_simp; try with_reducible rfl
    simp only [Act.put, List.setIfInBounds_toArray, List.set_cons_zero, List.set_cons_succ]
    refine take1 (i := 13) (some 48) rfl rfl (by kernel_rfl) (by kernel_rfl) (by kernel_rfl) (fun _ _ _ _ h => h) rfl hS ?_
    apply Exists.intro
    apply And.intro
    · intro W9 hW9; have y0 := hW9.cell' q0; have y1 := hW9.cell' q1; have y2 := hW9.cell' q2; have y3 := hW9.cell' q3; have y4 := hW9.cell' q4; have y5 := hW9.cell' q5; have y6 := hW9.cell' q6; have y7 := hW9.cell' q7; have y8 := hW9.cell' q8; go_simp; try with_reducible rfl
    simp only [Act.put, List.setIfInBounds_toArray, List.set_cons_zero, List.set_cons_succ]
    refine wpAnyH_ready (rs := [15]) (by kernel_rfl) (by simp) ?_
    refine AllReadyH.cons rfl (fun K hK => ?_) ?_
    rw [if_pos (by rfl)]
    refine wp_store_row0 25 _ _ rfl rfl g3 #[.int .i64 1, .int .i64 7, .int .i64 100, .int .i64 0, .int .i64 0, .int .i64 0, .int .i64 0, .int .i64 0, .int .i64 0, .int .i64 0, .int .i64 0, .int .i64 0, .int .i64 0, .int .i64 0, .int .i64 0, .int .i64 0, .int .i64 0, .int .i64 0, .int .i64 0] rfl rfl 25 #[.int .i64 0, .int .i64 0, .int .i64 0, .int .i64 0, .int .i64 0, .int .i64 0, .int .i64 0, .int .i64 0, .int .i64 0, .int .i64 0, .int .i64 0, .int .i64 0, .int .i64 0, .int .i64 0, .int .i64 0, .int .i64 0, .int .i64 0, .int .i64 0, .int .i64 0] NB3.out (by kernel_rfl) rfl (by simp [Value.oneCell']) ?_
    replace NB3 := Lib.hid (NB3.out.row #[.int .i64 1, .int .i64 7, .int .i64 100, .int .i64 0, .int .i64 0, .int .i64 0, .int .i64 0, .int .i64 0, .int .i64 0, .int .i64 0, .int .i64 0, .int .i64 0, .int .i64 0, .int .i64 0, .int .i64 0, .int .i64 0, .int .i64 0, .int .i64 0, .int .i64 0])
    refine hK.out _ _ (Bw.setRow hS HG3.out #[.int .i64 1, .int .i64 7, .int .i64 100, .int .i64 0, .int .i64 0, .int .i64 0, .int .i64 0, .int .i64 0, .int .i64 0, .int .i64 0, .int .i64 0, .int .i64 0, .int .i64 0, .int .i64 0, .int .i64 0, .int .i64 0, .int .i64 0, .int .i64 0, .int .i64 0]) (fun hS => ?_)
    clear hK K
    refine take1 (i := 16) (some 4) rfl rfl (by kernel_rfl) (by kernel_rfl) (by kernel_rfl) (fun _ _ _ _ h => h) rfl hS ?_
    apply Exists.intro
    apply And.intro
    · intro W9 hW9; have y0 := hW9.cell' q0; have y1 := hW9.cell' q1; have y2 := hW9.cell' q2; have y3 := hW9.cell' q3; have y4 := hW9.cell' q4; have y5 := hW9.cell' q5; have y6 := hW9.cell' q6; have y7 := hW9.cell' q7; have y8 := hW9.cell' q8; go_simp; try with_reducible rfl
    simp only [Act.put, List.setIfInBounds_toArray, List.set_cons_zero, List.set_cons_succ]
    refine wpAnyH_done (by kernel_rfl) ?_ _
    rotate_left
    exact AllReadyH.nil
    exact AllReadyH.nil
    exact AllReadyH.nil
    refine AllReadyH.cons rfl (fun K hK => ?_) ?_
    rw [if_pos (by rfl)]
    refine wp_alloc_new 25 rfl (some 3) rfl _ (zeroEp _) ?_
    intro g3 w7 hg3 hN hbw
    simp only [Act.put, List.setIfInBounds_toArray, List.set_cons_zero, List.set_cons_succ]
    have NB3 := Lib.hid hN
    have HG3 := Lib.hid (Nat.le_trans hS.size hg3)
    clear hN
    refine hK.out _ _ (hS.trans hbw) (fun hS => ?_)
    clear hK K
    refine wpAnyH_ready (rs := [9]) (by kernel_rfl) (by simp) ?_
    refine AllReadyH.cons rfl (fun K hK => ?_) ?_
    go_simp
    have hba := Bw.alloc (Bw.refl w7) (.cells #[.int .i64 1, .int .i64 3, .slice a2 L2.length c2, .int .i64 131071, .int .i64 1, .slice a0 L0.length c0, .int .i64 0, .int .i64 2, .slice a1 L1.length c1] 47)
    have HF := Lib.hid (RdFr.three w7.heap.size 1 3 131071 1 0 2 (.slice a2 L2.length c2) (.slice a0 L0.length c0) (.slice a1 L1.length c1) L2 L0 L1 (Blk.new w7 47 #[.int .i64 1, .int .i64 3, .slice a2 L2.length c2, .int .i64 131071, .int .i64 1, .slice a0 L0.length c0, .int .i64 0, .int .i64 2, .slice a1 L1.length c1]) (And.intro (R2.out.1.mono (hS.trans hba)) R2.out.2) (And.intro (R0.out.1.mono (hS.trans hba)) R0.out.2) (And.intro (R1.out.1.mono (hS.trans hba)) R1.out.2))
    replace NB3 := Lib.hid (NB3.out.bw hba)
    refine hK.out _ _ (hS.trans hba) (fun hS => ?_)
    clear hK K
    clear hba
    generalize World.alloc w7 _ = w13 at hS HF NB3 ⊢
    refine wpAnyH_ready (rs := [10]) (by kernel_rfl) (by simp) ?_
    refine AllReadyH.cons rfl (fun K hK => ?_) ?_
    go_simp
    go_wp2_with (go_at_call 18; (with_reducible refine Calls.mono (RD.out _ _ _ _ _ HF.out) ?_); rintro e1 w14 ⟨rfl, hb14⟩)
    replace NB3 := Lib.hid (NB3.out.bw hb14)
    refine hK.out _ _ (hS.trans hb14) (fun hS => ?_)
    clear hK K
    refine take1 (i := 11) (some 35) rfl rfl (by kernel_rfl) (by kernel_rfl) (by kernel_rfl) (fun _ _ _ _ h => h) rfl hS ?_
    apply Exists.intro
    apply And.intro
    · intro W9 hW9; have y0 := hW9.cell' q0; have y1 := hW9.cell' q1; have y2 := hW9.cell' q2; have y3 := hW9.cell' q3; have y4 := hW9.cell' q4; have y5 := hW9.cell' q5; have y6 := hW9.cell' q6; have y7 := hW9.cell' q7; have y8 := hW9.cell' q8; go_simp; try with_reducible rfl
    simp only [Act.put, List.setIfInBounds_toArray, List.set_cons_zero, List.set_cons_succ]
    refine take1 (i := 12) (some 47) rfl rfl (by kernel_rfl) (by kernel_rfl) (by kernel_rfl) (fun _ _ _ _ h => h) rfl hS ?_
    apply Exists.intro
    apply And.intro
    · intro W9 hW9; have y0 := hW9.cell' q0; have y1 := hW9.cell' q1; have y2 := hW9.cell' q2; have y3 := hW9.cell' q3; have y4 := hW9.cell' q4; have y5 := hW9.cell' q5; have y6 := hW9.cell' q6; have y7 := hW9.cell' q7; have y8 := hW9.cell' q8; go_simp; try with_reducible rfl
    simp only [Act.put, List.setIfInBounds_toArray, List.set_cons_zero, List.set_cons_succ]
    refine take1 (i := 13) (some 48) rfl rfl (by kernel_rfl) (by kernel_rfl) (by kernel_rfl) (fun _ _ _ _ h => h) rfl hS ?_
    apply Exists.intro
    apply And.intro
    · intro W9 hW9; have y0 := hW9.cell' q0; have y1 := hW9.cell' q1; have y2 := hW9.cell' q2; have y3 := hW9.cell' q3; have y4 := hW9.cell' q4; have y5 := hW9.cell' q5; have y6 := hW9.cell' q6; have y7 := hW9.cell' q7; have y8 := hW9.cell' q8; go_simp; try with_reducible rfl
    simp only [Act.put, List.setIfInBounds_toArray, List.set_cons_zero, List.set_cons_succ]
    refine wpAnyH_ready (rs := [15]) (by kernel_rfl) (by simp) ?_
    refine AllReadyH.cons rfl (fun K hK => ?_) ?_
    rw [if_pos (by rfl)]
    refine wp_store_row0 25 _ _ rfl rfl g3 #[.int .i64 1, .int .i64 7, .int .i64 100, .int .i64 0, .int .i64 0, .int .i64 0, .int .i64 0, .int .i64 0, .int .i64 0, .int .i64 0, .int .i64 0, .int .i64 0, .int .i64 0, .int .i64 0, .int .i64 0, .int .i64 0, .int .i64 0, .int .i64 0, .int .i64 0] rfl rfl 25 #[.int .i64 0, .int .i64 0, .int .i64 0, .int .i64 0, .int .i64 0, .int .i64 0, .int .i64 0, .int .i64 0, .int .i64 0, .int .i64 0, .int .i64 0, .int .i64 0, .int .i64 0, .int .i64 0, .int .i64 0, .int .i64 0, .int .i64 0, .int .i64 0, .int .i64 0] NB3.out (by kernel_rfl) rfl (by simp [Value.oneCell']) ?_
    replace NB3 := Lib.hid (NB3.out.row #[.int .i64 1, .int .i64 7, .int .i64 100, .int .i64 0, .int .i64 0, .int .i64 0, .int .i64 0, .int .i64 0, .int .i64 0, .int .i64 0, .int .i64 0, .int .i64 0, .int .i64 0, .int .i64 0, .int .i64 0, .int .i64 0, .int .i64 0, .int .i64 0, .int .i64 0])
    refine hK.out _ _ (Bw.setRow hS HG3.out #[.int .i64 1, .int .i64 7, .int .i64 100, .int .i64 0, .int .i64 0, .int .i64 0, .int .i64 0, .int .i64 0, .int .i64 0, .int .i64 0, .int .i64 0, .int .i64 0, .int .i64 0, .int .i64 0, .int .i64 0, .int .i64 0, .int .i64 0, .int .i64 0, .int .i64 0]) (fun hS => ?_)
    clear hK K
    refine take1 (i := 16) (some 4) rfl rfl (by kernel_rfl) (by kernel_rfl) (by kernel_rfl) (fun _ _ _ _ h => h) rfl hS ?_
    apply Exists.intro
    apply And.intro
    · intro W9 hW9; have y0 := hW9.cell' q0; have y1 := hW9.cell' q1; have y2 := hW9.cell' q2; have y3 := hW9.cell' q3; have y4 := hW9.cell' q4; have y5 := hW9.cell' q5; have y6 := hW9.cell' q6; have y7 := hW9.cell' q7; have y8 := hW9.cell' q8; go_simp; try with_reducible rfl
    simp only [Act.put, List.setIfInBounds_toArray, List.set_cons_zero, List.set_cons_succ]
    refine wpAnyH_done (by kernel_rfl) ?_ _
    rotate_left
    exact AllReadyH.nil
    exact AllReadyH.nil
    exact AllReadyH.nil
    exact AllReadyH.nil
    all_goals
      go_wp2
      go_meet
      exact ⟨g3, rfl, rfl, Lib.hid hS, NB3⟩
  case rest =>
    obtain ⟨g3, rfl, rfl, hb3, B3⟩ := hcut
    replace HBW := Lib.hid (HBW.out.trans hb3.out)
    clear hb3 q0 q1 q2 q3 q4 q5 q6 q7 q8 R0 R1 R2 RD
    go_upto_region 6 with (first | (go_at_call 23; (with_reducible refine Calls.mono (PL.out _) ?_); rintro e1 w4 ⟨rfl, hb4⟩) | (go_at_call 9; (with_reducible refine Calls.mono (FT.out _) ?_); rintro e1 w5 ⟨rfl, hb5⟩))
    have hb6 := hb4.trans hb5
    replace HBW := Lib.hid (HBW.out.trans hb6)
    replace B3 := Lib.hid (B3.out.bw hb6)
    clear hb4 hb5 hb6
    have hq1 : ∀ w, (Op.equalIn 10000 25 (.agg #[.int .i64 1, .int .i64 7, .int .i64 100, .int .i64 0, .int .i64 0, .int .i64 0, .int .i64 0, .int .i64 0, .int .i64 0, .int .i64 0, .int .i64 0, .int .i64 0, .int .i64 0, .int .i64 0, .int .i64 0, .int .i64 0, .int .i64 0, .int .i64 0, .int .i64 0]) (.agg #[.int .i64 1, .int .i64 7, .int .i64 100, .int .i64 0, .int .i64 0, .int .i64 0, .int .i64 0, .int .i64 0, .int .i64 0, .int .i64 0, .int .i64 0, .int .i64 0, .int .i64 0, .int .i64 0, .int .i64 0, .int .i64 0, .int .i64 0, .int .i64 0, .int .i64 0])).run Try.prog w = .ok true w := fun w => by have h9 := eqE_self (plE 7) w; rw [plV] at h9; exact h9
    have hq2 : ∀ w op p q, (eqGuard op 25 p q (.agg #[.int .i64 1, .int .i64 7, .int .i64 100, .int .i64 0, .int .i64 0, .int .i64 0, .int .i64 0, .int .i64 0, .int .i64 0, .int .i64 0, .int .i64 0, .int .i64 0, .int .i64 0, .int .i64 0, .int .i64 0, .int .i64 0, .int .i64 0, .int .i64 0, .int .i64 0]) (.agg #[.int .i64 1, .int .i64 7, .int .i64 100, .int .i64 0, .int .i64 0, .int .i64 0, .int .i64 0, .int .i64 0, .int .i64 0, .int .i64 0, .int .i64 0, .int .i64 0, .int .i64 0, .int .i64 0, .int .i64 0, .int .i64 0, .int .i64 0, .int .i64 0, .int .i64 0])).run Try.prog w = .ok () w := fun w op p q => by have h9 := eqE_guard (plE 7) (plE 7) op p q w; rw [plV] at h9; exact h9
    have hSZ : (Try.prog.info? 25).map (·.size) = some (#[.int .i64 1, .int .i64 7, .int .i64 100, .int .i64 0, .int .i64 0, .int .i64 0, .int .i64 0, .int .i64 0, .int .i64 0, .int .i64 0, .int .i64 0, .int .i64 0, .int .i64 0, .int .i64 0, .int .i64 0, .int .i64 0, .int .i64 0, .int .i64 0, .int .i64 0] : Array Value).size := by kernel_rfl
    generalize (#[.int .i64 1, .int .i64 7, .int .i64 100, .int .i64 0, .int .i64 0, .int .i64 0, .int .i64 0, .int .i64 0, .int .i64 0, .int .i64 0, .int .i64 0, .int .i64 0, .int .i64 0, .int .i64 0, .int .i64 0, .int .i64 0, .int .i64 0, .int .i64 0, .int .i64 0] : Array Value) = A at *
    refine wp_region_quiet_ext (by kernel_rfl) (by kernel_rfl) ?_
    go_big_quiet_want
    refine quiet_load (.agg A) (some 54) rfl (fun W hW => ?_) ?_
    · obtain ⟨p, rfl⟩ := hW
      exact run_load_row 25 _ rfl g3 rfl 25 A _ (B3.out.bw p.b) Try.underlying25 rfl hSZ
    simp only [Act.put, List.setIfInBounds_toArray, List.set_cons_zero, List.set_cons_succ]
    go_big_quiet_on
    (repeat (go_big_quiet_step ((go_at_call 23; with_reducible refine Calls.ext_of (PL.out _)))))
    refine wpQuiet_nil ?_
    rintro wq ⟨⟨_, hbq⟩, rfl⟩
    replace HBW := Lib.hid (HBW.out.trans hbq)
    go_wp2
    go_ret
    exact ⟨rfl, HBW.out⟩
end Go.Proofs.Sky

namespace Go.Proofs.Sky
open Go Go.RowKit Go.Shelf
set_option maxHeartbeats 4000000
set_option maxRecDepth 8000
def lgB (fs : List Fr) : Bool := decide (40 < fs.length) || fs.any (fun f => decide (300 < f.l.length))
theorem lgB_no {fs : List Fr} (h1 : ¬ 40 < fs.length) (h2 : ∀ j, j < fs.length → ¬ 300 < (fs.getD j dFr).l.length) : lgB fs = false := by
  unfold lgB
  rw [decide_eq_false h1, Bool.false_or, List.any_eq_false]
  intro f hf
  obtain ⟨j, hj, rfl⟩ := List.getElem_of_mem hf
  have h9 := h2 j hj
  rw [List.getD_eq_getElem?_getD, List.getElem?_eq_getElem hj] at h9
  simpa using h9
theorem large_any (fs : List Fr) (v : Value) (w : World) (hv : RdFr w v fs) : Calls Try.prog 17 #[v] w fun e w' => e = .returned (.bool (lgB fs)) ∧ Bw w w' := by
  have HV := Lib.hid hv
  obtain ⟨a, c, rfl⟩ := hv.form
  have HFD := Lib.hid hv.2.1
  clear hv
  obtain ⟨n, hn⟩ : ∃ n, n = fs.length := ⟨_, rfl⟩
  rw [← hn]
  have HN := Lib.hid hn
  clear hn
  go_enter Try.func17, Try.ntmps17
  by_cases q0 : 40 < n
  · have q0z : (40 : Int) < n := by omega
    have HG := Lib.hid (show lgB fs = true by unfold lgB; rw [decide_eq_true (by have := HN.out; omega)]; rfl)
    go_wp2
    go_ret
    exact ⟨by rw [HG.out]; rfl, Bw.refl _⟩
  have q0z : ¬ (40 : Int) < n := by omega
  go_wp2
  go_loopg [3] n (fun gg s3 wr => ∃ i : Nat, i ≤ n ∧ n - i ≤ gg ∧ s3 = .int .i64 i ∧ wr = w ∧ Hid (∀ j, j < i → ¬ 300 < (fs.getD j dFr).l.length))
  case atStart => exact ⟨0, by omega, by omega, rfl, rfl, Lib.hid (fun j h => by omega)⟩
  case round =>
    obtain ⟨i, hi, hgg, rfl, rfl, HB⟩ := hrel
    by_cases hlt : i < n
    · have hiz : (i : Int) < n := by omega
      have hi0 : (0 : Int) ≤ i := by omega
      have hat : fs[i]? = some (fs.getD i dFr) := getD_fr (by have := HN.out; omega)
      obtain ⟨bl, of_, cl, hvl, hcl⟩ := HV.out.at (by have := HN.out; omega)
      injection hvl with i1 i2 i3
      subst i1
      clear i2 i3
      obtain ⟨_, _, d2⟩ := hcl i _ hat
      have hdd := (HFD.out _ (List.mem_of_getElem? hat)).1
      obtain ⟨af, cf, hfd⟩ := hdd.form
      rw [hfd] at d2
      have HG1 := Lib.hid (show 300 < (fs.getD i dFr).l.length → lgB fs = true from fun h => by
        unfold lgB
        rw [List.any_eq_true.2 ⟨_, List.mem_of_getElem? hat, decide_eq_true h⟩, Bool.or_true])
      have HG0 := Lib.hid (show ¬ 300 < (fs.getD i dFr).l.length → ∀ j, j < i + 1 → ¬ 300 < (fs.getD j dFr).l.length from fun h j hj => by
        rcases Nat.lt_succ_iff_lt_or_eq.1 hj with h8 | rfl
        · exact HB.out j h8
        · exact h)
      generalize (fs.getD i dFr).l.length = LN at *
      clear hcl hat hdd hfd
      by_cases h3 : 300 < LN
      · have h3z : (300 : Int) < LN := by omega
        have HG := Lib.hid (HG1.out h3)
        go_wp2
        go_ret
        exact ⟨by rw [HG.out]; rfl, Bw.refl _⟩
      · have h3z : ¬ (300 : Int) < LN := by omega
        have HX := Lib.hid (HG0.out h3)
        go_wp2
        go_roundg (n - (i + 1))
        case measure => omega
        case rel => exact ⟨i + 1, by omega, by omega, by go_num, rfl, HX⟩
    · obtain rfl : i = n := by omega
      have hiz : ¬ (i : Int) < i := by omega
      have HG := Lib.hid (lgB_no (by have := HN.out; omega) (fun j hj => HB.out j (by have := HN.out; omega)))
      go_wp2
      go_ret
      exact ⟨by rw [HG.out]; rfl, Bw.refl _⟩
theorem law_reads (fs : List Fr) (v : Value) (w : World) (hv : RdFr w v fs) : Calls Try.prog 4 #[v] w fun e w' => e = .returned (.bool true) ∧ Bw w w' := by
  have HV := Lib.hid hv
  obtain ⟨a, c, rfl⟩ := hv.form
  clear hv
  have AW := Lib.hid (fun W => awake_any W)
  have LA := Lib.hid (fun W h => large_any fs (.slice a fs.length c) W h)
  have RP := Lib.hid (fun W h => ERead_any fs (.slice a fs.length c) W h)
  have RR := Lib.hid (fun W (h : RdFr W (.slice a fs.length c) fs) => by have h9 := rRead_any fs (.slice a fs.length c) W h; rw [← (read_eq fs).1, ← (read_eq fs).2] at h9; exact h9)
  have hq1 := fun W => eqE_self (readR fs).1 W
  have hq2 := fun W op p q => eqE_guard (readR fs).1 (readR fs).1 op p q W
  have HA1 : Hid ((eV (readR fs).1).all (·.oneCell') = true) := Lib.hid (by simp [Value.oneCell', eV])
  have HA2 : Hid ((Try.prog.info? 25).map (·.size) = some (eV (readR fs).1).size) := Lib.hid (by kernel_rfl)
  have HA3 : Hid ((#[.int .i64 0, .int .i64 0, .int .i64 0, .int .i64 0, .int .i64 0, .int .i64 0, .int .i64 0, .int .i64 0, .int .i64 0, .int .i64 0, .int .i64 0, .int .i64 0, .int .i64 0, .int .i64 0, .int .i64 0, .int .i64 0, .int .i64 0, .int .i64 0, .int .i64 0] : Array Value).size = (eV (readR fs).1).size) := Lib.hid rfl
  generalize eV (readR fs).1 = A at *
  generalize (readR fs).2 = E at *
  go_enter Try.func4, Try.ntmps4
  cases hlg : lgB fs with
  | true =>
    rw [hlg] at LA
    clear hlg
    go_wp2_with (first | (go_at_call 17; (with_reducible refine Calls.mono (LA.out _ HV.out) ?_); rintro e1 w1 ⟨rfl, hb1⟩) | (go_at_call 16; (with_reducible refine Calls.mono (AW.out _) ?_); rintro e2 w2 ⟨rfl, hb2⟩))
    go_ret
    exact ⟨rfl, hb1.trans hb2⟩
  | false =>
    rw [hlg] at LA
    clear hlg
    go_upto_region 4 with (first | (go_at_call 17; (with_reducible refine Calls.mono (LA.out _ HV.out) ?_); rintro e1 w1 ⟨rfl, hb1⟩) | (go_at_call 18; (with_reducible refine Calls.mono (RP.out _ (HV.out.mono hb1)) ?_); rintro e2 w2 ⟨rfl, hb2⟩) | ((with_reducible refine at_store 25 (.tmp 3) (.tmp 13) ?_); refine wpList_store_row rfl 25 (.tmp 3) (.tmp 13) rfl _ A rfl rfl 25 _ (Blk.new _ 25 #[.int .i64 0, .int .i64 0, .int .i64 0, .int .i64 0, .int .i64 0, .int .i64 0, .int .i64 0, .int .i64 0, .int .i64 0, .int .i64 0, .int .i64 0, .int .i64 0, .int .i64 0, .int .i64 0, .int .i64 0, .int .i64 0, .int .i64 0, .int .i64 0, .int .i64 0]) HA2.out HA3.out HA1.out ?_))
    have HBW := Lib.hid (hb1.trans hb2)
    clear hb1 hb2
    have B3 := Lib.hid ((Blk.new w2 25 #[.int .i64 0, .int .i64 0, .int .i64 0, .int .i64 0, .int .i64 0, .int .i64 0, .int .i64 0, .int .i64 0, .int .i64 0, .int .i64 0, .int .i64 0, .int .i64 0, .int .i64 0, .int .i64 0, .int .i64 0, .int .i64 0, .int .i64 0, .int .i64 0, .int .i64 0]).row A)
    have hbs := Bw.setRow (Bw.alloc (Bw.refl w2) (.cells #[.int .i64 0, .int .i64 0, .int .i64 0, .int .i64 0, .int .i64 0, .int .i64 0, .int .i64 0, .int .i64 0, .int .i64 0, .int .i64 0, .int .i64 0, .int .i64 0, .int .i64 0, .int .i64 0, .int .i64 0, .int .i64 0, .int .i64 0, .int .i64 0, .int .i64 0] 25)) (Nat.le_refl _) A
    obtain ⟨g3, hg3⟩ : ∃ g3, w2.heap.size = g3 := ⟨_, rfl⟩
    rw [hg3] at B3 hbs ⊢
    obtain ⟨W3, hW3⟩ : ∃ W3, (w2.alloc (.cells #[.int .i64 0, .int .i64 0, .int .i64 0, .int .i64 0, .int .i64 0, .int .i64 0, .int .i64 0, .int .i64 0, .int .i64 0, .int .i64 0, .int .i64 0, .int .i64 0, .int .i64 0, .int .i64 0, .int .i64 0, .int .i64 0, .int .i64 0, .int .i64 0, .int .i64 0] 25)).setRow g3 A = W3 := ⟨_, rfl⟩
    rw [hW3] at B3 hbs ⊢
    clear hW3 hg3
    replace HBW := Lib.hid (HBW.out.trans hbs)
    clear hbs
    go_upto_region 5 with (first | (go_at_call 19; (with_reducible refine Calls.mono (RR.out _ (HV.out.mono HBW.out)) ?_); rintro e4 w4 ⟨rfl, hb4⟩) | ((with_reducible refine at_store 25 (.tmp 5) (.tmp 18) ?_); refine wpList_store_row rfl 25 (.tmp 5) (.tmp 18) rfl _ A rfl rfl 25 _ (Blk.new _ 25 #[.int .i64 0, .int .i64 0, .int .i64 0, .int .i64 0, .int .i64 0, .int .i64 0, .int .i64 0, .int .i64 0, .int .i64 0, .int .i64 0, .int .i64 0, .int .i64 0, .int .i64 0, .int .i64 0, .int .i64 0, .int .i64 0, .int .i64 0, .int .i64 0, .int .i64 0]) HA2.out HA3.out HA1.out ?_))
    replace HBW := Lib.hid (HBW.out.trans hb4)
    replace B3 := Lib.hid (B3.out.bw hb4)
    clear hb4
    have B5 := Lib.hid ((Blk.new w4 25 #[.int .i64 0, .int .i64 0, .int .i64 0, .int .i64 0, .int .i64 0, .int .i64 0, .int .i64 0, .int .i64 0, .int .i64 0, .int .i64 0, .int .i64 0, .int .i64 0, .int .i64 0, .int .i64 0, .int .i64 0, .int .i64 0, .int .i64 0, .int .i64 0, .int .i64 0]).row A)
    have hbs := Bw.setRow (Bw.alloc (Bw.refl w4) (.cells #[.int .i64 0, .int .i64 0, .int .i64 0, .int .i64 0, .int .i64 0, .int .i64 0, .int .i64 0, .int .i64 0, .int .i64 0, .int .i64 0, .int .i64 0, .int .i64 0, .int .i64 0, .int .i64 0, .int .i64 0, .int .i64 0, .int .i64 0, .int .i64 0, .int .i64 0] 25)) (Nat.le_refl _) A
    obtain ⟨g5, hg5⟩ : ∃ g5, w4.heap.size = g5 := ⟨_, rfl⟩
    rw [hg5] at B5 hbs ⊢
    obtain ⟨W5, hW5⟩ : ∃ W5, (w4.alloc (.cells #[.int .i64 0, .int .i64 0, .int .i64 0, .int .i64 0, .int .i64 0, .int .i64 0, .int .i64 0, .int .i64 0, .int .i64 0, .int .i64 0, .int .i64 0, .int .i64 0, .int .i64 0, .int .i64 0, .int .i64 0, .int .i64 0, .int .i64 0, .int .i64 0, .int .i64 0] 25)).setRow g5 A = W5 := ⟨_, rfl⟩
    rw [hW5] at B5 hbs ⊢
    clear hW5 hg5
    replace HBW := Lib.hid (HBW.out.trans hbs)
    replace B3 := Lib.hid (B3.out.bw hbs)
    clear hbs
    have hee : (E == E) = true := by simp
    go_wp2_with (first | ((with_reducible refine at_load 25 (.tmp 3) ?_); refine wpList_load_row rfl 25 _ rfl g3 rfl 25 _ (0, 0) _ B3.out Try.underlying25 rfl HA2.out ?_) | ((with_reducible refine at_load 25 (.tmp 5) ?_); refine wpList_load_row rfl 25 _ rfl g5 rfl 25 _ (0, 0) _ B5.out Try.underlying25 rfl HA2.out ?_) | (go_at_call 16; (with_reducible refine Calls.mono (AW.out _) ?_); rintro e6 w6 ⟨rfl, hb6⟩; replace HBW := Lib.hid (HBW.out.trans hb6)))
    go_ret
    exact ⟨rfl, HBW.out⟩
end Go.Proofs.Sky

namespace Go.Proofs.Sky
open Go Go.RowKit Go.Shelf
set_option maxHeartbeats 4000000
set_option maxRecDepth 8000
/-! chapter 26: equal lists of frames -/
theorem sameFr_any (fs gs : List Fr) (v1 v2 : Value) (w : World) (h1 : RdFr w v1 fs) (h2 : RdFr w v2 gs) (he : fs.map (fun f => (f.t, f.k, f.l)) = gs.map (fun f => (f.t, f.k, f.l))) : Calls Try.prog 15 #[v1, v2] w fun e w' => e = .returned (.bool true) ∧ Bw w w' := by
  have H1 := Lib.hid h1
  have H2 := Lib.hid h2
  have hlen : gs.length = fs.length := by have h9 := congrArg List.length he; simpa using h9.symm
  obtain ⟨a1, c1, rfl⟩ := h1.form
  obtain ⟨a2, c2, rfl⟩ := h2.form
  have D1 := Lib.hid h1.2.1
  have D2 := Lib.hid h2.2.1
  clear h1 h2
  have AL := Lib.hid (fun xs v1 v2 W h1 h2 => alike_same xs v1 v2 W h1 h2)
  rw [hlen] at H2 ⊢
  obtain ⟨n, hn⟩ : ∃ n, n = fs.length := ⟨_, rfl⟩
  rw [← hn] at H2 ⊢
  have hle := H1.out.1
  rw [← hn] at hle
  have HN := Lib.hid hn
  have HEQ := Lib.hid (show ∀ i, i < n → (fs.getD i dFr).t = (gs.getD i dFr).t ∧ (fs.getD i dFr).k = (gs.getD i dFr).k ∧ (fs.getD i dFr).l = (gs.getD i dFr).l from fun i hi => by
    have h9 := congrArg (fun l => l[i]?) he
    simp only [List.getElem?_map] at h9
    rw [getD_fr (fs := fs) (by omega), getD_fr (fs := gs) (by omega)] at h9
    simpa using h9)
  have HNG := Lib.hid (show n ≤ gs.length by omega)
  clear hn he hlen
  have hnn : ((n : Int) != n) = false := by simp
  go_enter Try.func15, Try.ntmps15
  go_wp2
  go_loopg [5] n (fun gg s5 wr => ∃ i : Nat, i ≤ n ∧ n - i ≤ gg ∧ s5 = .int .i64 i ∧ Hid (Bw w wr))
  case atStart => exact ⟨0, by omega, by omega, rfl, Lib.hid (Bw.refl _)⟩
  case round =>
    obtain ⟨i, hi, hgg, rfl, HW⟩ := hrel
    obtain ⟨wa, rfl⟩ : ∃ wa, wa = wr := ⟨_, rfl⟩
    by_cases hlt : i < n
    · have hiz : (i : Int) < n := by omega
      have hi0 : (0 : Int) ≤ i := by omega
      have hat1 : fs[i]? = some (fs.getD i dFr) := getD_fr (by have := HN.out; omega)
      have hat2 : gs[i]? = some (gs.getD i dFr) := getD_fr (by have := HNG.out; omega)
      obtain ⟨b1, o1, l1, hv1, hc1⟩ := (H1.out.mono HW.out).at (by have := HN.out; omega)
      injection hv1 with i1 i2 i3
      subst i1
      clear i2 i3
      obtain ⟨b2, o2, l2, hv2, hc2⟩ := (H2.out.mono HW.out).at (by have := HNG.out; omega)
      injection hv2 with i1 i2 i3
      subst i1
      clear i2 i3
      obtain ⟨p0, p1, p2⟩ := hc1 i _ hat1
      obtain ⟨r0, r1, r2⟩ := hc2 i _ hat2
      have hd1 := (D1.out _ (List.mem_of_getElem? hat1)).1.mono HW.out
      have hd2 := (D2.out _ (List.mem_of_getElem? hat2)).1.mono HW.out
      obtain ⟨e0, e1, e2⟩ := HEQ.out i hlt
      rw [← e0] at r0
      rw [← e1] at r1
      rw [← e2] at hd2
      clear hc1 hc2 hat1 hat2 e0 e1 e2
      generalize (fs.getD i dFr).t = t at *
      generalize (fs.getD i dFr).k = k at *
      generalize (fs.getD i dFr).l = l at *
      generalize (fs.getD i dFr).d = d1 at *
      generalize (gs.getD i dFr).d = d2 at *
      have ALL := Lib.hid (fun W (p : Bw wa W) => AL.out l d1 d2 W (hd1.mono p) (hd2.mono p))
      clear hd1 hd2
      have q0 : (t != t) = false := by simp
      have q1 : (k != k) = false := by simp
      go_upto_region 6 with fail
      have e0 := fun p' : Ext wa => Ext.cell' p0 p'
      have e1 := fun p' : Ext wa => Ext.cell' p1 p'
      have e2 := fun p' : Ext wa => Ext.cell' p2 p'
      have e3 := fun p' : Ext wa => Ext.cell' r0 p'
      have e4 := fun p' : Ext wa => Ext.cell' r1 p'
      have e5 := fun p' : Ext wa => Ext.cell' r2 p'
      (refine wp_region_quiet_ext (by kernel_rfl) (by kernel_rfl) ?_; (repeat (go_big_quiet_step (((go_at_call 35; exact Calls.ext_of (ALL.out _ (Ext.b _))))))); refine wpQuiet_nil ?_; rintro wq ⟨⟨_, hbq⟩, rfl⟩; obtain ⟨hccq, hffq⟩ := Bw.cells hbq; have hszq := Bw.size hbq)
      replace HW := Lib.hid (HW.out.trans hbq)
      clear e0 e1 e2 e3 e4 e5 p0 p1 p2 r0 r1 r2
      go_wp2
      go_roundg (n - (i + 1))
      case measure => omega
      case rel => exact ⟨i + 1, by omega, by omega, by go_num, HW⟩
    · obtain rfl : i = n := by omega
      have hiz : ¬ (i : Int) < i := by omega
      go_wp2
      go_ret
      exact ⟨rfl, HW.out⟩
end Go.Proofs.Sky

namespace Go.Proofs.Sky
open Go Go.RowKit Go.Shelf
set_option maxHeartbeats 4000000
set_option maxRecDepth 8000
/-! chapter 26: parts -/
/-- the cells of parts -/
def ptV (h : Nat → Bool) (is pr : Int) (D : Nat → Value) : Array Value := #[.bool (h 0), .bool (h 1), .bool (h 2), .int .i64 is, .int .i64 pr, D 0, D 1, D 2]
theorem ptV_h (h : Nat → Bool) (is pr : Int) (D : Nat → Value) (i : Nat) (hi : i < 3) : (ptV h is pr D)[i]? = some (.bool (h i)) := by
  match i, hi with
  | 0, _ => rfl
  | 1, _ => rfl
  | 2, _ => rfl
theorem ptV_is (h : Nat → Bool) (is pr : Int) (D : Nat → Value) : (ptV h is pr D)[3]? = some (.int .i64 is) := rfl
theorem ptV_pr (h : Nat → Bool) (is pr : Int) (D : Nat → Value) : (ptV h is pr D)[4]? = some (.int .i64 pr) := rfl
theorem ptV_D (h : Nat → Bool) (is pr : Int) (D : Nat → Value) (i : Nat) (hi : i < 3) : (ptV h is pr D)[5 + i]? = some (D i) := by
  match i, hi with
  | 0, _ => rfl
  | 1, _ => rfl
  | 2, _ => rfl
def upN {α : Type} (f : Nat → α) (k : Nat) (v : α) : Nat → α := fun j => if j = k then v else f j
theorem ptV_setD (h : Nat → Bool) (is pr : Int) (D : Nat → Value) (k : Nat) (hk : k < 3) (v : Value) : (ptV h is pr D).setIfInBounds (5 + k) v = ptV h is pr (upN D k v) := by
  match k, hk with
  | 0, _ => rfl
  | 1, _ => rfl
  | 2, _ => rfl
theorem ptV_seth (h : Nat → Bool) (is pr : Int) (D : Nat → Value) (k : Nat) (hk : k < 3) (v : Bool) : (ptV h is pr D).setIfInBounds k (.bool v) = ptV (upN h k v) is pr D := by
  match k, hk with
  | 0, _ => rfl
  | 1, _ => rfl
  | 2, _ => rfl
theorem ptV_setis (h : Nat → Bool) (is pr : Int) (D : Nat → Value) (v : Int) : (ptV h is pr D).setIfInBounds 3 (.int .i64 v) = ptV h v pr D := rfl
theorem ptV_setpr (h : Nat → Bool) (is pr : Int) (D : Nat → Value) (v : Int) : (ptV h is pr D).setIfInBounds 4 (.int .i64 v) = ptV h is v D := rfl
/-- v holds a list and lies in no block below base, or the list is empty -/
def RdN (w : World) (base : Nat) (v : Value) (zs : List Int) : Prop := RdI w v zs ∧ Capd v ∧ (zs = [] ∨ Fresh base v)
theorem RdN.nil (w : World) (base : Nat) : RdN w base (.slice none 0 0) [] := ⟨RdI.nil w, Capd.nil, .inl rfl⟩
theorem RdN.bw {w w' : World} {base : Nat} {v : Value} {zs : List Int} (h : RdN w base v zs) (hb : Bw w w') : RdN w' base v zs := ⟨h.1.mono hb, h.2.1, h.2.2⟩
theorem RdN.down {w : World} {base b2 : Nat} {v : Value} {zs : List Int} (h : RdN w base v zs) (hb : b2 ≤ base) : RdN w b2 v zs := ⟨h.1, h.2.1, h.2.2.elim .inl (fun h9 => .inr (h9.mono hb))⟩
theorem rdI_empty {w w' : World} {v : Value} (h : RdI w v []) : RdI w' v [] := by
  obtain ⟨h1, a, c, h2, _⟩ := h
  exact ⟨h1, a, c, h2, .inl rfl⟩
theorem RdN.set {w : World} {base b : Nat} {v : Value} {zs : List Int} (h : RdN w base v zs) (hb : b < base) (o : Nat) (u : Value) : RdN (w.setCell ⟨b, o, none⟩ u) base v zs := by
  refine ⟨?_, h.2.1, h.2.2⟩
  rcases h.2.2 with rfl | h9
  · exact rdI_empty h.1
  · exact h.1.set h9 hb o u
theorem RdN.kx {w w' : World} {base g : Nat} {v : Value} {zs : List Int} (h : RdN w base v zs) (hk : Kx g w w') (hg : g < base) : RdN w' base v zs := by
  refine ⟨?_, h.2.1, h.2.2⟩
  rcases h.2.2 with rfl | h9
  · exact rdI_empty h.1
  · exact hk.rdI h.1 h9 hg
theorem Kx.row {g : Nat} {w : World} (hg : g < w.heap.size) (cs : Array Value) : Kx g w (w.setRow g cs) :=
  ⟨⟨rfl, rfl, rfl, by simp, fun k hk => setRow_other w g k cs (by omega)⟩, fun b _ hn => setRow_other w g b cs hn⟩
/-- a row of the call's own is such a list -/
theorem RdN.of {w : World} {base : Nat} {v : Value} {zs : List Int} (h : RdI w v zs) (hc : Capd v) (hf : Fresh base v) : RdN w base v zs := ⟨h, hc, .inr hf⟩
/-! what parts are -/
structure Pm where
  h : Nat → Bool
  is : Int
  pr : Int
  Z : Nat → List Int
def sndK (h : Bool) (is pr : Int) (zs : List Int) (k : Nat) : Bool := if h then rokV zs ((k : Int) + 1) && decide (rvX zs k 0 = is ∧ rvX zs k 1 = pr) else decide (zs.length = 0)
def anyU (h : Nat → Bool) : Nat → Bool
  | 0 => false
  | k + 1 => anyU h k || h k
def sndP (p : Pm) : Bool := (List.range 3).all (fun k => sndK (p.h k) p.is p.pr (p.Z k) k) && (anyU p.h 3 || decide (p.is = 0 ∧ p.pr = 0))
theorem sndP_no {p : Pm} {k : Nat} (hk : k < 3) (h : sndK (p.h k) p.is p.pr (p.Z k) k = false) : sndP p = false := by
  have h1 : (List.range 3).all (fun k => sndK (p.h k) p.is p.pr (p.Z k) k) = false := by
    rw [List.all_eq_false]
    exact ⟨k, List.mem_range.2 hk, by rw [h]; simp⟩
  unfold sndP
  rw [h1]; rfl
theorem sndP_end {p : Pm} (h : ∀ k, k < 3 → sndK (p.h k) p.is p.pr (p.Z k) k = true) : sndP p = (anyU p.h 3 || decide (p.is = 0 ∧ p.pr = 0)) := by
  have h1 : (List.range 3).all (fun k => sndK (p.h k) p.is p.pr (p.Z k) k) = true := by
    rw [List.all_eq_true]
    exact fun k hk => h k (List.mem_range.1 hk)
  unfold sndP
  rw [h1]; rfl
theorem sndP_at {p : Pm} (h : sndP p = true) {k : Nat} (hk : k < 3) : sndK (p.h k) p.is p.pr (p.Z k) k = true := by
  unfold sndP at h
  simp only [Bool.and_eq_true, List.all_eq_true] at h
  exact h.1 k (List.mem_range.2 hk)
def zP : Pm := ⟨fun _ => false, 0, 0, fun _ => []⟩
/-- parts with a frame more -/
def smP (p : Pm) (zs : List Int) (k : Nat) : Bool := decide (p.is = rvX zs k 0 ∧ p.pr = rvX zs k 1)
def nxP (p : Pm) (zs : List Int) (k : Nat) : Pm := ⟨fun j => if j = k then true else smP p zs k && p.h j, rvX zs k 0, rvX zs k 1, fun j => if j = k then zs else if smP p zs k then p.Z j else []⟩
def addR (p : Pm) (t k : Int) (zs : List Int) : Pm × (Nat → Int) × Bool × Int :=
  if sndP p then
    if rokP t k zs then
      if (nxP p zs (kdN k)).h 0 && (nxP p zs (kdN k)).h 1 && (nxP p zs (kdN k)).h 2 then (zP, togE (rvL ((nxP p zs (kdN k)).Z 0) 0) (rvL ((nxP p zs (kdN k)).Z 1) 1) (rvL ((nxP p zs (kdN k)).Z 2) 2), true, 0)
      else (nxP p zs (kdN k), zE, false, 0)
    else (zP, zE, false, 3)
  else (zP, zE, false, 13)
def AddP (r : Pm × (Nat → Int) × Bool × Int) (e : Ending) (w' : World) : Prop := ∃ D, e = .returned (.tuple #[.agg (ptV r.1.h r.1.is r.1.pr D), .agg (eV r.2.1), .bool r.2.2.1, .int .i64 r.2.2.2]) ∧ ∀ j, j < 3 → RdI w' (D j) (r.1.Z j) ∧ Capd (D j)
theorem fillB_rok {k : Nat} (hk : k < 3) (zs : List Int) : fillB zE ((k : Int) + 1) zs = rokV zs ((k : Int) + 1) := by
  have h := bel_rok 0 ((k : Int) + 1) zs
  unfold belB rokP at h
  rw [decide_eq_true (by omega), decide_eq_true (by omega), Bool.and_true, Bool.true_and] at h
  exact h
theorem kd1 {k : Nat} (hk : k < 3) : kdN ((k : Int) + 1) = k := kdN_of k hk
theorem rok_gd1 {k : Nat} (hk : k < 3) {zs : List Int} (h : rokV zs ((k : Int) + 1) = true) : gdF ((k : Int) + 1) zs = true :=
  (rok_gd (t := 0) (k := (k : Int) + 1) (zs := zs) (by unfold rokP; rw [h, decide_eq_true (by omega)]; rfl)).1
theorem fill_is {k : Nat} (hk : k < 3) (y : Nat → Int) {zs : List Int} (h : rokV zs ((k : Int) + 1) = true) : fillX y ((k : Int) + 1) zs 1 = rvX zs k 0 ∧ fillX y ((k : Int) + 1) zs 0 = rvX zs k 1 := by
  rw [fill_X y (rok_gd1 hk h), kd1 hk]
  exact ⟨set_iss _ _ _ hk, set_prn _ _ _ hk⟩
/-- the three frames together -/
theorem fill_three {A B C : List Int} (ha : rokV A 1 = true) (hb : rokV B 2 = true) (hc : rokV C 3 = true) (h1 : rvX A 0 0 = rvX C 2 0) (h2 : rvX A 0 1 = rvX C 2 1) :
    eV (fillX (fillX (fillX zE 1 A) 2 B) 3 C) = eV (togE (rvL A 0) (rvL B 1) (rvL C 2)) := by
  have e0 : ∀ y, fillX y 1 A = setL y (LS 0) (rvX A 0) (LS 0).length := fun y => fill_X y (rok_gd1 (k := 0) (by omega) ha)
  have e1 : ∀ y, fillX y 2 B = setL y (LS 1) (rvX B 1) (LS 1).length := fun y => fill_X y (rok_gd1 (k := 1) (by omega) hb)
  have e2 : ∀ y, fillX y 3 C = setL y (LS 2) (rvX C 2) (LS 2).length := fun y => fill_X y (rok_gd1 (k := 2) (by omega) hc)
  rw [e0, e1, e2]
  apply eV_congr
  intro i hi
  have g0 : ∀ j, j < 7 → (rvL A 0).getD j 0 = rvX A 0 j := fun j hj => rvL_get A 0 j hj
  have g1 : ∀ j, j < 8 → (rvL B 1).getD j 0 = rvX B 1 j := fun j hj => rvL_get B 1 j hj
  have g2 : ∀ j, j < 8 → (rvL C 2).getD j 0 = rvX C 2 j := fun j hj => rvL_get C 2 j hj
  match i, hi with
  | 0, _ => exact (h2.symm.trans (g0 1 (by omega)).symm)
  | 1, _ => exact (h1.symm.trans (g0 0 (by omega)).symm)
  | 2, _ => exact (g0 2 (by omega)).symm
  | 3, _ => exact (g0 3 (by omega)).symm
  | 4, _ => exact (g0 4 (by omega)).symm
  | 5, _ => exact (g0 5 (by omega)).symm
  | 6, _ => exact (g0 6 (by omega)).symm
  | 7, _ => exact (g1 2 (by omega)).symm
  | 8, _ => exact (g1 3 (by omega)).symm
  | 9, _ => exact (g1 4 (by omega)).symm
  | 10, _ => exact (g1 5 (by omega)).symm
  | 11, _ => exact (g1 6 (by omega)).symm
  | 12, _ => exact (g1 7 (by omega)).symm
  | 13, _ => exact (g2 2 (by omega)).symm
  | 14, _ => exact (g2 3 (by omega)).symm
  | 15, _ => exact (g2 4 (by omega)).symm
  | 16, _ => exact (g2 5 (by omega)).symm
  | 17, _ => exact (g2 6 (by omega)).symm
  | 18, _ => exact (g2 7 (by omega)).symm
  | n + 19, h => exact absurd h (by omega)
/-! the results -/
theorem res_part {fn : Func} {p : Tmp} (h : fn.results = #[.cell p 43]) (tmps : Array Value) (w : World) (g : Nat) (cs : Array Value) (hs : cs.size = 8) (hp : tmps.getD p undef = .pointer (some ⟨g, 0, none⟩)) (hB : Blk w g 43 cs) :
    (results fn tmps).run Try.prog w = .ok (.agg cs) w := by
  have hi : (Try.prog.info? 43).map (·.size) = some 8 := by kernel_rfl
  have h9 := run_loadVar_row (P := Try.prog) w g 43 43 cs (0, 0) _ hB Try.underlying43 rfl (by rw [hs]; exact hi)
  have h8 : (results fn tmps).run Try.prog w = ((asAddr (tmps.getD p undef)).run Try.prog w).andThen fun a w₁ => (loadVar 43 a).run Try.prog w₁ := by
    simp only [results, h]
    simp [Sem.run_bind, Result.andThen]
    try rfl
  rw [h8, hp]
  simp [asAddr, h9]
theorem res_add {fn : Func} {p q u v : Tmp} (h : fn.results = #[.cell p 43, .cell q 25, .tmp u, .tmp v]) (tmps : Array Value) (w : World) (g g2 : Nat) (cs : Array Value) (hs : cs.size = 8) (X : Nat → Int) (hp : tmps.getD p undef = .pointer (some ⟨g, 0, none⟩)) (hB : Blk w g 43 cs) (hq : tmps.getD q undef = .pointer (some ⟨g2, 0, none⟩)) (hE : Blk w g2 25 (eV X)) :
    (results fn tmps).run Try.prog w = .ok (.tuple #[.agg cs, .agg (eV X), tmps.getD u undef, tmps.getD v undef]) w := by
  have hi : (Try.prog.info? 43).map (·.size) = some 8 := by kernel_rfl
  have h9 := run_loadVar_row (P := Try.prog) w g 43 43 cs (0, 0) _ hB Try.underlying43 rfl (by rw [hs]; exact hi)
  have h7 := run_loadVar_row (P := Try.prog) w g2 25 25 (eV X) (0, 0) _ hE Try.underlying25 rfl (by kernel_rfl)
  have h8 : (results fn tmps).run Try.prog w = ((asAddr (tmps.getD p undef)).run Try.prog w).andThen fun a w₁ => ((loadVar 43 a).run Try.prog w₁).andThen fun x w₂ => ((asAddr (tmps.getD q undef)).run Try.prog w₂).andThen fun b w₃ => ((loadVar 25 b).run Try.prog w₃).andThen fun y w₄ => .ok (.tuple #[x, y, tmps.getD u undef, tmps.getD v undef]) w₄ := by
    simp only [results, h]
    simp [Sem.run_bind, Result.andThen]
    try rfl
  rw [h8, hp, hq]
  simp [asAddr, h9, h7, Result.andThen]
end Go.Proofs.Sky
