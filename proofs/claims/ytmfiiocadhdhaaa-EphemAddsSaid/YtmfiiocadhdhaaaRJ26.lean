/-
  lemmas for the theorems of this claim. No conditions beyond those written in the statements.
-/
import Derived.Test.YtmfiiocadhdhaaaM26
import Derived.Deep.Cut
import Derived.Test.YtmfiiocadhdhaaaRdAt
import Derived.Test.YtmfiiocadhdhaaaPB26
import Derived.Test.YtmfiiocadhdhaaaRC26
import Derived.Test.YtmfiiocadhdhaaaG26
set_option linter.unusedVariables false
set_option linter.unusedSimpArgs false
set_option linter.unnecessarySimpa false
namespace Go.Proofs.Sky
open Go Go.RowKit Go.Shelf
set_option maxHeartbeats 4000000
set_option maxRecDepth 100000
theorem plE_ok : errE (plE 7) = 0 := by decide
theorem plE_fits : fitE (plE 7) 7301 = false ∧ errFt (plE 7) 7301 = 0 := by decide
def pF (d : Value) (k : Nat) : Fr := ⟨(131071 + k) % 131072, (k : Int) + 1, d, FrE (plE 7) k⟩
theorem read_pl2 (a b c : Value) : (readR [pF a 2, pF b 0, pF c 1]).2 = 0 := by kernel_rfl
theorem read_pl1 (a b c : Value) : eV (readR [pF a 2, pF b 0, pF c 1]).1 = eV (plE 7) := by kernel_rfl
theorem own_base {w : World} {b b' k n : Nat} {T : TypeId} {v : Value} {cs : List Value} (h : w.ownsRow b T k v n cs) (hb : b' ≤ b) : w.ownsRow b' T k v n cs := by
  refine ⟨h.1, ?_⟩
  rcases h.2 with h9 | ⟨g, cap, cur, e, hg, r⟩
  · exact .inl h9
  · exact .inr ⟨g, cap, cur, e, Nat.le_trans hb hg, r⟩
theorem frames_any (x : Nat → Int) (tow : Int) (w : World) (h : errE x = 0) (hr : 0 ≤ tow ∧ tow < 131072) : Calls Try.prog 25 #[.agg (eV x), .int .i64 tow] w fun e w' => (∃ v fs, e = .returned (.tuple #[v, .bool true]) ∧ OwFr w' w.heap.size v fs ∧ fs.map (fun f => (f.t, f.k, f.l)) = (List.range 3).map (frK x tow)) ∧ Bw w w' := by
  have FR := Lib.hid (fun W => Frames_ok x tow W h hr)
  unfold FrsP at FR
  have HBW := Lib.hid (Bw.alloc (Bw.refl w) (.cells (eV x) 25))
  have KX := Lib.hid (Blk.new w 25 (eV x))
  have HL : Hid (w.heap.size ≤ (w.alloc (.cells (eV x) 25)).heap.size) := Lib.hid (Bw.size HBW.out)
  generalize hS : (List.range 3).map (frK x tow) = S at *
  have HSL := Lib.hid (show S.length = 3 by rw [← hS]; simp)
  clear hS h
  go_enter Try.func25, Try.ntmps25
  go_upto_region 1 with fail
  obtain ⟨W0, hW0⟩ : ∃ W0, w.alloc (.cells (eV x) 25) = W0 := ⟨_, rfl⟩
  rw [hW0] at HBW KX HL ⊢
  clear hW0
  go_upto_region 2 with (first | ((with_reducible refine at_load 25 (.tmp 2) ?_); refine wpList_load_row rfl 25 _ rfl w.heap.size rfl 25 _ (0, 0) _ KX.out Try.underlying25 rfl (by kernel_rfl) ?_) | (go_at_call 11; (with_reducible refine Calls.mono (FR.out _) ?_); rintro e1 w1 ⟨⟨v, fs, rfl, hO, hM⟩, hb9⟩; have HO := Lib.hid hO; have HM := Lib.hid hM; clear hO hM; replace HBW := Lib.hid (HBW.out.trans hb9); clear hb9))
  have h3 : fs.length = 3 := by have h9 := congrArg List.length HM.out; rw [List.length_map, HSL.out] at h9; exact h9
  obtain ⟨a, c, rfl⟩ := (HO.out.rdFr (by omega)).1.form
  obtain ⟨n, hn⟩ : ∃ n, n = fs.length := ⟨_, rfl⟩
  rw [← hn] at HO h3 ⊢
  subst h3
  clear hn
  go_wp2
  refine bodyPost_ret (v := .tuple #[.slice a 3 c, .bool true]) ?_ rfl ⟨⟨_, fs, rfl, ?_, HM.out⟩, HBW.out⟩
  · simp [results, Try.results25, go_sem]
  · have h9 := HO.out
    exact ⟨own_base h9.own HL.out, fun f hf => ⟨(h9.rd f hf).1, (h9.rd f hf).2.1, Fresh.mono (h9.rd f hf).2.2.1 HL.out, (h9.rd f hf).2.2.2⟩⟩
end Go.Proofs.Sky

namespace Go.Proofs.Sky
open Go Go.RowKit Go.Shelf
set_option maxHeartbeats 4000000
set_option maxRecDepth 8000
section
variable {P : Program} {ops : Array Oper} {Q : Exit → Act → World → Prop}
theorem wp_alloc_new {o : Oper} {a : Act} {w : World} {K : Act → World → Prop} (ty : TypeId) (ho : o.op = .alloc ty) (dst : Option Tmp) (hd : o.dst = dst) (cs : Array Value) (hz : (zeroValue ty).run P w = .ok (.agg cs) w)
    (h : ∀ g w', w.heap.size ≤ g → Blk w' g ty cs → Bw w w' → K (a.put dst (.pointer (some ⟨g, 0, none⟩))) w') : o.wp P a w K Q :=
  wp_alloc_agg ty ho dst hd cs hz (h _ _ (Nat.le_refl _) (Blk.new w ty cs) (Bw.alloc (Bw.refl w) _))
end
theorem zeroEp (w : World) : (zeroValue 25).run Try.prog w = .ok (.agg #[.int .i64 0, .int .i64 0, .int .i64 0, .int .i64 0, .int .i64 0, .int .i64 0, .int .i64 0, .int .i64 0, .int .i64 0, .int .i64 0, .int .i64 0, .int .i64 0, .int .i64 0, .int .i64 0, .int .i64 0, .int .i64 0, .int .i64 0, .int .i64 0, .int .i64 0]) w := by kernel_rfl
theorem quiet_load {P : Program} {o : Oper} {a : Act} {C : World → Prop} {K : Act → Prop} (v : Value) (dst : Option Tmp) (hd : o.dst = dst) (hv : ∀ w, C w → (execOp a.eval o).run P w = .ok (.value v) w) (h : K (a.put dst v)) : o.quiet P a C K := by
  subst hd
  refine ⟨v, fun w hw => ?_, h⟩
  unfold Oper.quietAt Oper.quietUpon
  rw [hv w hw]
  exact ⟨rfl, rfl⟩
theorem plV : eV (plE 7) = #[.int .i64 1, .int .i64 7, .int .i64 100, .int .i64 0, .int .i64 0, .int .i64 0, .int .i64 0, .int .i64 0, .int .i64 0, .int .i64 0, .int .i64 0, .int .i64 0, .int .i64 0, .int .i64 0, .int .i64 0, .int .i64 0, .int .i64 0, .int .i64 0, .int .i64 0] := by kernel_rfl
theorem fr3 {x : Nat → Int} {tow : Int} {fs : List Fr} (h : fs.map (fun f => (f.t, f.k, f.l)) = (List.range 3).map (frK x tow)) : ∃ d0 d1 d2, fs = [⟨(tow + (0 : Nat)) % 131072, (0 : Nat) + 1, d0, FrE x 0⟩, ⟨(tow + (1 : Nat)) % 131072, (1 : Nat) + 1, d1, FrE x 1⟩, ⟨(tow + (2 : Nat)) % 131072, (2 : Nat) + 1, d2, FrE x 2⟩] := by
  have hl : fs.length = 3 := by have h9 := congrArg List.length h; simpa using h9
  match fs, hl with
  | [⟨t0, k0, d0, l0⟩, ⟨t1, k1, d1, l1⟩, ⟨t2, k2, d2, l2⟩], _ =>
    rw [show List.range 3 = [0, 1, 2] from rfl] at h
    simp only [List.map_cons, List.map_nil, frK, List.cons.injEq, Prod.mk.injEq, and_true] at h
    obtain ⟨⟨a1, a2, a3⟩, ⟨b1, b2, b3⟩, c1, c2, c3⟩ := h
    exact ⟨d0, d1, d2, by rw [a1, a2, a3, b1, b2, b3, c1, c2, c3]⟩
theorem OwFr.lit {w : World} {base : Nat} {v : Value} {fs : List Fr} (h : OwFr w base v fs) (h0 : 0 < fs.length) : ∃ g cap, v = .slice (some ⟨g, 0, none⟩) fs.length cap ∧ base ≤ g ∧ ∀ i f, fs[i]? = some f → ∀ j, j < 3 → w.cell? ⟨g, i * 3 + j, none⟩ = (frc f)[j]? := by
  rcases h.own.2 with ⟨rfl, h2⟩ | ⟨g, cap, cur, rfl, hg, hh, hnc, _⟩
  · omega
  · refine ⟨g, cap, rfl, hg, fun i f hi j hj => ?_⟩
    have hil : i < fs.length := (List.getElem?_eq_some_iff.1 hi).1
    exact (h.own.cellAt (i * 3 + j) (by omega)).trans (flatR_at fs i f hi j hj)
theorem RdFr.three {w : World} (g : Nat) (t0 k0 t1 k1 t2 k2 : Int) (d0 d1 d2 : Value) (l0 l1 l2 : List Int) (hB : Blk w g 47 #[.int .i64 t0, .int .i64 k0, d0, .int .i64 t1, .int .i64 k1, d1, .int .i64 t2, .int .i64 k2, d2])
    (h0 : RdI w d0 l0 ∧ Capd d0) (h1 : RdI w d1 l1 ∧ Capd d1) (h2 : RdI w d2 l2 ∧ Capd d2) : RdFr w (.slice (some ⟨g, 0, none⟩) 3 3) [⟨t0, k0, d0, l0⟩, ⟨t1, k1, d1, l1⟩, ⟨t2, k2, d2, l2⟩] := by
  refine ⟨by simp, fun f hf => ?_, _, 3, rfl, by simp, by omega, .inr ⟨g, 0, rfl, hB.lt, fun i f hi => ?_⟩⟩
  · simp only [List.mem_cons, List.not_mem_nil, or_false] at hf
    rcases hf with rfl | rfl | rfl
    · exact h0
    · exact h1
    · exact h2
  · match i, hi with
    | 0, hi => obtain rfl := Option.some.inj hi; exact ⟨hB.cell (j := 0) rfl, hB.cell (j := 1) rfl, hB.cell (j := 2) rfl⟩
    | 1, hi => obtain rfl := Option.some.inj hi; exact ⟨hB.cell (j := 3) rfl, hB.cell (j := 4) rfl, hB.cell (j := 5) rfl⟩
    | 2, hi => obtain rfl := Option.some.inj hi; exact ⟨hB.cell (j := 6) rfl, hB.cell (j := 7) rfl, hB.cell (j := 8) rfl⟩
    | i + 3, hi => simp at hi
theorem awake_any (w : World) : Calls Try.prog 16 #[] w fun e w' => e = .returned (.bool true) ∧ Bw w w' := by
  have PL : Hid (∀ W, Calls Try.prog 23 #[.int .i64 7] W fun e w' => e = .returned (.agg #[.int .i64 1, .int .i64 7, .int .i64 100, .int .i64 0, .int .i64 0, .int .i64 0, .int .i64 0, .int .i64 0, .int .i64 0, .int .i64 0, .int .i64 0, .int .i64 0, .int .i64 0, .int .i64 0, .int .i64 0, .int .i64 0, .int .i64 0, .int .i64 0, .int .i64 0]) ∧ Bw W w') := Lib.hid (fun W => by have h9 := plain_any 7 W; rw [plV] at h9; exact h9)
  have FR := Lib.hid (fun W => frames_any (plE 7) 131071 W plE_ok (by decide))
  have FT : Hid (∀ W, Calls Try.prog 9 #[.agg #[.int .i64 1, .int .i64 7, .int .i64 100, .int .i64 0, .int .i64 0, .int .i64 0, .int .i64 0, .int .i64 0, .int .i64 0, .int .i64 0, .int .i64 0, .int .i64 0, .int .i64 0, .int .i64 0, .int .i64 0, .int .i64 0, .int .i64 0, .int .i64 0, .int .i64 0], .int .i64 7301] W fun e w' => e = .returned (.tuple #[.bool false, .int .i64 0]) ∧ Bw W w') := Lib.hid (fun W => by have h9 := EFits_any (plE 7) 7301 W; rw [plV, plE_fits.1, plE_fits.2] at h9; exact h9)
  have RD : Hid (∀ W v a b c, RdFr W v [⟨1, 3, a, FrE (plE 7) 2⟩, ⟨131071, 1, b, FrE (plE 7) 0⟩, ⟨0, 2, c, FrE (plE 7) 1⟩] → Calls Try.prog 18 #[v] W fun e w' => e = .returned (.tuple #[.agg #[.int .i64 1, .int .i64 7, .int .i64 100, .int .i64 0, .int .i64 0, .int .i64 0, .int .i64 0, .int .i64 0, .int .i64 0, .int .i64 0, .int .i64 0, .int .i64 0, .int .i64 0, .int .i64 0, .int .i64 0, .int .i64 0, .int .i64 0, .int .i64 0, .int .i64 0], .int .i64 0]) ∧ Bw W w') := Lib.hid (fun W v a b c hv => by have h9 := ERead_any [pF a 2, pF b 0, pF c 1] v W (by have e9 : [pF a 2, pF b 0, pF c 1] = [⟨1, 3, a, FrE (plE 7) 2⟩, ⟨131071, 1, b, FrE (plE 7) 0⟩, ⟨0, 2, c, FrE (plE 7) 1⟩] := (by simp [pF]); rw [e9]; exact hv); rw [read_pl1, read_pl2, plV] at h9; exact h9)
  rw [plV] at FR
  go_enter Try.func16, Try.ntmps16
  go_upto_region 2 with (first | (go_at_call 23; (with_reducible refine Calls.mono (PL.out _) ?_); rintro e1 w1 ⟨rfl, hb1⟩) | (go_at_call 25; (with_reducible refine Calls.mono (FR.out _) ?_); rintro e1 w2 ⟨⟨v, fs, rfl, hO, hM⟩, hb2⟩; obtain ⟨d0, d1, d2, rfl⟩ := fr3 hM; clear hM; obtain ⟨g, c, rfl, hg, hcl⟩ := hO.lit (by simp)))
  have HBW := Lib.hid (hb1.trans hb2)
  have D0 := hO.rd _ (.head _)
  have D1 := hO.rd _ (.tail _ (.head _))
  have D2 := hO.rd _ (.tail _ (.tail _ (.head _)))
  dsimp only at D0 D1 D2
  obtain ⟨r0, r0c, _⟩ := D0
  obtain ⟨r1, r1c, _⟩ := D1
  obtain ⟨r2, r2c, _⟩ := D2
  have R0 := Lib.hid (And.intro r0 r0c)
  have R1 := Lib.hid (And.intro r1 r1c)
  have R2 := Lib.hid (And.intro r2 r2c)
  obtain ⟨a0, c0, rfl⟩ := r0.form
  obtain ⟨a1, c1, rfl⟩ := r1.form
  obtain ⟨a2, c2, rfl⟩ := r2.form
  clear r0 r1 r2 r0c r1c r2c hO hb1 hb2
  have q0 : w2.cell? ⟨g, 0, none⟩ = some (.int .i64 131071) := hcl 0 _ rfl 0 (by omega)
  have q1 : w2.cell? ⟨g, 1, none⟩ = some (.int .i64 1) := hcl 0 _ rfl 1 (by omega)
  have q2 : w2.cell? ⟨g, 2, none⟩ = some (.slice a0 (FrE (plE 7) 0).length c0) := hcl 0 _ rfl 2 (by omega)
  have q3 : w2.cell? ⟨g, 3, none⟩ = some (.int .i64 0) := hcl 1 _ rfl 0 (by omega)
  have q4 : w2.cell? ⟨g, 4, none⟩ = some (.int .i64 2) := hcl 1 _ rfl 1 (by omega)
  have q5 : w2.cell? ⟨g, 5, none⟩ = some (.slice a1 (FrE (plE 7) 1).length c1) := hcl 1 _ rfl 2 (by omega)
  have q6 : w2.cell? ⟨g, 6, none⟩ = some (.int .i64 1) := hcl 2 _ rfl 0 (by omega)
  have q7 : w2.cell? ⟨g, 7, none⟩ = some (.int .i64 3) := hcl 2 _ rfl 1 (by omega)
  have q8 : w2.cell? ⟨g, 8, none⟩ = some (.slice a2 (FrE (plE 7) 2).length c2) := hcl 2 _ rfl 2 (by omega)
  clear hcl hg
  have R0 := Lib.hid (show RdI w2 (.slice a0 (FrE (plE 7) 0).length c0) (FrE (plE 7) 0) ∧ Capd (.slice a0 (FrE (plE 7) 0).length c0) from R0.out)
  generalize FrE (plE 7) 0 = L0 at *
  generalize FrE (plE 7) 1 = L1 at *
  generalize FrE (plE 7) 2 = L2 at *
  go_upto_region 4 with fail
  clear FR
  go_cut [3, 4] from 35 (fun s3 s4 wc => ∃ g3, s3 = .pointer (some ⟨g3, 0, none⟩) ∧ s4 = .int .i64 0 ∧ Hid (Bw w2 wc) ∧ Hid (Blk wc g3 25 #[.int .i64 1, .int .i64 7, .int .i64 100, .int .i64 0, .int .i64 0, .int .i64 0, .int .i64 0, .int .i64 0, .int .i64 0, .int .i64 0, .int .i64 0, .int .i64 0, .int .i64 0, .int .i64 0, .int .i64 0, .int .i64 0, .int .i64 0, .int .i64 0, .int .i64 0]))
  case first =>
    refine wp_region_held_drew (S := Bw w2) (by kernel_rfl) (Bw.drew (Bw.refl _)) (fun hS => ?_)
    generalize World.drew _ = wd at hS ⊢
    refine take1 (i := 0) (some 36) rfl rfl (by kernel_rfl) (by kernel_rfl) (by kernel_rfl) (fun _ _ _ _ h => h) rfl hS ?_
    apply Exists.intro
    apply And.intro
    · intro W9 hW9; have y0 := hW9.cell' q0; have y1 := hW9.cell' q1; have y2 := hW9.cell' q2; have y3 := hW9.cell' q3; have y4 := hW9.cell' q4; have y5 := hW9.cell' q5; have y6 := hW9.cell' q6; have y7 := hW9.cell' q7; have y8 := hW9.cell' q8; go_simp; try with_reducible rfl
    simp only [Act.put, List.setIfInBounds_toArray, List.set_cons_zero, List.set_cons_succ]
    refine take1 (i := 1) (some 37) rfl rfl (by kernel_rfl) (by kernel_rfl) (by kernel_rfl) (fun _ _ _ _ h => h) rfl hS ?_
    apply Exists.intro
    apply And.intro
    · intro W9 hW9; have y0 := hW9.cell' q0; have y1 := hW9.cell' q1; have y2 := hW9.cell' q2; have y3 := hW9.cell' q3; have y4 := hW9.cell' q4; have y5 := hW9.cell' q5; have y6 := hW9.cell' q6; have y7 := hW9.cell' q7; have y8 := hW9.cell' q8; go_simp; try with_reducible rfl
    simp only [Act.put, List.setIfInBounds_toArray, List.set_cons_zero, List.set_cons_succ]
    refine take1 (i := 2) (some 38) rfl rfl (by kernel_rfl) (by kernel_rfl) (by kernel_rfl) (fun _ _ _ _ h => h) rfl hS ?_
    apply Exists.intro
    apply And.intro
    · intro W9 hW9; have y0 := hW9.cell' q0; have y1 := hW9.cell' q1; have y2 := hW9.cell' q2; have y3 := hW9.cell' q3; have y4 := hW9.cell' q4; have y5 := hW9.cell' q5; have y6 := hW9.cell' q6; have y7 := hW9.cell' q7; have y8 := hW9.cell' q8; go_simp; try with_reducible rfl
    simp only [Act.put, List.setIfInBounds_toArray, List.set_cons_zero, List.set_cons_succ]
    refine take1 (i := 3) (some 39) rfl rfl (by kernel_rfl) (by kernel_rfl) (by kernel_rfl) (fun _ _ _ _ h => h) rfl hS ?_
    apply Exists.intro
    apply And.intro
    · intro W9 hW9; have y0 := hW9.cell' q0; have y1 := hW9.cell' q1; have y2 := hW9.cell' q2; have y3 := hW9.cell' q3; have y4 := hW9.cell' q4; have y5 := hW9.cell' q5; have y6 := hW9.cell' q6; have y7 := hW9.cell' q7; have y8 := hW9.cell' q8; go_simp; try with_reducible rfl
    simp only [Act.put, List.setIfInBounds_toArray, List.set_cons_zero, List.set_cons_succ]
    refine take1 (i := 4) (some 40) rfl rfl (by kernel_rfl) (by kernel_rfl) (by kernel_rfl) (fun _ _ _ _ h => h) rfl hS ?_
    apply Exists.intro
    apply And.intro
    · intro W9 hW9; have y0 := hW9.cell' q0; have y1 := hW9.cell' q1; have y2 := hW9.cell' q2; have y3 := hW9.cell' q3; have y4 := hW9.cell' q4; have y5 := hW9.cell' q5; have y6 := hW9.cell' q6; have y7 := hW9.cell' q7; have y8 := hW9.cell' q8; go_simp; try with_reducible rfl
    simp only [Act.put, List.setIfInBounds_toArray, List.set_cons_zero, List.set_cons_succ]
    refine take1 (i := 5) (some 41) rfl rfl (by kernel_rfl) (by kernel_rfl) (by kernel_rfl) (fun _ _ _ _ h => h) rfl hS ?_
    apply Exists.intro
    apply And.intro
    · intro W9 hW9; have y0 := hW9.cell' q0; have y1 := hW9.cell' q1; have y2 := hW9.cell' q2; have y3 := hW9.cell' q3; have y4 := hW9.cell' q4; have y5 := hW9.cell' q5; have y6 := hW9.cell' q6; have y7 := hW9.cell' q7; have y8 := hW9.cell' q8; go_simp; try with_reducible rfl
    simp only [Act.put, List.setIfInBounds_toArray, List.set_cons_zero, List.set_cons_succ]
    refine take1 (i := 6) (some 42) rfl rfl (by kernel_rfl) (by kernel_rfl) (by kernel_rfl) (fun _ _ _ _ h => h) rfl hS ?_
    apply Exists.intro
    apply And.intro
    · intro W9 hW9; have y0 := hW9.cell' q0; have y1 := hW9.cell' q1; have y2 := hW9.cell' q2; have y3 := hW9.cell' q3; have y4 := hW9.cell' q4; have y5 := hW9.cell' q5; have y6 := hW9.cell' q6; have y7 := hW9.cell' q7; have y8 := hW9.cell' q8; go_simp; try with_reducible rfl
    simp only [Act.put, List.setIfInBounds_toArray, List.set_cons_zero, List.set_cons_succ]
    refine take1 (i := 7) (some 43) rfl rfl (by kernel_rfl) (by kernel_rfl) (by kernel_rfl) (fun _ _ _ _ h => h) rfl hS ?_
    apply Exists.intro
    apply And.intro
    · intro W9 hW9; have y0 := hW9.cell' q0; have y1 := hW9.cell' q1; have y2 := hW9.cell' q2; have y3 := hW9.cell' q3; have y4 := hW9.cell' q4; have y5 := hW9.cell' q5; have y6 := hW9.cell' q6; have y7 := hW9.cell' q7; have y8 := hW9.cell' q8; go_simp; try with_reducible rfl
    simp only [Act.put, List.setIfInBounds_toArray, List.set_cons_zero, List.set_cons_succ]
    refine take1 (i := 8) (some 44) rfl rfl (by kernel_rfl) (by kernel_rfl) (by kernel_rfl) (fun _ _ _ _ h => h) rfl hS ?_
    apply Exists.intro
    apply And.intro
    · intro W9 hW9; have y0 := hW9.cell' q0; have y1 := hW9.cell' q1; have y2 := hW9.cell' q2; have y3 := hW9.cell' q3; have y4 := hW9.cell' q4; have y5 := hW9.cell' q5; have y6 := hW9.cell' q6; have y7 := hW9.cell' q7; have y8 := hW9.cell' q8; go_simp; try with_reducible rfl
    simp only [Act.put, List.setIfInBounds_toArray, List.set_cons_zero, List.set_cons_succ]
    refine wpAnyH_ready (rs := [9, 14]) (by kernel_rfl) (by simp) ?_
    refine AllReadyH.cons rfl (fun K hK => ?_) ?_
    go_simp
    have hba := Bw.alloc (Bw.refl wd) (.cells #[.int .i64 1, .int .i64 3, .slice a2 L2.length c2, .int .i64 131071, .int .i64 1, .slice a0 L0.length c0, .int .i64 0, .int .i64 2, .slice a1 L1.length c1] 47)
    have HF := Lib.hid (RdFr.three wd.heap.size 1 3 131071 1 0 2 (.slice a2 L2.length c2) (.slice a0 L0.length c0) (.slice a1 L1.length c1) L2 L0 L1 (Blk.new wd 47 #[.int .i64 1, .int .i64 3, .slice a2 L2.length c2, .int .i64 131071, .int .i64 1, .slice a0 L0.length c0, .int .i64 0, .int .i64 2, .slice a1 L1.length c1]) (And.intro (R2.out.1.mono (hS.trans hba)) R2.out.2) (And.intro (R0.out.1.mono (hS.trans hba)) R0.out.2) (And.intro (R1.out.1.mono (hS.trans hba)) R1.out.2))
    refine hK.out _ _ (hS.trans hba) (fun hS => ?_)
    clear hK K
    clear hba
    generalize World.alloc wd _ = w13 at hS HF ⊢
    refine wpAnyH_ready (rs := [10, 14]) (by kernel_rfl) (by simp) ?_
    refine AllReadyH.cons rfl (fun K hK => ?_) ?_
    go_simp
    go_wp2_with (go_at_call 18; (with_reducible refine Calls.mono (RD.out _ _ _ _ _ HF.out) ?_); rintro e1 w14 ⟨rfl, hb14⟩)
    refine hK.out _ _ (hS.trans hb14) (fun hS => ?_)
    clear hK K
    refine take1 (i := 11) (some 35) rfl rfl (by kernel_rfl) (by kernel_rfl) (by kernel_rfl) (fun _ _ _ _ h => h) rfl hS ?_
    apply Exists.intro
    apply And.intro
    · intro W9 hW9; have y0 := hW9.cell' q0; have y1 := hW9.cell' q1; have y2 := hW9.cell' q2; have y3 := hW9.cell' q3; have y4 := hW9.cell' q4; have y5 := hW9.cell' q5; have y6 := hW9.cell' q6; have y7 := hW9.cell' q7; have y8 := hW9.cell' q8; go_simp; try with_reducible rfl
    simp only [Act.put, List.setIfInBounds_toArray, List.set_cons_zero, List.set_cons_succ]
    refine take1 (i := 12) (some 47) rfl rfl (by kernel_rfl) (by kernel_rfl) (by kernel_rfl) (fun _ _ _ _ h => h) rfl hS ?_
    apply Exists.intro
    apply And.intro
    · intro W9 hW9; have y0 := hW9.cell' q0; have y1 := hW9.cell' q1; have y2 := hW9.cell' q2; have y3 := hW9.cell' q3; have y4 := hW9.cell' q4; have y5 := hW9.cell' q5; have y6 := hW9.cell' q6; have y7 := hW9.cell' q7; have y8 := hW9.cell' q8; go_simp; try with_reducible rfl
    simp only [Act.put, List.setIfInBounds_toArray, List.set_cons_zero, List.set_cons_succ]
    refine take1 (i := 13) (some 48) rfl rfl (by kernel_rfl) (by kernel_rfl) (by kernel_rfl) (fun _ _ _ _ h => h) rfl hS ?_
    apply Exists.intro
    apply And.intro
    · intro W9 hW9; have y0 := hW9.cell' q0; have y1 := hW9.cell' q1; have y2 := hW9.cell' q2; have y3 := hW9.cell' q3; have y4 := hW9.cell' q4; have y5 := hW9.cell' q5; have y6 := hW9.cell' q6; have y7 := hW9.cell' q7; have y8 := hW9.cell' q8; go_simp; try with_reducible rfl
    simp only [Act.put, List.setIfInBounds_toArray, List.set_cons_zero, List.set_cons_succ]
    refine wpAnyH_ready (rs := [14]) (by kernel_rfl) (by simp) ?_
    refine AllReadyH.cons rfl (fun K hK => ?_) ?_
    rw [if_pos (by rfl)]
    refine wp_alloc_new 25 rfl (some 3) rfl _ (zeroEp _) ?_
    intro g3 w7 hg3 hN hbw
    simp only [Act.put, List.setIfInBounds_toArray, List.set_cons_zero, List.set_cons_succ]
    have NB3 := Lib.hid hN
    have HG3 := Lib.hid (Nat.le_trans hS.size hg3)
    clear hN
    refine hK.out _ _ (hS.trans hbw) (fun hS => ?_)
    clear hK K
    refine wpAnyH_ready (rs := [15]) (by kernel_rfl) (by simp) ?_
    refine AllReadyH.cons rfl (fun K hK => ?_) ?_
    rw [if_pos (by rfl)]
    refine wp_store_row0 25 _ _ rfl rfl g3 #[.int .i64 1, .int .i64 7, .int .i64 100, .int .i64 0, .int .i64 0, .int .i64 0, .int .i64 0, .int .i64 0, .int .i64 0, .int .i64 0, .int .i64 0, .int .i64 0, .int .i64 0, .int .i64 0, .int .i64 0, .int .i64 0, .int .i64 0, .int .i64 0, .int .i64 0] rfl rfl 25 #[.int .i64 0, .int .i64 0, .int .i64 0, .int .i64 0, .int .i64 0, .int .i64 0, .int .i64 0, .int .i64 0, .int .i64 0, .int .i64 0, .int .i64 0, .int .i64 0, .int .i64 0, .int .i64 0, .int .i64 0, .int .i64 0, .int .i64 0, .int .i64 0, .int .i64 0] NB3.out (by kernel_rfl) rfl (by simp [Value.oneCell']) ?_
    replace NB3 := Lib.hid (NB3.out.row #[.int .i64 1, .int .i64 7, .int .i64 100, .int .i64 0, .int .i64 0, .int .i64 0, .int .i64 0, .int .i64 0, .int .i64 0, .int .i64 0, .int .i64 0, .int .i64 0, .int .i64 0, .int .i64 0, .int .i64 0, .int .i64 0, .int .i64 0, .int .i64 0, .int .i64 0])
    refine hK.out _ _ (Bw.setRow hS HG3.out #[.int .i64 1, .int .i64 7, .int .i64 100, .int .i64 0, .int .i64 0, .int .i64 0, .int .i64 0, .int .i64 0, .int .i64 0, .int .i64 0, .int .i64 0, .int .i64 0, .int .i64 0, .int .i64 0, .int .i64 0, .int .i64 0, .int .i64 0, .int .i64 0, .int .i64 0]) (fun hS => ?_)
    clear hK K
    refine take1 (i := 16) (some 4) rfl rfl (by kernel_rfl) (by kernel_rfl) (by kernel_rfl) (fun _ _ _ _ h => h) rfl hS ?_
    apply Exists.intro
    apply And.intro
    · intro W9 hW9; have y0 := hW9.cell' q0; have y1 := hW9.cell' q1; have y2 := hW9.cell' q2; have y3 := hW9.cell' q3; have y4 := hW9.cell' q4; have y5 := hW9.cell' q5; have y6 := hW9.cell' q6; have y7 := hW9.cell' q7; have y8 := hW9.cell' q8; go_simp; try with_reducible rfl
    simp only [Act.put, List.setIfInBounds_toArray, List.set_cons_zero, List.set_cons_succ]
    refine wpAnyH_done (by kernel_rfl) ?_ _
    rotate_left
    exact AllReadyH.nil
    exact AllReadyH.nil
    refine AllReadyH.cons rfl (fun K hK => ?_) ?_
    rw [if_pos (by rfl)]
    refine wp_alloc_new 25 rfl (some 3) rfl _ (zeroEp _) ?_
    intro g3 w7 hg3 hN hbw
    simp only [Act.put, List.setIfInBounds_toArray, List.set_cons_zero, List.set_cons_succ]
    have NB3 := Lib.hid hN
    have HG3 := Lib.hid (Nat.le_trans hS.size hg3)
    replace HF := Lib.hid (HF.out.mono hbw)
    clear hN
    refine hK.out _ _ (hS.trans hbw) (fun hS => ?_)
    clear hK K
    refine wpAnyH_ready (rs := [10]) (by kernel_rfl) (by simp) ?_
    refine AllReadyH.cons rfl (fun K hK => ?_) ?_
    go_simp
    go_wp2_with (go_at_call 18; (with_reducible refine Calls.mono (RD.out _ _ _ _ _ HF.out) ?_); rintro e1 w14 ⟨rfl, hb14⟩)
    replace NB3 := Lib.hid (NB3.out.bw hb14)
    refine hK.out _ _ (hS.trans hb14) (fun hS => ?_)
    clear hK K
    refine take1 (i := 11) (some 35) rfl rfl (by kernel_rfl) (by kernel_rfl) (by kernel_rfl) (fun _ _ _ _ h => h) rfl hS ?_
    apply Exists.intro
    apply And.intro
    · intro W9 hW9; have y0 := hW9.cell' q0; have y1 := hW9.cell' q1; have y2 := hW9.cell' q2; have y3 := hW9.cell' q3; have y4 := hW9.cell' q4; have y5 := hW9.cell' q5; have y6 := hW9.cell' q6; have y7 := hW9.cell' q7; have y8 := hW9.cell' q8; go_simp; try with_reducible rfl
    simp only [Act.put, List.setIfInBounds_toArray, List.set_cons_zero, List.set_cons_succ]
    refine take1 (i := 12) (some 47) rfl rfl (by kernel_rfl) (by kernel_rfl) (by kernel_rfl) (fun _ _ _ _ h => h) rfl hS ?_
    apply Exists.intro
    apply And.intro
    · intro W9 hW9; have y0 := hW9.cell' q0; have y1 := hW9.cell' q1; have y2 := hW9.cell' q2; have y3 := hW9.cell' q3; have y4 := hW9.cell' q4; have y5 := hW9.cell' q5; have y6 := hW9.cell' q6; have y7 := hW9.cell' q7; have y8 := hW9.cell' q8; go_simp; try with_reducible rfl
    simp only [Act.put, List.setIfInBounds_toArray, List.set_cons_zero, List.set_cons_succ]
    refine take1 (i := 13) (some 48) rfl rfl (by kernel_rfl) (by kernel_rfl) (by kernel_rfl) (fun _ _ _ _ h => h) rfl hS ?_
    apply Exists.intro
    apply And.intro
    · intro W9 hW9; have y0 := hW9.cell' q0; have y1 := hW9.cell' q1; have y2 := hW9.cell' q2; have y3 := hW9.cell' q3; have y4 := hW9.cell' q4; have y5 := hW9.cell' q5; have y6 := hW9.cell' q6; have y7 := hW9.cell' q7; have y8 := hW9.cell' q8; go_simp; try with_reducible rfl
    simp only [Act.put, List.setIfInBounds_toArray, List.set_cons_zero, List.set_cons_succ]
    refine wpAnyH_ready (rs := [15]) (by kernel_rfl) (by simp) ?_
    refine AllReadyH.cons rfl (fun K hK => ?_) ?_
    rw [if_pos (by rfl)]
    refine wp_store_row0 25 _ _ rfl rfl g3 #[.int .i64 1, .int .i64 7, .int .i64 100, .int .i64 0, .int .i64 0, .int .i64 0, .int .i64 0, .int .i64 0, .int .i64 0, .int .i64 0, .int .i64 0, .int .i64 0, .int .i64 0, .int .i64 0, .int .i64 0, .int .i64 0, .int .i64 0, .int .i64 0, .int .i64 0] rfl rfl 25 #[.int .i64 0, .int .i64 0, .int .i64 0, .int .i64 0, .int .i64 0, .int .i64 0, .int .i64 0, .int .i64 0, .int .i64 0, .int .i64 0, .int .i64 0, .int .i64 0, .int .i64 0, .int .i64 0, .int .i64 0, .int .i64 0, .int .i64 0, .int .i64 0, .int .i64 0] NB3.out (by kernel_rfl) rfl (by simp [Value.oneCell']) ?_
    replace NB3 := Lib.hid (NB3.out.row #[.int .i64 1, .int .i64 7, .int .i64 100, .int .i64 0, .int .i64 0, .int .i64 0, .int .i64 0, .int .i64 0, .int .i64 0, .int .i64 0, .int .i64 0, .int .i64 0, .int .i64 0, .int .i64 0, .int .i64 0, .int .i64 0, .int .i64 0, .int .i64 0, .int .i64 0])
    refine hK.out _ _ (Bw.setRow hS HG3.out #[.int .i64 1, .int .i64 7, .int .i64 100, .int .i64 0, .int .i64 0, .int .i64 0, .int .i64 0, .int .i64 0, .int .i64 0, .int .i64 0, .int .i64 0, .int .i64 0, .int .i64 0, .int .i64 0, .int .i64 0, .int .i64 0, .int .i64 0, .int .i64 0, .int .i64 0]) (fun hS => ?_)
    clear hK K
    refine take1 (i := 16) (some 4) rfl rfl (by kernel_rfl) (by kernel_rfl) (by kernel_rfl) (fun _ _ _ _ h => h) rfl hS ?_
    apply Exists.intro
    apply And.intro
    · intro W9 hW9; have y0 := hW9.cell' q0; have y1 := hW9.cell' q1; have y2 := hW9.cell' q2; have y3 := hW9.cell' q3; have y4 := hW9.cell' q4; have y5 := hW9.cell' q5; have y6 := hW9.cell' q6; have y7 := hW9.cell' q7; have y8 := hW9.cell' q8; go_simp; try with_reducible rfl
    simp only [Act.put, List.setIfInBounds_toArray, List.set_cons_zero, List.set_cons_succ]
    refine wpAnyH_done (by kernel_rfl) ?_ _
    rotate_left
    exact AllReadyH.nil
    exact AllReadyH.nil
    exact AllReadyH.nil
    refine AllReadyH.cons rfl (fun K hK => ?_) ?_
    rw [if_pos (by rfl)]
    refine wp_alloc_new 25 rfl (some 3) rfl _ (zeroEp _) ?_
    intro g3 w7 hg3 hN hbw
    simp only [Act.put, List.setIfInBounds_toArray, List.set_cons_zero, List.set_cons_succ]
    have NB3 := Lib.hid hN
    have HG3 := Lib.hid (Nat.le_trans hS.size hg3)
    clear hN
    refine hK.out _ _ (hS.trans hbw) (fun hS => ?_)
    clear hK K
    refine wpAnyH_ready (rs := [9]) (by kernel_rfl) (by simp) ?_
    refine AllReadyH.cons rfl (fun K hK => ?_) ?_
    go_simp
    have hba := Bw.alloc (Bw.refl w7) (.cells #[.int .i64 1, .int .i64 3, .slice a2 L2.length c2, .int .i64 131071, .int .i64 1, .slice a0 L0.length c0, .int .i64 0, .int .i64 2, .slice a1 L1.length c1] 47)
    have HF := Lib.hid (RdFr.three w7.heap.size 1 3 131071 1 0 2 (.slice a2 L2.length c2) (.slice a0 L0.length c0) (.slice a1 L1.length c1) L2 L0 L1 (Blk.new w7 47 #[.int .i64 1, .int .i64 3, .slice a2 L2.length c2, .int .i64 131071, .int .i64 1, .slice a0 L0.length c0, .int .i64 0, .int .i64 2, .slice a1 L1.length c1]) (And.intro (R2.out.1.mono (hS.trans hba)) R2.out.2) (And.intro (R0.out.1.mono (hS.trans hba)) R0.out.2) (And.intro (R1.out.1.mono (hS.trans hba)) R1.out.2))
    replace NB3 := Lib.hid (NB3.out.bw hba)
    refine hK.out _ _ (hS.trans hba) (fun hS => ?_)
    clear hK K
    clear hba
    generalize World.alloc w7 _ = w13 at hS HF NB3 ⊢
    refine wpAnyH_ready (rs := [10]) (by kernel_rfl) (by simp) ?_
    refine AllReadyH.cons rfl (fun K hK => ?_) ?_
    go_simp
    go_wp2_with (go_at_call 18; (with_reducible refine Calls.mono (RD.out _ _ _ _ _ HF.out) ?_); rintro e1 w14 ⟨rfl, hb14⟩)
    replace NB3 := Lib.hid (NB3.out.bw hb14)
    refine hK.out _ _ (hS.trans hb14) (fun hS => ?_)
    clear hK K
    refine take1 (i := 11) (some 35) rfl rfl (by kernel_rfl) (by kernel_rfl) (by kernel_rfl) (fun _ _ _ _ h => h) rfl hS ?_
    apply Exists.intro
    apply And.intro
    · intro W9 hW9; have y0 := hW9.cell' q0; have y1 := hW9.cell' q1; have y2 := hW9.cell' q2; have y3 := hW9.cell' q3; have y4 := hW9.cell' q4; have y5 := hW9.cell' q5; have y6 := hW9.cell' q6; have y7 := hW9.cell' q7; have y8 := hW9.cell' q8; go_simp; try with_reducible rfl
    simp only [Act.put, List.setIfInBounds_toArray, List.set_cons_zero, List.set_cons_succ]
    refine take1 (i := 12) (some 47) rfl rfl (by kernel_rfl) (by kernel_rfl) (by kernel_rfl) (fun _ _ _ _ h => h) rfl hS ?_
    apply Exists.intro
    apply And.intro
    · intro W9 hW9; have y0 := hW9.cell' q0; have y1 := hW9.cell' q1; have y2 := hW9.cell' q2; have y3 := hW9.cell' q3; have y4 := hW9.cell' q4; have y5 := hW9.cell' q5; have y6 := hW9.cell' q6; have y7 := hW9.cell' q7; have y8 := hW9.cell' q8; go_simp; try with_reducible rfl
    simp only [Act.put, List.setIfInBounds_toArray, List.set_cons_zero, List.set_cons_succ]
    refine take1 (i := 13) (some 48) rfl rfl (by kernel_rfl) (by kernel_rfl) (by kernel_rfl) (fun _ _ _ _ h => h) rfl hS ?_
    apply Exists.intro
    apply And.intro
    · intro W9 hW9; have y0 := hW9.cell' q0; have y1 := hW9.cell' q1; have y2 := hW9.cell' q2; have y3 := hW9.cell' q3; have y4 := hW9.cell' q4; have y5 := hW9.cell' q5; have y6 := hW9.cell' q6; have y7 := hW9.cell' q7; have y8 := hW9.cell' q8; go_simp; try with_reducible rfl
    simp only [Act.put, List.setIfInBounds_toArray, List.set_cons_zero, List.set_cons_succ]
    refine wpAnyH_ready (rs := [15]) (by kernel_rfl) (by simp) ?_
    refine AllReadyH.cons rfl (fun K hK => ?_) ?_
    rw [if_pos (by rfl)]
    refine wp_store_row0 25 _ _ rfl rfl g3 #[.int .i64 1, .int .i64 7, .int .i64 100, .int .i64 0, .int .i64 0, .int .i64 0, .int .i64 0, .int .i64 0, .int .i64 0, .int .i64 0, .int .i64 0, .int .i64 0, .int .i64 0, .int .i64 0, .int .i64 0, .int .i64 0, .int .i64 0, .int .i64 0, .int .i64 0] rfl rfl 25 #[.int .i64 0, .int .i64 0, .int .i64 0, .int .i64 0, .int .i64 0, .int .i64 0, .int .i64 0, .int .i64 0, .int .i64 0, .int .i64 0, .int .i64 0, .int .i64 0, .int .i64 0, .int .i64 0, .int .i64 0, .int .i64 0, .int .i64 0, .int .i64 0, .int .i64 0] NB3.out (by kernel_rfl) rfl (by simp [Value.oneCell']) ?_
    replace NB3 := Lib.hid (NB3.out.row #[.int .i64 1, .int .i64 7, .int .i64 100, .int .i64 0, .int .i64 0, .int .i64 0, .int .i64 0, .int .i64 0, .int .i64 0, .int .i64 0, .int .i64 0, .int .i64 0, .int .i64 0, .int .i64 0, .int .i64 0, .int .i64 0, .int .i64 0, .int .i64 0, .int .i64 0])
    refine hK.out _ _ (Bw.setRow hS HG3.out #[.int .i64 1, .int .i64 7, .int .i64 100, .int .i64 0, .int .i64 0, .int .i64 0, .int .i64 0, .int .i64 0, .int .i64 0, .int .i64 0, .int .i64 0, .int .i64 0, .int .i64 0, .int .i64 0, .int .i64 0, .int .i64 0, .int .i64 0, .int .i64 0, .int .i64 0]) (fun hS => ?_)
    clear hK K
    refine take1 (i := 16) (some 4) rfl rfl (by kernel_rfl) (by kernel_rfl) (by kernel_rfl) (fun _ _ _ _ h => h) rfl hS ?_
    apply Exists.intro
    apply And.intro
    · intro W9 hW9; have y0 := hW9.cell' q0; have y1 := hW9.cell' q1; have y2 := hW9.cell' q2; have y3 := hW9.cell' q3; have y4 := hW9.cell' q4; have y5 := hW9.cell' q5; have y6 := hW9.cell' q6; have y7 := hW9.cell' q7; have y8 := hW9.cell' q8; go_simp; try with_reducible rfl
    simp only [Act.put, List.setIfInBounds_toArray, List.set_cons_zero, List.set_cons_succ]
    refine wpAnyH_done (by kernel_rfl) ?_ _
    rotate_left
    exact AllReadyH.nil
    exact AllReadyH.nil
    exact AllReadyH.nil
    exact AllReadyH.nil
    all_goals
      go_wp2
      go_meet
      exact ⟨g3, rfl, rfl, Lib.hid hS, NB3⟩
  case rest =>
    obtain ⟨g3, rfl, rfl, hb3, B3⟩ := hcut
    replace HBW := Lib.hid (HBW.out.trans hb3.out)
    clear hb3 q0 q1 q2 q3 q4 q5 q6 q7 q8 R0 R1 R2 RD
    go_upto_region 6 with (first | (go_at_call 23; (with_reducible refine Calls.mono (PL.out _) ?_); rintro e1 w4 ⟨rfl, hb4⟩) | (go_at_call 9; (with_reducible refine Calls.mono (FT.out _) ?_); rintro e1 w5 ⟨rfl, hb5⟩))
    have hb6 := hb4.trans hb5
    replace HBW := Lib.hid (HBW.out.trans hb6)
    replace B3 := Lib.hid (B3.out.bw hb6)
    clear hb4 hb5 hb6
    have hq1 : ∀ w, (Op.equalIn 10000 25 (.agg #[.int .i64 1, .int .i64 7, .int .i64 100, .int .i64 0, .int .i64 0, .int .i64 0, .int .i64 0, .int .i64 0, .int .i64 0, .int .i64 0, .int .i64 0, .int .i64 0, .int .i64 0, .int .i64 0, .int .i64 0, .int .i64 0, .int .i64 0, .int .i64 0, .int .i64 0]) (.agg #[.int .i64 1, .int .i64 7, .int .i64 100, .int .i64 0, .int .i64 0, .int .i64 0, .int .i64 0, .int .i64 0, .int .i64 0, .int .i64 0, .int .i64 0, .int .i64 0, .int .i64 0, .int .i64 0, .int .i64 0, .int .i64 0, .int .i64 0, .int .i64 0, .int .i64 0])).run Try.prog w = .ok true w := fun w => by have h9 := eqE_self (plE 7) w; rw [plV] at h9; exact h9
    have hq2 : ∀ w op p q, (eqGuard op 25 p q (.agg #[.int .i64 1, .int .i64 7, .int .i64 100, .int .i64 0, .int .i64 0, .int .i64 0, .int .i64 0, .int .i64 0, .int .i64 0, .int .i64 0, .int .i64 0, .int .i64 0, .int .i64 0, .int .i64 0, .int .i64 0, .int .i64 0, .int .i64 0, .int .i64 0, .int .i64 0]) (.agg #[.int .i64 1, .int .i64 7, .int .i64 100, .int .i64 0, .int .i64 0, .int .i64 0, .int .i64 0, .int .i64 0, .int .i64 0, .int .i64 0, .int .i64 0, .int .i64 0, .int .i64 0, .int .i64 0, .int .i64 0, .int .i64 0, .int .i64 0, .int .i64 0, .int .i64 0])).run Try.prog w = .ok () w := fun w op p q => by have h9 := eqE_guard (plE 7) (plE 7) op p q w; rw [plV] at h9; exact h9
    have hSZ : (Try.prog.info? 25).map (·.size) = some (#[.int .i64 1, .int .i64 7, .int .i64 100, .int .i64 0, .int .i64 0, .int .i64 0, .int .i64 0, .int .i64 0, .int .i64 0, .int .i64 0, .int .i64 0, .int .i64 0, .int .i64 0, .int .i64 0, .int .i64 0, .int .i64 0, .int .i64 0, .int .i64 0, .int .i64 0] : Array Value).size := by kernel_rfl
    generalize (#[.int .i64 1, .int .i64 7, .int .i64 100, .int .i64 0, .int .i64 0, .int .i64 0, .int .i64 0, .int .i64 0, .int .i64 0, .int .i64 0, .int .i64 0, .int .i64 0, .int .i64 0, .int .i64 0, .int .i64 0, .int .i64 0, .int .i64 0, .int .i64 0, .int .i64 0] : Array Value) = A at *
    refine wp_region_quiet_ext (by kernel_rfl) (by kernel_rfl) ?_
    go_big_quiet_want
    refine quiet_load (.agg A) (some 54) rfl (fun W hW => ?_) ?_
    · obtain ⟨p, rfl⟩ := hW
      exact run_load_row 25 _ rfl g3 rfl 25 A _ (B3.out.bw p.b) Try.underlying25 rfl hSZ
    simp only [Act.put, List.setIfInBounds_toArray, List.set_cons_zero, List.set_cons_succ]
    go_big_quiet_on
    (repeat (go_big_quiet_step ((go_at_call 23; with_reducible refine Calls.ext_of (PL.out _)))))
    refine wpQuiet_nil ?_
    rintro wq ⟨⟨_, hbq⟩, rfl⟩
    replace HBW := Lib.hid (HBW.out.trans hbq)
    go_wp2
    go_ret
    exact ⟨rfl, HBW.out⟩
end Go.Proofs.Sky

namespace Go.Proofs.Sky
open Go Go.RowKit Go.Shelf
set_option maxHeartbeats 4000000
set_option maxRecDepth 8000
def lgB (fs : List Fr) : Bool := decide (40 < fs.length) || fs.any (fun f => decide (300 < f.l.length))
theorem lgB_no {fs : List Fr} (h1 : ¬ 40 < fs.length) (h2 : ∀ j, j < fs.length → ¬ 300 < (fs.getD j dFr).l.length) : lgB fs = false := by
  unfold lgB
  rw [decide_eq_false h1, Bool.false_or, List.any_eq_false]
  intro f hf
  obtain ⟨j, hj, rfl⟩ := List.getElem_of_mem hf
  have h9 := h2 j hj
  rw [List.getD_eq_getElem?_getD, List.getElem?_eq_getElem hj] at h9
  simpa using h9
theorem large_any (fs : List Fr) (v : Value) (w : World) (hv : RdFr w v fs) : Calls Try.prog 17 #[v] w fun e w' => e = .returned (.bool (lgB fs)) ∧ Bw w w' := by
  have HV := Lib.hid hv
  obtain ⟨a, c, rfl⟩ := hv.form
  have HFD := Lib.hid hv.2.1
  clear hv
  obtain ⟨n, hn⟩ : ∃ n, n = fs.length := ⟨_, rfl⟩
  rw [← hn]
  have HN := Lib.hid hn
  clear hn
  go_enter Try.func17, Try.ntmps17
  by_cases q0 : 40 < n
  · have q0z : (40 : Int) < n := by omega
    have HG := Lib.hid (show lgB fs = true by unfold lgB; rw [decide_eq_true (by have := HN.out; omega)]; rfl)
    go_wp2
    go_ret
    exact ⟨by rw [HG.out]; rfl, Bw.refl _⟩
  have q0z : ¬ (40 : Int) < n := by omega
  go_wp2
  go_loopg [3] n (fun gg s3 wr => ∃ i : Nat, i ≤ n ∧ n - i ≤ gg ∧ s3 = .int .i64 i ∧ wr = w ∧ Hid (∀ j, j < i → ¬ 300 < (fs.getD j dFr).l.length))
  case atStart => exact ⟨0, by omega, by omega, rfl, rfl, Lib.hid (fun j h => by omega)⟩
  case round =>
    obtain ⟨i, hi, hgg, rfl, rfl, HB⟩ := hrel
    by_cases hlt : i < n
    · have hiz : (i : Int) < n := by omega
      have hi0 : (0 : Int) ≤ i := by omega
      have hat : fs[i]? = some (fs.getD i dFr) := getD_fr (by have := HN.out; omega)
      obtain ⟨bl, of_, cl, hvl, hcl⟩ := HV.out.at (by have := HN.out; omega)
      injection hvl with i1 i2 i3
      subst i1
      clear i2 i3
      obtain ⟨_, _, d2⟩ := hcl i _ hat
      have hdd := (HFD.out _ (List.mem_of_getElem? hat)).1
      obtain ⟨af, cf, hfd⟩ := hdd.form
      rw [hfd] at d2
      have HG1 := Lib.hid (show 300 < (fs.getD i dFr).l.length → lgB fs = true from fun h => by
        unfold lgB
        rw [List.any_eq_true.2 ⟨_, List.mem_of_getElem? hat, decide_eq_true h⟩, Bool.or_true])
      have HG0 := Lib.hid (show ¬ 300 < (fs.getD i dFr).l.length → ∀ j, j < i + 1 → ¬ 300 < (fs.getD j dFr).l.length from fun h j hj => by
        rcases Nat.lt_succ_iff_lt_or_eq.1 hj with h8 | rfl
        · exact HB.out j h8
        · exact h)
      generalize (fs.getD i dFr).l.length = LN at *
      clear hcl hat hdd hfd
      by_cases h3 : 300 < LN
      · have h3z : (300 : Int) < LN := by omega
        have HG := Lib.hid (HG1.out h3)
        go_wp2
        go_ret
        exact ⟨by rw [HG.out]; rfl, Bw.refl _⟩
      · have h3z : ¬ (300 : Int) < LN := by omega
        have HX := Lib.hid (HG0.out h3)
        go_wp2
        go_roundg (n - (i + 1))
        case measure => omega
        case rel => exact ⟨i + 1, by omega, by omega, by go_num, rfl, HX⟩
    · obtain rfl : i = n := by omega
      have hiz : ¬ (i : Int) < i := by omega
      have HG := Lib.hid (lgB_no (by have := HN.out; omega) (fun j hj => HB.out j (by have := HN.out; omega)))
      go_wp2
      go_ret
      exact ⟨by rw [HG.out]; rfl, Bw.refl _⟩
theorem law_reads (fs : List Fr) (v : Value) (w : World) (hv : RdFr w v fs) : Calls Try.prog 4 #[v] w fun e w' => e = .returned (.bool true) ∧ Bw w w' := by
  have HV := Lib.hid hv
  obtain ⟨a, c, rfl⟩ := hv.form
  clear hv
  have AW := Lib.hid (fun W => awake_any W)
  have LA := Lib.hid (fun W h => large_any fs (.slice a fs.length c) W h)
  have RP := Lib.hid (fun W h => ERead_any fs (.slice a fs.length c) W h)
  have RR := Lib.hid (fun W (h : RdFr W (.slice a fs.length c) fs) => by have h9 := rRead_any fs (.slice a fs.length c) W h; rw [← (read_eq fs).1, ← (read_eq fs).2] at h9; exact h9)
  have hq1 := fun W => eqE_self (readR fs).1 W
  have hq2 := fun W op p q => eqE_guard (readR fs).1 (readR fs).1 op p q W
  have HA1 : Hid ((eV (readR fs).1).all (·.oneCell') = true) := Lib.hid (by simp [Value.oneCell', eV])
  have HA2 : Hid ((Try.prog.info? 25).map (·.size) = some (eV (readR fs).1).size) := Lib.hid (by kernel_rfl)
  have HA3 : Hid ((#[.int .i64 0, .int .i64 0, .int .i64 0, .int .i64 0, .int .i64 0, .int .i64 0, .int .i64 0, .int .i64 0, .int .i64 0, .int .i64 0, .int .i64 0, .int .i64 0, .int .i64 0, .int .i64 0, .int .i64 0, .int .i64 0, .int .i64 0, .int .i64 0, .int .i64 0] : Array Value).size = (eV (readR fs).1).size) := Lib.hid rfl
  generalize eV (readR fs).1 = A at *
  generalize (readR fs).2 = E at *
  go_enter Try.func4, Try.ntmps4
  cases hlg : lgB fs with
  | true =>
    rw [hlg] at LA
    clear hlg
    go_wp2_with (first | (go_at_call 17; (with_reducible refine Calls.mono (LA.out _ HV.out) ?_); rintro e1 w1 ⟨rfl, hb1⟩) | (go_at_call 16; (with_reducible refine Calls.mono (AW.out _) ?_); rintro e2 w2 ⟨rfl, hb2⟩))
    go_ret
    exact ⟨rfl, hb1.trans hb2⟩
  | false =>
    rw [hlg] at LA
    clear hlg
    go_upto_region 4 with (first | (go_at_call 17; (with_reducible refine Calls.mono (LA.out _ HV.out) ?_); rintro e1 w1 ⟨rfl, hb1⟩) | (go_at_call 18; (with_reducible refine Calls.mono (RP.out _ (HV.out.mono hb1)) ?_); rintro e2 w2 ⟨rfl, hb2⟩) | ((with_reducible refine at_store 25 (.tmp 3) (.tmp 13) ?_); refine wpList_store_row rfl 25 (.tmp 3) (.tmp 13) rfl _ A rfl rfl 25 _ (Blk.new _ 25 #[.int .i64 0, .int .i64 0, .int .i64 0, .int .i64 0, .int .i64 0, .int .i64 0, .int .i64 0, .int .i64 0, .int .i64 0, .int .i64 0, .int .i64 0, .int .i64 0, .int .i64 0, .int .i64 0, .int .i64 0, .int .i64 0, .int .i64 0, .int .i64 0, .int .i64 0]) HA2.out HA3.out HA1.out ?_))
    have HBW := Lib.hid (hb1.trans hb2)
    clear hb1 hb2
    have B3 := Lib.hid ((Blk.new w2 25 #[.int .i64 0, .int .i64 0, .int .i64 0, .int .i64 0, .int .i64 0, .int .i64 0, .int .i64 0, .int .i64 0, .int .i64 0, .int .i64 0, .int .i64 0, .int .i64 0, .int .i64 0, .int .i64 0, .int .i64 0, .int .i64 0, .int .i64 0, .int .i64 0, .int .i64 0]).row A)
    have hbs := Bw.setRow (Bw.alloc (Bw.refl w2) (.cells #[.int .i64 0, .int .i64 0, .int .i64 0, .int .i64 0, .int .i64 0, .int .i64 0, .int .i64 0, .int .i64 0, .int .i64 0, .int .i64 0, .int .i64 0, .int .i64 0, .int .i64 0, .int .i64 0, .int .i64 0, .int .i64 0, .int .i64 0, .int .i64 0, .int .i64 0] 25)) (Nat.le_refl _) A
    obtain ⟨g3, hg3⟩ : ∃ g3, w2.heap.size = g3 := ⟨_, rfl⟩
    rw [hg3] at B3 hbs ⊢
    obtain ⟨W3, hW3⟩ : ∃ W3, (w2.alloc (.cells #[.int .i64 0, .int .i64 0, .int .i64 0, .int .i64 0, .int .i64 0, .int .i64 0, .int .i64 0, .int .i64 0, .int .i64 0, .int .i64 0, .int .i64 0, .int .i64 0, .int .i64 0, .int .i64 0, .int .i64 0, .int .i64 0, .int .i64 0, .int .i64 0, .int .i64 0] 25)).setRow g3 A = W3 := ⟨_, rfl⟩
    rw [hW3] at B3 hbs ⊢
    clear hW3 hg3
    replace HBW := Lib.hid (HBW.out.trans hbs)
    clear hbs
    go_upto_region 5 with (first | (go_at_call 19; (with_reducible refine Calls.mono (RR.out _ (HV.out.mono HBW.out)) ?_); rintro e4 w4 ⟨rfl, hb4⟩) | ((with_reducible refine at_store 25 (.tmp 5) (.tmp 18) ?_); refine wpList_store_row rfl 25 (.tmp 5) (.tmp 18) rfl _ A rfl rfl 25 _ (Blk.new _ 25 #[.int .i64 0, .int .i64 0, .int .i64 0, .int .i64 0, .int .i64 0, .int .i64 0, .int .i64 0, .int .i64 0, .int .i64 0, .int .i64 0, .int .i64 0, .int .i64 0, .int .i64 0, .int .i64 0, .int .i64 0, .int .i64 0, .int .i64 0, .int .i64 0, .int .i64 0]) HA2.out HA3.out HA1.out ?_))
    replace HBW := Lib.hid (HBW.out.trans hb4)
    replace B3 := Lib.hid (B3.out.bw hb4)
    clear hb4
    have B5 := Lib.hid ((Blk.new w4 25 #[.int .i64 0, .int .i64 0, .int .i64 0, .int .i64 0, .int .i64 0, .int .i64 0, .int .i64 0, .int .i64 0, .int .i64 0, .int .i64 0, .int .i64 0, .int .i64 0, .int .i64 0, .int .i64 0, .int .i64 0, .int .i64 0, .int .i64 0, .int .i64 0, .int .i64 0]).row A)
    have hbs := Bw.setRow (Bw.alloc (Bw.refl w4) (.cells #[.int .i64 0, .int .i64 0, .int .i64 0, .int .i64 0, .int .i64 0, .int .i64 0, .int .i64 0, .int .i64 0, .int .i64 0, .int .i64 0, .int .i64 0, .int .i64 0, .int .i64 0, .int .i64 0, .int .i64 0, .int .i64 0, .int .i64 0, .int .i64 0, .int .i64 0] 25)) (Nat.le_refl _) A
    obtain ⟨g5, hg5⟩ : ∃ g5, w4.heap.size = g5 := ⟨_, rfl⟩
    rw [hg5] at B5 hbs ⊢
    obtain ⟨W5, hW5⟩ : ∃ W5, (w4.alloc (.cells #[.int .i64 0, .int .i64 0, .int .i64 0, .int .i64 0, .int .i64 0, .int .i64 0, .int .i64 0, .int .i64 0, .int .i64 0, .int .i64 0, .int .i64 0, .int .i64 0, .int .i64 0, .int .i64 0, .int .i64 0, .int .i64 0, .int .i64 0, .int .i64 0, .int .i64 0] 25)).setRow g5 A = W5 := ⟨_, rfl⟩
    rw [hW5] at B5 hbs ⊢
    clear hW5 hg5
    replace HBW := Lib.hid (HBW.out.trans hbs)
    replace B3 := Lib.hid (B3.out.bw hbs)
    clear hbs
    have hee : (E == E) = true := by simp
    go_wp2_with (first | ((with_reducible refine at_load 25 (.tmp 3) ?_); refine wpList_load_row rfl 25 _ rfl g3 rfl 25 _ (0, 0) _ B3.out Try.underlying25 rfl HA2.out ?_) | ((with_reducible refine at_load 25 (.tmp 5) ?_); refine wpList_load_row rfl 25 _ rfl g5 rfl 25 _ (0, 0) _ B5.out Try.underlying25 rfl HA2.out ?_) | (go_at_call 16; (with_reducible refine Calls.mono (AW.out _) ?_); rintro e6 w6 ⟨rfl, hb6⟩; replace HBW := Lib.hid (HBW.out.trans hb6)))
    go_ret
    exact ⟨rfl, HBW.out⟩
end Go.Proofs.Sky

namespace Go.Proofs.Sky
open Go Go.RowKit Go.Shelf
set_option maxHeartbeats 4000000
set_option maxRecDepth 8000
/-! chapter 26: equal lists of frames -/
theorem sameFr_any (fs gs : List Fr) (v1 v2 : Value) (w : World) (h1 : RdFr w v1 fs) (h2 : RdFr w v2 gs) (he : fs.map (fun f => (f.t, f.k, f.l)) = gs.map (fun f => (f.t, f.k, f.l))) : Calls Try.prog 15 #[v1, v2] w fun e w' => e = .returned (.bool true) ∧ Bw w w' := by
  have H1 := Lib.hid h1
  have H2 := Lib.hid h2
  have hlen : gs.length = fs.length := by have h9 := congrArg List.length he; simpa using h9.symm
  obtain ⟨a1, c1, rfl⟩ := h1.form
  obtain ⟨a2, c2, rfl⟩ := h2.form
  have D1 := Lib.hid h1.2.1
  have D2 := Lib.hid h2.2.1
  clear h1 h2
  have AL := Lib.hid (fun xs v1 v2 W h1 h2 => alike_same xs v1 v2 W h1 h2)
  rw [hlen] at H2 ⊢
  obtain ⟨n, hn⟩ : ∃ n, n = fs.length := ⟨_, rfl⟩
  rw [← hn] at H2 ⊢
  have hle := H1.out.1
  rw [← hn] at hle
  have HN := Lib.hid hn
  have HEQ := Lib.hid (show ∀ i, i < n → (fs.getD i dFr).t = (gs.getD i dFr).t ∧ (fs.getD i dFr).k = (gs.getD i dFr).k ∧ (fs.getD i dFr).l = (gs.getD i dFr).l from fun i hi => by
    have h9 := congrArg (fun l => l[i]?) he
    simp only [List.getElem?_map] at h9
    rw [getD_fr (fs := fs) (by omega), getD_fr (fs := gs) (by omega)] at h9
    simpa using h9)
  have HNG := Lib.hid (show n ≤ gs.length by omega)
  clear hn he hlen
  have hnn : ((n : Int) != n) = false := by simp
  go_enter Try.func15, Try.ntmps15
  go_wp2
  go_loopg [5] n (fun gg s5 wr => ∃ i : Nat, i ≤ n ∧ n - i ≤ gg ∧ s5 = .int .i64 i ∧ Hid (Bw w wr))
  case atStart => exact ⟨0, by omega, by omega, rfl, Lib.hid (Bw.refl _)⟩
  case round =>
    obtain ⟨i, hi, hgg, rfl, HW⟩ := hrel
    obtain ⟨wa, rfl⟩ : ∃ wa, wa = wr := ⟨_, rfl⟩
    by_cases hlt : i < n
    · have hiz : (i : Int) < n := by omega
      have hi0 : (0 : Int) ≤ i := by omega
      have hat1 : fs[i]? = some (fs.getD i dFr) := getD_fr (by have := HN.out; omega)
      have hat2 : gs[i]? = some (gs.getD i dFr) := getD_fr (by have := HNG.out; omega)
      obtain ⟨b1, o1, l1, hv1, hc1⟩ := (H1.out.mono HW.out).at (by have := HN.out; omega)
      injection hv1 with i1 i2 i3
      subst i1
      clear i2 i3
      obtain ⟨b2, o2, l2, hv2, hc2⟩ := (H2.out.mono HW.out).at (by have := HNG.out; omega)
      injection hv2 with i1 i2 i3
      subst i1
      clear i2 i3
      obtain ⟨p0, p1, p2⟩ := hc1 i _ hat1
      obtain ⟨r0, r1, r2⟩ := hc2 i _ hat2
      have hd1 := (D1.out _ (List.mem_of_getElem? hat1)).1.mono HW.out
      have hd2 := (D2.out _ (List.mem_of_getElem? hat2)).1.mono HW.out
      obtain ⟨e0, e1, e2⟩ := HEQ.out i hlt
      rw [← e0] at r0
      rw [← e1] at r1
      rw [← e2] at hd2
      clear hc1 hc2 hat1 hat2 e0 e1 e2
      generalize (fs.getD i dFr).t = t at *
      generalize (fs.getD i dFr).k = k at *
      generalize (fs.getD i dFr).l = l at *
      generalize (fs.getD i dFr).d = d1 at *
      generalize (gs.getD i dFr).d = d2 at *
      have ALL := Lib.hid (fun W (p : Bw wa W) => AL.out l d1 d2 W (hd1.mono p) (hd2.mono p))
      clear hd1 hd2
      have q0 : (t != t) = false := by simp
      have q1 : (k != k) = false := by simp
      go_upto_region 6 with fail
      have e0 := fun p' : Ext wa => Ext.cell' p0 p'
      have e1 := fun p' : Ext wa => Ext.cell' p1 p'
      have e2 := fun p' : Ext wa => Ext.cell' p2 p'
      have e3 := fun p' : Ext wa => Ext.cell' r0 p'
      have e4 := fun p' : Ext wa => Ext.cell' r1 p'
      have e5 := fun p' : Ext wa => Ext.cell' r2 p'
      (refine wp_region_quiet_ext (by kernel_rfl) (by kernel_rfl) ?_; (repeat (go_big_quiet_step (((go_at_call 35; exact Calls.ext_of (ALL.out _ (Ext.b _))))))); refine wpQuiet_nil ?_; rintro wq ⟨⟨_, hbq⟩, rfl⟩; obtain ⟨hccq, hffq⟩ := Bw.cells hbq; have hszq := Bw.size hbq)
      replace HW := Lib.hid (HW.out.trans hbq)
      clear e0 e1 e2 e3 e4 e5 p0 p1 p2 r0 r1 r2
      go_wp2
      go_roundg (n - (i + 1))
      case measure => omega
      case rel => exact ⟨i + 1, by omega, by omega, by go_num, HW⟩
    · obtain rfl : i = n := by omega
      have hiz : ¬ (i : Int) < i := by omega
      go_wp2
      go_ret
      exact ⟨rfl, HW.out⟩
end Go.Proofs.Sky
