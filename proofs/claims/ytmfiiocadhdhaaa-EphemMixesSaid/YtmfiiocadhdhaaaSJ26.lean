/-
  lemmas for the theorems of this claim. No conditions beyond those written in the statements.
-/
import Derived.Test.YtmfiiocadhdhaaaSD26
import Derived.Test.YtmfiiocadhdhaaaSF26
import Derived.Test.YtmfiiocadhdhaaaG26
import Derived.Deep.Cut
import Derived.Test.YtmfiiocadhdhaaaSH26
import Derived.Test.YtmfiiocadhdhaaaSA26
set_option linter.unusedVariables false
set_option linter.unusedSimpArgs false
set_option linter.unnecessarySimpa false
namespace Go.Proofs.Sky
open Go Go.RowKit Go.Shelf
set_option maxHeartbeats 4000000
set_option maxRecDepth 8000
/-! chapter 26: equal parts -/
theorem sameParts_any (h : Nat → Bool) (is pr : Int) (D E : Nat → Value) (Z : Nat → List Int) (w : World) (hD : ∀ j, j < 3 → RdI w (D j) (Z j)) (hE : ∀ j, j < 3 → RdI w (E j) (Z j)) :
    Calls Try.prog 22 #[.agg (ptV h is pr D), .agg (ptV h is pr E)] w fun e w' => e = .returned (.bool true) ∧ Bw w w' := by
  have HD := Lib.hid hD
  have HE := Lib.hid hE
  clear hD hE
  obtain ⟨g, hg⟩ : ∃ g, w.heap.size = g := ⟨_, rfl⟩
  have HBW := Lib.hid (Bw.alloc (Bw.alloc (Bw.refl w) (.cells (ptV h is pr D) 43)) (.cells (ptV h is pr E) 43))
  have K1 := Lib.hid ((Blk.new w 43 (ptV h is pr D)).alloc (.cells (ptV h is pr E) 43))
  have K2 := Lib.hid (Blk.new (w.alloc (.cells (ptV h is pr D) 43)) 43 (ptV h is pr E))
  simp only [World.size_alloc, hg] at K1 K2
  have AL := Lib.hid (fun xs v1 v2 W h1 h2 => alike_same xs v1 v2 W h1 h2)
  obtain ⟨a0, c0, v0⟩ := (HD.out 0 (by omega)).form
  obtain ⟨a1, c1, v1⟩ := (HD.out 1 (by omega)).form
  obtain ⟨a2, c2, v2⟩ := (HD.out 2 (by omega)).form
  obtain ⟨b0, d0, u0⟩ := (HE.out 0 (by omega)).form
  obtain ⟨b1, d1, u1⟩ := (HE.out 1 (by omega)).form
  obtain ⟨b2, d2, u2⟩ := (HE.out 2 (by omega)).form
  have A0 : Hid (∀ W, Bw w W → Calls Try.prog 35 #[.slice a0 (Z 0).length c0, .slice b0 (Z 0).length d0] W fun e w' => e = .returned (.bool true) ∧ Bw W w') := Lib.hid (fun W q => AL.out (Z 0) _ _ W (by rw [← v0]; exact (HD.out 0 (by omega)).mono q) (by rw [← u0]; exact (HE.out 0 (by omega)).mono q))
  have A1 : Hid (∀ W, Bw w W → Calls Try.prog 35 #[.slice a1 (Z 1).length c1, .slice b1 (Z 1).length d1] W fun e w' => e = .returned (.bool true) ∧ Bw W w') := Lib.hid (fun W q => AL.out (Z 1) _ _ W (by rw [← v1]; exact (HD.out 1 (by omega)).mono q) (by rw [← u1]; exact (HE.out 1 (by omega)).mono q))
  have A2 : Hid (∀ W, Bw w W → Calls Try.prog 35 #[.slice a2 (Z 2).length c2, .slice b2 (Z 2).length d2] W fun e w' => e = .returned (.bool true) ∧ Bw W w') := Lib.hid (fun W q => AL.out (Z 2) _ _ W (by rw [← v2]; exact (HD.out 2 (by omega)).mono q) (by rw [← u2]; exact (HE.out 2 (by omega)).mono q))
  have hq := fun W => eqS3 (h 0) (h 1) (h 2) W
  have hqg := fun op x y W => eqB3_guard (h 0) (h 1) (h 2) (h 0) (h 1) (h 2) op x y W
  have hi1 : (is == is) = true := by simp
  have hp1 : (pr == pr) = true := by simp
  go_enter Try.func22, Try.ntmps22
  go_upto_region 1 with fail
  obtain ⟨W0, hW0⟩ : ∃ W0, (w.alloc (.cells (ptV h is pr D) 43)).alloc (.cells (ptV h is pr E) 43) = W0 := ⟨_, rfl⟩
  rw [hW0] at HBW K1 K2 ⊢
  clear hW0 hg
  have f0 := K1.out.cell (ptV_h h is pr D 0 (by omega))
  have f1 := K1.out.cell (ptV_h h is pr D 1 (by omega))
  have f2 := K1.out.cell (ptV_h h is pr D 2 (by omega))
  have f3 := K1.out.cell (ptV_is h is pr D)
  have f4 := K1.out.cell (ptV_pr h is pr D)
  have e0 := K2.out.cell (ptV_h h is pr E 0 (by omega))
  have e1 := K2.out.cell (ptV_h h is pr E 1 (by omega))
  have e2 := K2.out.cell (ptV_h h is pr E 2 (by omega))
  have e3 := K2.out.cell (ptV_is h is pr E)
  have e4 := K2.out.cell (ptV_pr h is pr E)
  have KK : Hid (∀ W, Bw W0 W → W.cell? ⟨g, 5, none⟩ = some (.slice a0 (Z 0).length c0) ∧ W.cell? ⟨g, 6, none⟩ = some (.slice a1 (Z 1).length c1) ∧ W.cell? ⟨g, 7, none⟩ = some (.slice a2 (Z 2).length c2) ∧ W.cell? ⟨g + 1, 5, none⟩ = some (.slice b0 (Z 0).length d0) ∧ W.cell? ⟨g + 1, 6, none⟩ = some (.slice b1 (Z 1).length d1) ∧ W.cell? ⟨g + 1, 7, none⟩ = some (.slice b2 (Z 2).length d2)) := Lib.hid (fun W q => by
    rw [← v0, ← v1, ← v2, ← u0, ← u1, ← u2]
    exact ⟨(K1.out.bw q).cell (ptV_D h is pr D 0 (by omega)), (K1.out.bw q).cell (ptV_D h is pr D 1 (by omega)), (K1.out.bw q).cell (ptV_D h is pr D 2 (by omega)), (K2.out.bw q).cell (ptV_D h is pr E 0 (by omega)), (K2.out.bw q).cell (ptV_D h is pr E 1 (by omega)), (K2.out.bw q).cell (ptV_D h is pr E 2 (by omega))⟩)
  obtain ⟨z0, z1, z2, z3, z4, z5⟩ := KK.out W0 (Bw.refl _)
  have HW := Lib.hid (Bw.refl W0)
  clear v0 v1 v2 u0 u1 u2 AL HD HE
  generalize (Z 0).length = n0 at *
  generalize (Z 1).length = n1 at *
  generalize (Z 2).length = n2 at *
  go_wp2_with (first | (go_at_call 35; (first | (with_reducible refine Calls.mono (A0.out _ (HBW.out.trans HW.out)) ?_) | (with_reducible refine Calls.mono (A1.out _ (HBW.out.trans HW.out)) ?_) | (with_reducible refine Calls.mono (A2.out _ (HBW.out.trans HW.out)) ?_)); rintro er s1 ⟨rfl, hb9⟩; replace HW := Lib.hid (HW.out.trans hb9); clear hb9 z0 z1 z2 z3 z4 z5; (try clear f0 f1 f2 f3 f4 e0 e1 e2 e3 e4); obtain ⟨z0, z1, z2, z3, z4, z5⟩ := KK.out _ HW.out))
  go_ret
  exact ⟨rfl, HBW.out.trans HW.out⟩
end Go.Proofs.Sky

namespace Go.Proofs.Sky
open Go Go.RowKit Go.Shelf
set_option maxHeartbeats 4000000
set_option maxRecDepth 8000
/-! chapter 26: long lists lie in no small block -/
def Big (zs : List Int) : Prop := zs = [] ∨ 19 < zs.length
theorem Blk.none {w : World} {g : Nat} {T : TypeId} {cs : Array Value} (h : Blk w g T cs) {j : Nat} (hj : cs.size ≤ j) : w.cell? ⟨g, j, none⟩ = none := by
  unfold Blk at h
  simp [World.cell?, h, hj]
theorem rdI_ne {W : World} {v : Value} {zs : List Int} {g : Nat} {T : TypeId} {cs : Array Value} (h : RdI W v zs) (hl : 19 < zs.length) (hB : Blk W g T cs) (hs : cs.size ≤ 19) : ∀ b, v.ownBlock = some b → b ≠ g := by
  obtain ⟨b, o, c, rfl, _, hc⟩ := h.at (by omega)
  intro b' e hg
  simp [Value.ownBlock] at e
  subst e hg
  have h1 := hc 19 hl
  rw [hB.none (by omega)] at h1
  cases h1
theorem RdI.kxn {W W' : World} {v : Value} {zs : List Int} {g : Nat} (h : RdI W v zs) (hk : Kx g W W') (hn : ∀ b, v.ownBlock = some b → b ≠ g) : RdI W' v zs := by
  obtain ⟨h2, a, cap, rfl, h4⟩ := h
  refine ⟨h2, a, cap, rfl, ?_⟩
  rcases h4 with h4 | ⟨b, off, rfl, h6, h7⟩
  · exact .inl h4
  · refine .inr ⟨b, off, rfl, Nat.lt_of_lt_of_le h6 hk.size, fun i hi => ?_⟩
    rw [World.cell?_of_block (hk.oth b h6 (hn b rfl))]; exact h7 i hi
/-- three lists, each empty or long -/
def Dat3 (W : World) (D : Nat → Value) (Z : Nat → List Int) : Prop := ∀ j, j < 3 → RdI W (D j) (Z j) ∧ Capd (D j)
theorem Dat3.bw {W W' : World} {D : Nat → Value} {Z : Nat → List Int} (h : Dat3 W D Z) (hb : Bw W W') : Dat3 W' D Z := fun j hj => ⟨(h j hj).1.mono hb, (h j hj).2⟩
theorem Dat3.row {W : World} {D : Nat → Value} {Z : Nat → List Int} (h : Dat3 W D Z) (hz : ∀ j, j < 3 → Big (Z j)) {g : Nat} {T : TypeId} {cs : Array Value} (hB : Blk W g T cs) (hs : cs.size ≤ 19) (new : Array Value) : Dat3 (W.setRow g new) D Z := fun j hj => by
  refine ⟨?_, (h j hj).2⟩
  rcases hz j hj with e | e
  · have h1 := (h j hj).1
    rw [e] at h1 ⊢
    exact rdI_empty h1
  · exact (h j hj).1.kxn (Kx.row hB.lt new) (rdI_ne (h j hj).1 e hB hs)
theorem Dat3.one {W : World} {D : Nat → Value} {Z : Nat → List Int} (h : Dat3 W D Z) (hh : Nat → Bool) (is pr : Int) : (ptV hh is pr D).all (·.oneCell') = true :=
  one8 hh is pr D (fun j hj => by obtain ⟨x, y, e⟩ := (h j hj).1.form; exact ⟨x, _, y, e⟩)
theorem add_big (p : Pm) (t k : Int) (zs : List Int) : ∀ j, j < 3 → Big ((addR p t k zs).1.Z j) := by
  intro j hj
  unfold addR
  split
  · rename_i hs
    split
    · rename_i hr
      have hl := (gdF_of (rok_gd hr).1).len
      split
      · exact .inl rfl
      · unfold nxP
        dsimp only
        split
        · exact .inr (by omega)
        · split
          · cases hh : p.h j with
            | false => exact .inl ((snd_len hs hj).2.1 hh)
            | true =>
              have h9 := (snd_len hs hj).2.2 hh
              have := (gdF_of (rok_gd1 hj h9.1)).len
              exact .inr (by omega)
          · exact .inl rfl
    · exact .inl rfl
  · exact .inl rfl
theorem zeroPt (w : World) : (zeroValue 43).run Try.prog w = .ok (.agg #[.bool false, .bool false, .bool false, .int .i64 0, .int .i64 0, .slice none 0 0, .slice none 0 0, .slice none 0 0]) w := by kernel_rfl
end Go.Proofs.Sky
