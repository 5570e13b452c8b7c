/-
  lemmas for the theorems of this claim. No conditions beyond those written in the statements.
-/
import Derived.Test.YtmfiiocadhdhaaaSG26
import Derived.Test.YtmfiiocadhdhaaaSK26
import Derived.Deep.Cut
set_option linter.unusedVariables false
set_option linter.unusedSimpArgs false
set_option linter.unnecessarySimpa false
namespace Go.Proofs.Sky
open Go Go.RowKit Go.Shelf
set_option maxHeartbeats 4000000
set_option maxRecDepth 8000
/-! chapter 26: EphemBack -/
/-- three frames in a row of memory -/
structure Row3 (W : World) (gf : Nat) (X : Nat → Int) (tm : Nat → Int) (D : Nat → Value) : Prop where
  c : ∀ k, k < 3 → W.cell? ⟨gf, k * 3, none⟩ = some (.int .i64 (tm k)) ∧ W.cell? ⟨gf, k * 3 + 1, none⟩ = some (.int .i64 ((k : Int) + 1)) ∧ W.cell? ⟨gf, k * 3 + 2, none⟩ = some (D k)
  d : ∀ k, k < 3 → RdI W (D k) (FrE X k) ∧ Capd (D k)
  t : ∀ k, k < 3 → 0 ≤ tm k ∧ tm k < 131072
theorem Row3.bw {W W' : World} {gf : Nat} {X : Nat → Int} {tm : Nat → Int} {D : Nat → Value} (h : Row3 W gf X tm D) (hb : Bw W W') : Row3 W' gf X tm D :=
  ⟨fun k hk => ⟨hb.cell' (h.c k hk).1, hb.cell' (h.c k hk).2.1, hb.cell' (h.c k hk).2.2⟩, fun k hk => ⟨(h.d k hk).1.mono hb, (h.d k hk).2⟩, h.t⟩
theorem row3_of {W : World} {base : Nat} {v : Value} {fs : List Fr} {X : Nat → Int} {tow : Int} (h : OwFr W base v fs) (hm : fs.map (fun f => (f.t, f.k, f.l)) = (List.range 3).map (frK X tow)) : ∃ gf cap tm D, v = .slice (some ⟨gf, 0, none⟩) 3 cap ∧ base ≤ gf ∧ Row3 W gf X tm D := by
  obtain ⟨d0, d1, d2, rfl⟩ := fr3 hm
  obtain ⟨gf, cap, hv, hb, hc⟩ := h.lit (by simp)
  refine ⟨gf, cap, fun k => (tow + (k : Nat)) % 131072, fun k => [d0, d1, d2].getD k (.slice none 0 0), hv, hb, ⟨fun k hk => ?_, fun k hk => ?_, fun k hk => by show 0 ≤ (tow + (k : Int)) % 131072 ∧ (tow + (k : Int)) % 131072 < 131072; omega⟩⟩
  · match k, hk with
    | 0, _ => exact ⟨hc 0 _ rfl 0 (by omega), hc 0 _ rfl 1 (by omega), hc 0 _ rfl 2 (by omega)⟩
    | 1, _ => exact ⟨hc 1 _ rfl 0 (by omega), hc 1 _ rfl 1 (by omega), hc 1 _ rfl 2 (by omega)⟩
    | 2, _ => exact ⟨hc 2 _ rfl 0 (by omega), hc 2 _ rfl 1 (by omega), hc 2 _ rfl 2 (by omega)⟩
  · match k, hk with
    | 0, _ => exact ⟨(h.rd _ (.head _)).1, (h.rd _ (.head _)).2.1⟩
    | 1, _ => exact ⟨(h.rd _ (.tail _ (.head _))).1, (h.rd _ (.tail _ (.head _))).2.1⟩
    | 2, _ => exact ⟨(h.rd _ (.tail _ (.tail _ (.head _)))).1, (h.rd _ (.tail _ (.tail _ (.head _)))).2.1⟩
theorem read_row {X : Nat → Int} (hX : errE X = 0) {tm : Nat → Int} {D : Nat → Value} {gf : Nat} (k : Nat) (hk : k < 3) (b : Nat) (W : World) (HR : Row3 W gf X tm D) (hB : Blk W b 47 #[.int .i64 (tm k), .int .i64 ((k : Int) + 1), D k, .int .i64 (tm ((k + 2) % 3)), .int .i64 ((((k + 2) % 3 : Nat) : Int) + 1), D ((k + 2) % 3), .int .i64 (tm ((k + 1) % 3)), .int .i64 ((((k + 1) % 3 : Nat) : Int) + 1), D ((k + 1) % 3)]) :
    Calls Try.prog 18 #[.slice (some ⟨b, 0, none⟩) 3 3] W fun e w' => e = .returned (.tuple #[.agg (eV X), .int .i64 0]) ∧ Bw W w' := by
  have h1 : (k + 2) % 3 < 3 := Nat.mod_lt _ (by decide)
  have h2 : (k + 1) % 3 < 3 := Nat.mod_lt _ (by decide)
  have hr := RdFr.three b (tm k) ((k : Int) + 1) (tm ((k + 2) % 3)) ((((k + 2) % 3 : Nat) : Int) + 1) (tm ((k + 1) % 3)) ((((k + 1) % 3 : Nat) : Int) + 1) (D k) (D ((k + 2) % 3)) (D ((k + 1) % 3)) (FrE X k) (FrE X ((k + 2) % 3)) (FrE X ((k + 1) % 3)) hB (HR.d k hk) (HR.d _ h1) (HR.d _ h2)
  have h9 := ERead_any _ _ W hr
  have hp := read_perm hX tm HR.t k hk (D k) (D ((k + 2) % 3)) (D ((k + 1) % 3))
  unfold fD at hp
  rw [hp.1, hp.2] at h9
  exact h9
def hbV (h : Nat → Bool) : Array Value := #[.bool (h 0), .bool (h 1), .bool (h 2)]
theorem hbV_at (h : Nat → Bool) (i : Nat) (hi : i < 3) : (hbV h)[i]? = some (.bool (h i)) := by
  match i, hi with
  | 0, _ => rfl
  | 1, _ => rfl
  | 2, _ => rfl
theorem hbV_set (h : Nat → Bool) (k : Nat) (hk : k < 3) (v : Bool) : (hbV h).setIfInBounds k (.bool v) = hbV (upN h k v) := by
  match k, hk with
  | 0, _ => rfl
  | 1, _ => rfl
  | 2, _ => rfl
theorem new_up (h : Nat → Bool) (X : Nat → Int) (k : Nat) : ∀ j, j < 3 → newH h (samH h (X 1) (X 0) X) k j = upN h k true j := by
  intro j hj
  unfold newH upN
  by_cases e : j = k
  · rw [if_pos e, if_pos e]
  · rw [if_neg e, if_neg e]
    cases hh : h j with
    | false => simp
    | true =>
      unfold samH
      rw [anyH_of hj hh]; simp
theorem Inv.congr {p : Pm} {h h' : Nat → Bool} {Y Y' : Nat → Nat → Int} {is pr : Int} (I : Inv p h Y is pr) (hh : ∀ j, j < 3 → h j = h' j) (hY : ∀ j, j < 3 → Y j = Y' j) : Inv p h' Y' is pr := by
  have ha : anyH h = anyH h' := by unfold anyH; rw [hh 0 (by omega), hh 1 (by omega), hh 2 (by omega)]
  exact ⟨fun j hj => (I.hh j hj).trans (hh j hj), fun j hj => by rw [I.hz j hj, hh j hj, hY j hj], fun h9 => I.no (ha.trans h9), fun h9 => I.yes (ha.trans h9), fun j hj h9 => by rw [← hY j hj]; exact I.each j hj ((hh j hj).trans h9)⟩
theorem Dat3.kx {W W' : World} {D : Nat → Value} {Z : Nat → List Int} (h : Dat3 W D Z) (hz : ∀ j, j < 3 → Big (Z j)) {g : Nat} {T : TypeId} {cs : Array Value} (hB : Blk W g T cs) (hs : cs.size ≤ 19) (hk : Kx g W W') : Dat3 W' D Z := fun j hj => by
  refine ⟨?_, (h j hj).2⟩
  rcases hz j hj with e | e
  · have h1 := (h j hj).1
    rw [e] at h1 ⊢
    exact rdI_empty h1
  · exact (h j hj).1.kxn hk (rdI_ne (h j hj).1 e hB hs)
/-- what the addition of a frame of X to parts of frames of X leads to -/
theorem back_add {P : Pm} {h : Nat → Bool} {X : Nat → Int} (I : Inv P h (fun _ => X) (X 1) (X 0)) (hX : errE X = 0) {k : Nat} (hk : k < 3) {t : Int} (ht : 0 ≤ t ∧ t < 131072) :
    (addR P t ((k : Int) + 1) (FrE X k)).2.2.2 = 0 ∧ (addR P t ((k : Int) + 1) (FrE X k)).2.2.1 = allH (upN h k true) ∧
      (allH (upN h k true) = true → eV (addR P t ((k : Int) + 1) (FrE X k)).2.1 = eV X ∧ Inv (addR P t ((k : Int) + 1) (FrE X k)).1 (fun _ => false) (fun _ => X) (X 1) (X 0)) ∧
      (allH (upN h k true) = false → Inv (addR P t ((k : Int) + 1) (FrE X k)).1 (upN h k true) (fun _ => X) (X 1) (X 0)) := by
  obtain ⟨a1, a2, a3, a4⟩ := I.add hX hk ht
  have hn := new_up h X k
  have hA : allH (newH h (samH h (X 1) (X 0) X) k) = allH (upN h k true) := by
    unfold allH; rw [hn 0 (by omega), hn 1 (by omega), hn 2 (by omega)]
  have hu : ∀ j, upN (fun _ => X) k X j = X := fun j => by unfold upN; split <;> rfl
  rw [hA] at a2 a3 a4
  refine ⟨a1, a2, fun h9 => ?_, fun h9 => ?_⟩
  · obtain ⟨b1, b2⟩ := a3 h9
    rw [hu 0, hu 1, hu 2, mix_self] at b1
    exact ⟨b1, by rw [b2]; exact Inv.zero _ _ _⟩
  · exact (a4 h9).2.congr hn (fun j _ => hu j)
theorem law_back (zs zo : List Int) (tow : Int) (v vo : Value) (w : World) (hv : RdI w v zs) (ho : RdI w vo zo) : Calls Try.prog 7 #[v, vo, .int .i64 tow] w fun e w' => e = .returned (.bool true) ∧ Bw w w' := by
  have HV := Lib.hid hv
  have HO := Lib.hid ho
  obtain ⟨a, c, rfl⟩ := hv.form
  obtain ⟨ao, co, rfl⟩ := ho.form
  have hle := ho.1
  clear hv ho
  have AW := Lib.hid (fun W => awake_any W)
  have HXO := ofX_ok zs
  have OF := Lib.hid (fun W h => of_any zs (.slice a zs.length c) W h)
  generalize ofX zs = X at *
  have hck := HXO
  have HXE := Lib.hid HXO
  clear HXO
  have NH := Lib.hid (fun i W h => Nth_any zo (.slice ao zo.length co) i W h)
  have BE := Lib.hid (fun n k W h1 h2 => Below_any n k W h1 h2)
  have CK : Hid (∀ W, Calls Try.prog 13 #[.agg (eV X)] W fun e w' => e = .returned (.int .i64 0) ∧ Bw W w') := Lib.hid (fun W => by have h9 := ECheck_any X W; rw [hck] at h9; exact h9)
  have htw := bel_bd tow 131072 (by decide)
  have FRM := Lib.hid (fun W => frames_any X (bel tow 131072) W hck htw)
  have hkb := bel_bd (nth zo 0) 3 (by decide)
  clear hck
  clear htw
  have hq1 := fun W => eqE_self X W
  have hq2 := fun W op x y => eqE_guard X X op x y W
  have HSZ : Hid ((Try.prog.info? 25).map (·.size) = some (eV X).size) := Lib.hid (by kernel_rfl)
  have HON : Hid ((eV X).all (·.oneCell') = true) := Lib.hid (by simp [Value.oneCell', eV])
  have HA3 : Hid ((#[.int .i64 0, .int .i64 0, .int .i64 0, .int .i64 0, .int .i64 0, .int .i64 0, .int .i64 0, .int .i64 0, .int .i64 0, .int .i64 0, .int .i64 0, .int .i64 0, .int .i64 0, .int .i64 0, .int .i64 0, .int .i64 0, .int .i64 0, .int .i64 0, .int .i64 0] : Array Value).size = (eV X).size) := Lib.hid rfl
  obtain ⟨A, hA⟩ : ∃ A, A = eV X := ⟨_, rfl⟩
  rw [← hA] at OF CK FRM hq1 hq2 HSZ HON HA3
  have HAX := Lib.hid hA
  clear hA
  obtain ⟨no, hno⟩ : ∃ no, no = zo.length := ⟨_, rfl⟩
  rw [← hno] at hle HO NH ⊢
  have HNO := Lib.hid hno
  clear hno
  have HBW := Lib.hid (Bw.refl w)
  go_enter Try.func7, Try.ntmps7
  go_upto_region 2 with (first | (go_at_call 26; (with_reducible refine Calls.mono (OF.out _ (HV.out.mono HBW.out)) ?_); rintro e1 w1 ⟨rfl, hb9⟩; replace HBW := Lib.hid (HBW.out.trans hb9); clear hb9; have KX := Lib.hid (Blk.new w1 25 #[.int .i64 0, .int .i64 0, .int .i64 0, .int .i64 0, .int .i64 0, .int .i64 0, .int .i64 0, .int .i64 0, .int .i64 0, .int .i64 0, .int .i64 0, .int .i64 0, .int .i64 0, .int .i64 0, .int .i64 0, .int .i64 0, .int .i64 0, .int .i64 0, .int .i64 0])) | ((with_reducible refine at_store 25 (.tmp 7) (.tmp 22) ?_); refine wpList_store_row rfl 25 (.tmp 7) (.tmp 22) rfl w1.heap.size A rfl rfl 25 _ KX.out HSZ.out HA3.out HON.out ?_))
  obtain ⟨g7, hg7⟩ : ∃ g7, w1.heap.size = g7 := ⟨_, rfl⟩
  have hb9 := Bw.setRow (Bw.alloc (Bw.refl w1) (.cells #[.int .i64 0, .int .i64 0, .int .i64 0, .int .i64 0, .int .i64 0, .int .i64 0, .int .i64 0, .int .i64 0, .int .i64 0, .int .i64 0, .int .i64 0, .int .i64 0, .int .i64 0, .int .i64 0, .int .i64 0, .int .i64 0, .int .i64 0, .int .i64 0, .int .i64 0] 25)) (Nat.le_of_eq hg7) A
  replace KX := Lib.hid (KX.out.row A)
  rw [hg7] at KX ⊢
  obtain ⟨W1, hW1⟩ : ∃ W1, (w1.alloc (.cells #[.int .i64 0, .int .i64 0, .int .i64 0, .int .i64 0, .int .i64 0, .int .i64 0, .int .i64 0, .int .i64 0, .int .i64 0, .int .i64 0, .int .i64 0, .int .i64 0, .int .i64 0, .int .i64 0, .int .i64 0, .int .i64 0, .int .i64 0, .int .i64 0, .int .i64 0] 25)).setRow g7 A = W1 := ⟨_, rfl⟩
  rw [hW1] at KX hb9 ⊢
  clear hW1 hg7
  replace HBW := Lib.hid (HBW.out.trans hb9)
  clear hb9
  (try simp only [Act.put])
  refine wp_region_held_drew (S := Bw W1) (by kernel_rfl) (Bw.drew (Bw.refl _)) (fun hS => ?_)
  generalize World.drew _ = wd at hS ⊢
  refine take1 (i := 0) (some 24) rfl rfl (by kernel_rfl) (by kernel_rfl) (by kernel_rfl) (fun _ _ _ _ h => h) rfl hS ?_
  refine Exists.intro (.agg A) ?_
  apply And.intro
  · intro W9 hW9; skip; exact run_load_row 25 _ rfl g7 rfl 25 A _ (KX.out.bw hW9) Try.underlying25 rfl HSZ.out
  simp only [Act.put, List.setIfInBounds_toArray, List.set_cons_zero, List.set_cons_succ]
  refine take1 (i := 1) (some 25) rfl rfl (by kernel_rfl) (by kernel_rfl) (by kernel_rfl) (fun _ _ _ _ h => h) rfl hS ?_
  apply Exists.intro
  apply And.intro
  · intro W9 hW9; skip; go_simp; try with_reducible rfl
  simp only [Act.put, List.setIfInBounds_toArray, List.set_cons_zero, List.set_cons_succ]
  refine wpAnyH_ready (rs := [2]) (by kernel_rfl) (by simp) ?_
  refine AllReadyH.cons rfl (fun K hK => ?_) ?_
  go_simp
  go_wp2_with (go_at_call 27; (with_reducible refine Calls.mono (BE.out _ _ _ ?_ ?_) ?_); (focus decide); (focus decide); rintro e1 w3 ⟨rfl, hb13⟩)
  refine hK.out _ _ (hS.trans hb13) (fun hS => ?_)
  clear hK K
  clear hb13
  refine wpAnyH_ready (rs := [3]) (by kernel_rfl) (by simp) ?_
  refine AllReadyH.cons rfl (fun K hK => ?_) ?_
  go_simp
  go_wp2_with (go_at_call 25; (with_reducible refine Calls.mono (FRM.out _) ?_); rintro e1 w4 ⟨⟨vf, fs, rfl, hof, hmf⟩, hb13⟩)
  refine hK.out _ _ (hS.trans hb13) (fun hS => ?_)
  clear hK K
  clear hb13
  refine take1 (i := 4) (some 23) rfl rfl (by kernel_rfl) (by kernel_rfl) (by kernel_rfl) (fun _ _ _ _ h => h) rfl hS ?_
  apply Exists.intro
  apply And.intro
  · intro W9 hW9; skip; go_simp; try with_reducible rfl
  simp only [Act.put, List.setIfInBounds_toArray, List.set_cons_zero, List.set_cons_succ]
  refine take1 (i := 5) (some 28) rfl rfl (by kernel_rfl) (by kernel_rfl) (by kernel_rfl) (fun _ _ _ _ h => h) rfl hS ?_
  apply Exists.intro
  apply And.intro
  · intro W9 hW9; skip; go_simp; try with_reducible rfl
  simp only [Act.put, List.setIfInBounds_toArray, List.set_cons_zero, List.set_cons_succ]
  refine take1 (i := 6) (some 29) rfl rfl (by kernel_rfl) (by kernel_rfl) (by kernel_rfl) (fun _ _ _ _ h => h) rfl hS ?_
  apply Exists.intro
  apply And.intro
  · intro W9 hW9; skip; go_simp; try with_reducible rfl
  simp only [Act.put, List.setIfInBounds_toArray, List.set_cons_zero, List.set_cons_succ]
  refine take1 (i := 7) (some 8) rfl rfl (by kernel_rfl) (by kernel_rfl) (by kernel_rfl) (fun _ _ _ _ h => h) rfl hS ?_
  apply Exists.intro
  apply And.intro
  · intro W9 hW9; skip; go_simp; try with_reducible rfl
  simp only [Act.put, List.setIfInBounds_toArray, List.set_cons_zero, List.set_cons_succ]
  refine take1 (i := 8) (some 9) rfl rfl (by kernel_rfl) (by kernel_rfl) (by kernel_rfl) (fun _ _ _ _ h => h) rfl hS ?_
  apply Exists.intro
  apply And.intro
  · intro W9 hW9; skip; go_simp; try with_reducible rfl
  simp only [Act.put, List.setIfInBounds_toArray, List.set_cons_zero, List.set_cons_succ]
  refine wpAnyH_done (by kernel_rfl) ?_ _
  rotate_left
  exact AllReadyH.nil
  exact AllReadyH.nil
  replace HBW := Lib.hid (HBW.out.trans hS)
  replace KX := Lib.hid (KX.out.bw hS)
  clear hS
  obtain ⟨gf, cf0, tm, DD, rfl, hgf, HR3⟩ := row3_of hof hmf
  have HRW := Lib.hid HR3
  clear hof hmf HR3 hgf
  go_upto_region 5 with (first | ((with_reducible refine at_load 25 (.tmp 7) ?_); refine wpList_load_roww 25 _ rfl g7 rfl 25 A (0, 0) _ KX.out Try.underlying25 rfl HSZ.out (by rfl) ?_) | (go_at_call 13; (with_reducible refine Calls.mono (CK.out _) ?_); rintro e1 w5 ⟨rfl, hb9⟩; replace HBW := Lib.hid (HBW.out.trans hb9); replace KX := Lib.hid (KX.out.bw hb9); replace HRW := Lib.hid (HRW.out.bw hb9); clear hb9))
  go_upto_region 6 with (first | (go_at_call 28; (with_reducible refine Calls.mono (NH.out _ _ (HO.out.mono HBW.out)) ?_); rintro e1 w6 ⟨rfl, hb9⟩; replace HBW := Lib.hid (HBW.out.trans hb9); replace KX := Lib.hid (KX.out.bw hb9); replace HRW := Lib.hid (HRW.out.bw hb9); clear hb9) | (go_at_call 27; (with_reducible refine Calls.mono (BE.out _ _ _ ?_ ?_) ?_); (focus decide); (focus decide); rintro e1 w7 ⟨rfl, hb9⟩; replace HBW := Lib.hid (HBW.out.trans hb9); replace KX := Lib.hid (KX.out.bw hb9); replace HRW := Lib.hid (HRW.out.bw hb9); clear hb9))
  obtain ⟨KI, hKI⟩ : ∃ KI, KI = bel (nth zo 0) 3 := ⟨_, rfl⟩
  rw [← hKI] at hkb ⊢
  clear hKI
  obtain ⟨u6, hu6⟩ : ∃ u6, u6 = w7 := ⟨_, rfl⟩
  subst hu6
  go_cut [11, 12] from 21 (fun s11 s12 wc => ∃ g11, s11 = .pointer (some ⟨g11, 0, none⟩) ∧ s12 = .int .i64 0 ∧ Hid (Bw u6 wc) ∧ Hid (Blk wc g11 25 A))
  case first =>
    have RRW := Lib.hid (fun k hk b W (HR : Row3 W gf X tm DD) hB => read_row HXE.out k hk b W HR hB)
    rw [← HAX.out] at RRW
    have r0 := HRW.out.c 0 (by omega)
    have r1 := HRW.out.c 1 (by omega)
    have r2 := HRW.out.c 2 (by omega)
    have q0 : u6.cell? ⟨gf, 0, none⟩ = some (.int .i64 (tm 0)) := r0.1
    have q1 : u6.cell? ⟨gf, 1, none⟩ = some (.int .i64 1) := r0.2.1
    have q2 : u6.cell? ⟨gf, 2, none⟩ = some (DD 0) := r0.2.2
    have q3 : u6.cell? ⟨gf, 3, none⟩ = some (.int .i64 (tm 1)) := r1.1
    have q4 : u6.cell? ⟨gf, 4, none⟩ = some (.int .i64 2) := r1.2.1
    have q5 : u6.cell? ⟨gf, 5, none⟩ = some (DD 1) := r1.2.2
    have q6 : u6.cell? ⟨gf, 6, none⟩ = some (.int .i64 (tm 2)) := r2.1
    have q7 : u6.cell? ⟨gf, 7, none⟩ = some (.int .i64 3) := r2.2.1
    have q8 : u6.cell? ⟨gf, 8, none⟩ = some (DD 2) := r2.2.2
    clear r0 r1 r2
    obtain ⟨a0, c0, v0⟩ := (HRW.out.d 0 (by omega)).1.form
    obtain ⟨a1, c1, v1⟩ := (HRW.out.d 1 (by omega)).1.form
    obtain ⟨a2, c2, v2⟩ := (HRW.out.d 2 (by omega)).1.form
    rw [v0] at q2
    rw [v1] at q5
    rw [v2] at q8
    have HVV := Lib.hid (And.intro v0 (And.intro v1 v2))
    clear v0 v1 v2
    have hk3 : KI = 0 ∨ KI = 1 ∨ KI = 2 := by omega
    clear hkb
    rcases hk3 with rfl | rfl | rfl
    · skip
      refine wp_region_held_drew (S := Bw u6) (by kernel_rfl) (Bw.drew (Bw.refl _)) (fun hS => ?_)
      generalize World.drew _ = wd at hS ⊢
      refine take1 (i := 0) (some 41) rfl rfl (by kernel_rfl) (by kernel_rfl) (by kernel_rfl) (fun _ _ _ _ h => h) rfl hS ?_
      apply Exists.intro
      apply And.intro
      · intro W9 hW9; have z0 := hW9.cell' q0; have z1 := hW9.cell' q1; have z2 := hW9.cell' q2; have z3 := hW9.cell' q3; have z4 := hW9.cell' q4; have z5 := hW9.cell' q5; have z6 := hW9.cell' q6; have z7 := hW9.cell' q7; have z8 := hW9.cell' q8; go_simp; try with_reducible rfl
      simp only [Act.put, List.setIfInBounds_toArray, List.set_cons_zero, List.set_cons_succ]
      refine take1 (i := 1) (some 42) rfl rfl (by kernel_rfl) (by kernel_rfl) (by kernel_rfl) (fun _ _ _ _ h => h) rfl hS ?_
      apply Exists.intro
      apply And.intro
      · intro W9 hW9; have z0 := hW9.cell' q0; have z1 := hW9.cell' q1; have z2 := hW9.cell' q2; have z3 := hW9.cell' q3; have z4 := hW9.cell' q4; have z5 := hW9.cell' q5; have z6 := hW9.cell' q6; have z7 := hW9.cell' q7; have z8 := hW9.cell' q8; go_simp; try with_reducible rfl
      simp only [Act.put, List.setIfInBounds_toArray, List.set_cons_zero, List.set_cons_succ]
      refine take1 (i := 2) (some 43) rfl rfl (by kernel_rfl) (by kernel_rfl) (by kernel_rfl) (fun _ _ _ _ h => h) rfl hS ?_
      apply Exists.intro
      apply And.intro
      · intro W9 hW9; have z0 := hW9.cell' q0; have z1 := hW9.cell' q1; have z2 := hW9.cell' q2; have z3 := hW9.cell' q3; have z4 := hW9.cell' q4; have z5 := hW9.cell' q5; have z6 := hW9.cell' q6; have z7 := hW9.cell' q7; have z8 := hW9.cell' q8; go_simp; try with_reducible rfl
      simp only [Act.put, List.setIfInBounds_toArray, List.set_cons_zero, List.set_cons_succ]
      refine take1 (i := 3) (some 44) rfl rfl (by kernel_rfl) (by kernel_rfl) (by kernel_rfl) (fun _ _ _ _ h => h) rfl hS ?_
      refine Exists.intro (.agg #[.int .i64 (tm 0), .int .i64 1, .slice a0 (FrE X 0).length c0]) ?_
      apply And.intro
      · intro W9 hW9; have z0 := hW9.cell' q0; have z1 := hW9.cell' q1; have z2 := hW9.cell' q2; have z3 := hW9.cell' q3; have z4 := hW9.cell' q4; have z5 := hW9.cell' q5; have z6 := hW9.cell' q6; have z7 := hW9.cell' q7; have z8 := hW9.cell' q8; go_simp; (try go_bits); (try with_reducible rfl); (try trivial)
      simp only [Act.put, List.setIfInBounds_toArray, List.set_cons_zero, List.set_cons_succ]
      refine take1 (i := 4) (some 45) rfl rfl (by kernel_rfl) (by kernel_rfl) (by kernel_rfl) (fun _ _ _ _ h => h) rfl hS ?_
      apply Exists.intro
      apply And.intro
      · intro W9 hW9; have z0 := hW9.cell' q0; have z1 := hW9.cell' q1; have z2 := hW9.cell' q2; have z3 := hW9.cell' q3; have z4 := hW9.cell' q4; have z5 := hW9.cell' q5; have z6 := hW9.cell' q6; have z7 := hW9.cell' q7; have z8 := hW9.cell' q8; go_simp; try with_reducible rfl
      simp only [Act.put, List.setIfInBounds_toArray, List.set_cons_zero, List.set_cons_succ]
      refine take1 (i := 5) (some 46) rfl rfl (by kernel_rfl) (by kernel_rfl) (by kernel_rfl) (fun _ _ _ _ h => h) rfl hS ?_
      apply Exists.intro
      apply And.intro
      · intro W9 hW9; have z0 := hW9.cell' q0; have z1 := hW9.cell' q1; have z2 := hW9.cell' q2; have z3 := hW9.cell' q3; have z4 := hW9.cell' q4; have z5 := hW9.cell' q5; have z6 := hW9.cell' q6; have z7 := hW9.cell' q7; have z8 := hW9.cell' q8; go_simp; try with_reducible rfl
      simp only [Act.put, List.setIfInBounds_toArray, List.set_cons_zero, List.set_cons_succ]
      refine take1 (i := 6) (some 47) rfl rfl (by kernel_rfl) (by kernel_rfl) (by kernel_rfl) (fun _ _ _ _ h => h) rfl hS ?_
      refine Exists.intro (.int .i64 2) ?_
      apply And.intro
      · intro W9 hW9; have z0 := hW9.cell' q0; have z1 := hW9.cell' q1; have z2 := hW9.cell' q2; have z3 := hW9.cell' q3; have z4 := hW9.cell' q4; have z5 := hW9.cell' q5; have z6 := hW9.cell' q6; have z7 := hW9.cell' q7; have z8 := hW9.cell' q8; go_simp; (try go_bits); (try with_reducible rfl); (try trivial)
      simp only [Act.put, List.setIfInBounds_toArray, List.set_cons_zero, List.set_cons_succ]
      refine take1 (i := 7) (some 48) rfl rfl (by kernel_rfl) (by kernel_rfl) (by kernel_rfl) (fun _ _ _ _ h => h) rfl hS ?_
      refine Exists.intro (.int .i64 2) ?_
      apply And.intro
      · intro W9 hW9; have z0 := hW9.cell' q0; have z1 := hW9.cell' q1; have z2 := hW9.cell' q2; have z3 := hW9.cell' q3; have z4 := hW9.cell' q4; have z5 := hW9.cell' q5; have z6 := hW9.cell' q6; have z7 := hW9.cell' q7; have z8 := hW9.cell' q8; go_simp; (try go_bits); (try with_reducible rfl); (try trivial)
      simp only [Act.put, List.setIfInBounds_toArray, List.set_cons_zero, List.set_cons_succ]
      refine take1 (i := 8) (some 49) rfl rfl (by kernel_rfl) (by kernel_rfl) (by kernel_rfl) (fun _ _ _ _ h => h) rfl hS ?_
      apply Exists.intro
      apply And.intro
      · intro W9 hW9; have z0 := hW9.cell' q0; have z1 := hW9.cell' q1; have z2 := hW9.cell' q2; have z3 := hW9.cell' q3; have z4 := hW9.cell' q4; have z5 := hW9.cell' q5; have z6 := hW9.cell' q6; have z7 := hW9.cell' q7; have z8 := hW9.cell' q8; go_simp; try with_reducible rfl
      simp only [Act.put, List.setIfInBounds_toArray, List.set_cons_zero, List.set_cons_succ]
      refine take1 (i := 9) (some 50) rfl rfl (by kernel_rfl) (by kernel_rfl) (by kernel_rfl) (fun _ _ _ _ h => h) rfl hS ?_
      refine Exists.intro (.agg #[.int .i64 (tm 2), .int .i64 3, .slice a2 (FrE X 2).length c2]) ?_
      apply And.intro
      · intro W9 hW9; have z0 := hW9.cell' q0; have z1 := hW9.cell' q1; have z2 := hW9.cell' q2; have z3 := hW9.cell' q3; have z4 := hW9.cell' q4; have z5 := hW9.cell' q5; have z6 := hW9.cell' q6; have z7 := hW9.cell' q7; have z8 := hW9.cell' q8; go_simp; (try go_bits); (try with_reducible rfl); (try trivial)
      simp only [Act.put, List.setIfInBounds_toArray, List.set_cons_zero, List.set_cons_succ]
      refine take1 (i := 10) (some 51) rfl rfl (by kernel_rfl) (by kernel_rfl) (by kernel_rfl) (fun _ _ _ _ h => h) rfl hS ?_
      apply Exists.intro
      apply And.intro
      · intro W9 hW9; have z0 := hW9.cell' q0; have z1 := hW9.cell' q1; have z2 := hW9.cell' q2; have z3 := hW9.cell' q3; have z4 := hW9.cell' q4; have z5 := hW9.cell' q5; have z6 := hW9.cell' q6; have z7 := hW9.cell' q7; have z8 := hW9.cell' q8; go_simp; try with_reducible rfl
      simp only [Act.put, List.setIfInBounds_toArray, List.set_cons_zero, List.set_cons_succ]
      refine take1 (i := 11) (some 52) rfl rfl (by kernel_rfl) (by kernel_rfl) (by kernel_rfl) (fun _ _ _ _ h => h) rfl hS ?_
      apply Exists.intro
      apply And.intro
      · intro W9 hW9; have z0 := hW9.cell' q0; have z1 := hW9.cell' q1; have z2 := hW9.cell' q2; have z3 := hW9.cell' q3; have z4 := hW9.cell' q4; have z5 := hW9.cell' q5; have z6 := hW9.cell' q6; have z7 := hW9.cell' q7; have z8 := hW9.cell' q8; go_simp; try with_reducible rfl
      simp only [Act.put, List.setIfInBounds_toArray, List.set_cons_zero, List.set_cons_succ]
      refine take1 (i := 12) (some 53) rfl rfl (by kernel_rfl) (by kernel_rfl) (by kernel_rfl) (fun _ _ _ _ h => h) rfl hS ?_
      refine Exists.intro (.int .i64 1) ?_
      apply And.intro
      · intro W9 hW9; have z0 := hW9.cell' q0; have z1 := hW9.cell' q1; have z2 := hW9.cell' q2; have z3 := hW9.cell' q3; have z4 := hW9.cell' q4; have z5 := hW9.cell' q5; have z6 := hW9.cell' q6; have z7 := hW9.cell' q7; have z8 := hW9.cell' q8; go_simp; (try go_bits); (try with_reducible rfl); (try trivial)
      simp only [Act.put, List.setIfInBounds_toArray, List.set_cons_zero, List.set_cons_succ]
      refine take1 (i := 13) (some 54) rfl rfl (by kernel_rfl) (by kernel_rfl) (by kernel_rfl) (fun _ _ _ _ h => h) rfl hS ?_
      refine Exists.intro (.int .i64 1) ?_
      apply And.intro
      · intro W9 hW9; have z0 := hW9.cell' q0; have z1 := hW9.cell' q1; have z2 := hW9.cell' q2; have z3 := hW9.cell' q3; have z4 := hW9.cell' q4; have z5 := hW9.cell' q5; have z6 := hW9.cell' q6; have z7 := hW9.cell' q7; have z8 := hW9.cell' q8; go_simp; (try go_bits); (try with_reducible rfl); (try trivial)
      simp only [Act.put, List.setIfInBounds_toArray, List.set_cons_zero, List.set_cons_succ]
      refine take1 (i := 14) (some 55) rfl rfl (by kernel_rfl) (by kernel_rfl) (by kernel_rfl) (fun _ _ _ _ h => h) rfl hS ?_
      apply Exists.intro
      apply And.intro
      · intro W9 hW9; have z0 := hW9.cell' q0; have z1 := hW9.cell' q1; have z2 := hW9.cell' q2; have z3 := hW9.cell' q3; have z4 := hW9.cell' q4; have z5 := hW9.cell' q5; have z6 := hW9.cell' q6; have z7 := hW9.cell' q7; have z8 := hW9.cell' q8; go_simp; try with_reducible rfl
      simp only [Act.put, List.setIfInBounds_toArray, List.set_cons_zero, List.set_cons_succ]
      refine take1 (i := 15) (some 56) rfl rfl (by kernel_rfl) (by kernel_rfl) (by kernel_rfl) (fun _ _ _ _ h => h) rfl hS ?_
      refine Exists.intro (.agg #[.int .i64 (tm 1), .int .i64 2, .slice a1 (FrE X 1).length c1]) ?_
      apply And.intro
      · intro W9 hW9; have z0 := hW9.cell' q0; have z1 := hW9.cell' q1; have z2 := hW9.cell' q2; have z3 := hW9.cell' q3; have z4 := hW9.cell' q4; have z5 := hW9.cell' q5; have z6 := hW9.cell' q6; have z7 := hW9.cell' q7; have z8 := hW9.cell' q8; go_simp; (try go_bits); (try with_reducible rfl); (try trivial)
      simp only [Act.put, List.setIfInBounds_toArray, List.set_cons_zero, List.set_cons_succ]
      refine wpAnyH_ready (rs := [16, 21]) (by kernel_rfl) (by simp) ?_
      refine AllReadyH.cons rfl (fun K hK => ?_) ?_
      go_simp
      have hba := Bw.alloc (Bw.refl wd) (.cells #[.int .i64 (tm 0), .int .i64 1, .slice a0 (FrE X 0).length c0, .int .i64 (tm 2), .int .i64 3, .slice a2 (FrE X 2).length c2, .int .i64 (tm 1), .int .i64 2, .slice a1 (FrE X 1).length c1] 47)
      have NBK := Lib.hid (Blk.new wd 47 #[.int .i64 (tm 0), .int .i64 1, .slice a0 (FrE X 0).length c0, .int .i64 (tm 2), .int .i64 3, .slice a2 (FrE X 2).length c2, .int .i64 (tm 1), .int .i64 2, .slice a1 (FrE X 1).length c1])
      obtain ⟨gb, hgb⟩ : ∃ gb, wd.heap.size = gb := ⟨_, rfl⟩
      rw [hgb] at NBK
      refine hK.out _ _ (hS.trans hba) (fun hS => ?_)
      clear hK K
      clear hba
      try rw [hgb]
      clear hgb
      generalize World.alloc wd _ = w13 at hS NBK ⊢
      refine wpAnyH_ready (rs := [17, 21]) (by kernel_rfl) (by simp) ?_
      refine AllReadyH.cons rfl (fun K hK => ?_) ?_
      go_simp
      go_wp2_with (go_at_call 18; (with_reducible refine Calls.mono (RRW.out 0 (by omega) _ _ (HRW.out.bw hS) ?_) ?_); (focus (rw [HVV.out.1, HVV.out.2.1, HVV.out.2.2]; exact NBK.out)); rintro e1 w14 ⟨rfl, hb14⟩)
      refine hK.out _ _ (hS.trans hb14) (fun hS => ?_)
      clear hK K
      clear hb14
      refine take1 (i := 18) (some 40) rfl rfl (by kernel_rfl) (by kernel_rfl) (by kernel_rfl) (fun _ _ _ _ h => h) rfl hS ?_
      apply Exists.intro
      apply And.intro
      · intro W9 hW9; have z0 := hW9.cell' q0; have z1 := hW9.cell' q1; have z2 := hW9.cell' q2; have z3 := hW9.cell' q3; have z4 := hW9.cell' q4; have z5 := hW9.cell' q5; have z6 := hW9.cell' q6; have z7 := hW9.cell' q7; have z8 := hW9.cell' q8; go_simp; try with_reducible rfl
      simp only [Act.put, List.setIfInBounds_toArray, List.set_cons_zero, List.set_cons_succ]
      refine take1 (i := 19) (some 59) rfl rfl (by kernel_rfl) (by kernel_rfl) (by kernel_rfl) (fun _ _ _ _ h => h) rfl hS ?_
      apply Exists.intro
      apply And.intro
      · intro W9 hW9; have z0 := hW9.cell' q0; have z1 := hW9.cell' q1; have z2 := hW9.cell' q2; have z3 := hW9.cell' q3; have z4 := hW9.cell' q4; have z5 := hW9.cell' q5; have z6 := hW9.cell' q6; have z7 := hW9.cell' q7; have z8 := hW9.cell' q8; go_simp; try with_reducible rfl
      simp only [Act.put, List.setIfInBounds_toArray, List.set_cons_zero, List.set_cons_succ]
      refine take1 (i := 20) (some 60) rfl rfl (by kernel_rfl) (by kernel_rfl) (by kernel_rfl) (fun _ _ _ _ h => h) rfl hS ?_
      apply Exists.intro
      apply And.intro
      · intro W9 hW9; have z0 := hW9.cell' q0; have z1 := hW9.cell' q1; have z2 := hW9.cell' q2; have z3 := hW9.cell' q3; have z4 := hW9.cell' q4; have z5 := hW9.cell' q5; have z6 := hW9.cell' q6; have z7 := hW9.cell' q7; have z8 := hW9.cell' q8; go_simp; try with_reducible rfl
      simp only [Act.put, List.setIfInBounds_toArray, List.set_cons_zero, List.set_cons_succ]
      refine wpAnyH_ready (rs := [21]) (by kernel_rfl) (by simp) ?_
      refine AllReadyH.cons rfl (fun K hK => ?_) ?_
      rw [if_pos (by rfl)]
      refine wp_alloc_new 25 rfl (some 11) rfl _ (zeroEp _) ?_
      intro g11 w5 hg9 hN hbw
      simp only [Act.put, List.setIfInBounds_toArray, List.set_cons_zero, List.set_cons_succ]
      have K11 := Lib.hid hN
      have H11 := Lib.hid (Nat.le_trans hS.size hg9)
      clear hN
      refine hK.out _ _ (hS.trans hbw) (fun hS => ?_)
      clear hK K
      clear hbw hg9
      refine wpAnyH_ready (rs := [22]) (by kernel_rfl) (by simp) ?_
      refine AllReadyH.cons rfl (fun K hK => ?_) ?_
      rw [if_pos (by rfl)]
      refine wp_store_row0 25 _ _ rfl rfl g11 A rfl rfl 25 #[.int .i64 0, .int .i64 0, .int .i64 0, .int .i64 0, .int .i64 0, .int .i64 0, .int .i64 0, .int .i64 0, .int .i64 0, .int .i64 0, .int .i64 0, .int .i64 0, .int .i64 0, .int .i64 0, .int .i64 0, .int .i64 0, .int .i64 0, .int .i64 0, .int .i64 0] K11.out HSZ.out HA3.out HON.out ?_
      replace K11 := Lib.hid (K11.out.row A)
      refine hK.out _ _ (Bw.setRow hS H11.out A) (fun hS => ?_)
      clear hK K
      refine take1 (i := 23) (some 12) rfl rfl (by kernel_rfl) (by kernel_rfl) (by kernel_rfl) (fun _ _ _ _ h => h) rfl hS ?_
      apply Exists.intro
      apply And.intro
      · intro W9 hW9; have z0 := hW9.cell' q0; have z1 := hW9.cell' q1; have z2 := hW9.cell' q2; have z3 := hW9.cell' q3; have z4 := hW9.cell' q4; have z5 := hW9.cell' q5; have z6 := hW9.cell' q6; have z7 := hW9.cell' q7; have z8 := hW9.cell' q8; go_simp; try with_reducible rfl
      simp only [Act.put, List.setIfInBounds_toArray, List.set_cons_zero, List.set_cons_succ]
      refine wpAnyH_done (by kernel_rfl) ?_ _
      rotate_left
      exact AllReadyH.nil
      exact AllReadyH.nil
      refine AllReadyH.cons rfl (fun K hK => ?_) ?_
      rw [if_pos (by rfl)]
      refine wp_alloc_new 25 rfl (some 11) rfl _ (zeroEp _) ?_
      intro g11 w5 hg9 hN hbw
      simp only [Act.put, List.setIfInBounds_toArray, List.set_cons_zero, List.set_cons_succ]
      have K11 := Lib.hid hN
      have H11 := Lib.hid (Nat.le_trans hS.size hg9)
      replace NBK := Lib.hid (NBK.out.bw hbw)
      clear hN
      refine hK.out _ _ (hS.trans hbw) (fun hS => ?_)
      clear hK K
      clear hbw hg9
      refine wpAnyH_ready (rs := [17]) (by kernel_rfl) (by simp) ?_
      refine AllReadyH.cons rfl (fun K hK => ?_) ?_
      go_simp
      go_wp2_with (go_at_call 18; (with_reducible refine Calls.mono (RRW.out 0 (by omega) _ _ (HRW.out.bw hS) ?_) ?_); (focus (rw [HVV.out.1, HVV.out.2.1, HVV.out.2.2]; exact NBK.out)); rintro e1 w14 ⟨rfl, hb14⟩)
      replace K11 := Lib.hid (K11.out.bw hb14)
      refine hK.out _ _ (hS.trans hb14) (fun hS => ?_)
      clear hK K
      clear hb14
      refine take1 (i := 18) (some 40) rfl rfl (by kernel_rfl) (by kernel_rfl) (by kernel_rfl) (fun _ _ _ _ h => h) rfl hS ?_
      apply Exists.intro
      apply And.intro
      · intro W9 hW9; have z0 := hW9.cell' q0; have z1 := hW9.cell' q1; have z2 := hW9.cell' q2; have z3 := hW9.cell' q3; have z4 := hW9.cell' q4; have z5 := hW9.cell' q5; have z6 := hW9.cell' q6; have z7 := hW9.cell' q7; have z8 := hW9.cell' q8; go_simp; try with_reducible rfl
      simp only [Act.put, List.setIfInBounds_toArray, List.set_cons_zero, List.set_cons_succ]
      refine take1 (i := 19) (some 59) rfl rfl (by kernel_rfl) (by kernel_rfl) (by kernel_rfl) (fun _ _ _ _ h => h) rfl hS ?_
      apply Exists.intro
      apply And.intro
      · intro W9 hW9; have z0 := hW9.cell' q0; have z1 := hW9.cell' q1; have z2 := hW9.cell' q2; have z3 := hW9.cell' q3; have z4 := hW9.cell' q4; have z5 := hW9.cell' q5; have z6 := hW9.cell' q6; have z7 := hW9.cell' q7; have z8 := hW9.cell' q8; go_simp; try with_reducible rfl
      simp only [Act.put, List.setIfInBounds_toArray, List.set_cons_zero, List.set_cons_succ]
      refine take1 (i := 20) (some 60) rfl rfl (by kernel_rfl) (by kernel_rfl) (by kernel_rfl) (fun _ _ _ _ h => h) rfl hS ?_
      apply Exists.intro
      apply And.intro
      · intro W9 hW9; have z0 := hW9.cell' q0; have z1 := hW9.cell' q1; have z2 := hW9.cell' q2; have z3 := hW9.cell' q3; have z4 := hW9.cell' q4; have z5 := hW9.cell' q5; have z6 := hW9.cell' q6; have z7 := hW9.cell' q7; have z8 := hW9.cell' q8; go_simp; try with_reducible rfl
      simp only [Act.put, List.setIfInBounds_toArray, List.set_cons_zero, List.set_cons_succ]
      refine wpAnyH_ready (rs := [22]) (by kernel_rfl) (by simp) ?_
      refine AllReadyH.cons rfl (fun K hK => ?_) ?_
      rw [if_pos (by rfl)]
      refine wp_store_row0 25 _ _ rfl rfl g11 A rfl rfl 25 #[.int .i64 0, .int .i64 0, .int .i64 0, .int .i64 0, .int .i64 0, .int .i64 0, .int .i64 0, .int .i64 0, .int .i64 0, .int .i64 0, .int .i64 0, .int .i64 0, .int .i64 0, .int .i64 0, .int .i64 0, .int .i64 0, .int .i64 0, .int .i64 0, .int .i64 0] K11.out HSZ.out HA3.out HON.out ?_
      replace K11 := Lib.hid (K11.out.row A)
      refine hK.out _ _ (Bw.setRow hS H11.out A) (fun hS => ?_)
      clear hK K
      refine take1 (i := 23) (some 12) rfl rfl (by kernel_rfl) (by kernel_rfl) (by kernel_rfl) (fun _ _ _ _ h => h) rfl hS ?_
      apply Exists.intro
      apply And.intro
      · intro W9 hW9; have z0 := hW9.cell' q0; have z1 := hW9.cell' q1; have z2 := hW9.cell' q2; have z3 := hW9.cell' q3; have z4 := hW9.cell' q4; have z5 := hW9.cell' q5; have z6 := hW9.cell' q6; have z7 := hW9.cell' q7; have z8 := hW9.cell' q8; go_simp; try with_reducible rfl
      simp only [Act.put, List.setIfInBounds_toArray, List.set_cons_zero, List.set_cons_succ]
      refine wpAnyH_done (by kernel_rfl) ?_ _
      rotate_left
      exact AllReadyH.nil
      exact AllReadyH.nil
      exact AllReadyH.nil
      refine AllReadyH.cons rfl (fun K hK => ?_) ?_
      rw [if_pos (by rfl)]
      refine wp_alloc_new 25 rfl (some 11) rfl _ (zeroEp _) ?_
      intro g11 w5 hg9 hN hbw
      simp only [Act.put, List.setIfInBounds_toArray, List.set_cons_zero, List.set_cons_succ]
      have K11 := Lib.hid hN
      have H11 := Lib.hid (Nat.le_trans hS.size hg9)
      clear hN
      refine hK.out _ _ (hS.trans hbw) (fun hS => ?_)
      clear hK K
      clear hbw hg9
      refine wpAnyH_ready (rs := [16]) (by kernel_rfl) (by simp) ?_
      refine AllReadyH.cons rfl (fun K hK => ?_) ?_
      go_simp
      have hba := Bw.alloc (Bw.refl w5) (.cells #[.int .i64 (tm 0), .int .i64 1, .slice a0 (FrE X 0).length c0, .int .i64 (tm 2), .int .i64 3, .slice a2 (FrE X 2).length c2, .int .i64 (tm 1), .int .i64 2, .slice a1 (FrE X 1).length c1] 47)
      have NBK := Lib.hid (Blk.new w5 47 #[.int .i64 (tm 0), .int .i64 1, .slice a0 (FrE X 0).length c0, .int .i64 (tm 2), .int .i64 3, .slice a2 (FrE X 2).length c2, .int .i64 (tm 1), .int .i64 2, .slice a1 (FrE X 1).length c1])
      obtain ⟨gb, hgb⟩ : ∃ gb, w5.heap.size = gb := ⟨_, rfl⟩
      rw [hgb] at NBK
      replace K11 := Lib.hid (K11.out.bw hba)
      refine hK.out _ _ (hS.trans hba) (fun hS => ?_)
      clear hK K
      clear hba
      try rw [hgb]
      clear hgb
      generalize World.alloc w5 _ = w13 at hS NBK K11 ⊢
      refine wpAnyH_ready (rs := [17]) (by kernel_rfl) (by simp) ?_
      refine AllReadyH.cons rfl (fun K hK => ?_) ?_
      go_simp
      go_wp2_with (go_at_call 18; (with_reducible refine Calls.mono (RRW.out 0 (by omega) _ _ (HRW.out.bw hS) ?_) ?_); (focus (rw [HVV.out.1, HVV.out.2.1, HVV.out.2.2]; exact NBK.out)); rintro e1 w14 ⟨rfl, hb14⟩)
      replace K11 := Lib.hid (K11.out.bw hb14)
      refine hK.out _ _ (hS.trans hb14) (fun hS => ?_)
      clear hK K
      clear hb14
      refine take1 (i := 18) (some 40) rfl rfl (by kernel_rfl) (by kernel_rfl) (by kernel_rfl) (fun _ _ _ _ h => h) rfl hS ?_
      apply Exists.intro
      apply And.intro
      · intro W9 hW9; have z0 := hW9.cell' q0; have z1 := hW9.cell' q1; have z2 := hW9.cell' q2; have z3 := hW9.cell' q3; have z4 := hW9.cell' q4; have z5 := hW9.cell' q5; have z6 := hW9.cell' q6; have z7 := hW9.cell' q7; have z8 := hW9.cell' q8; go_simp; try with_reducible rfl
      simp only [Act.put, List.setIfInBounds_toArray, List.set_cons_zero, List.set_cons_succ]
      refine take1 (i := 19) (some 59) rfl rfl (by kernel_rfl) (by kernel_rfl) (by kernel_rfl) (fun _ _ _ _ h => h) rfl hS ?_
      apply Exists.intro
      apply And.intro
      · intro W9 hW9; have z0 := hW9.cell' q0; have z1 := hW9.cell' q1; have z2 := hW9.cell' q2; have z3 := hW9.cell' q3; have z4 := hW9.cell' q4; have z5 := hW9.cell' q5; have z6 := hW9.cell' q6; have z7 := hW9.cell' q7; have z8 := hW9.cell' q8; go_simp; try with_reducible rfl
      simp only [Act.put, List.setIfInBounds_toArray, List.set_cons_zero, List.set_cons_succ]
      refine take1 (i := 20) (some 60) rfl rfl (by kernel_rfl) (by kernel_rfl) (by kernel_rfl) (fun _ _ _ _ h => h) rfl hS ?_
      apply Exists.intro
      apply And.intro
      · intro W9 hW9; have z0 := hW9.cell' q0; have z1 := hW9.cell' q1; have z2 := hW9.cell' q2; have z3 := hW9.cell' q3; have z4 := hW9.cell' q4; have z5 := hW9.cell' q5; have z6 := hW9.cell' q6; have z7 := hW9.cell' q7; have z8 := hW9.cell' q8; go_simp; try with_reducible rfl
      simp only [Act.put, List.setIfInBounds_toArray, List.set_cons_zero, List.set_cons_succ]
      refine wpAnyH_ready (rs := [22]) (by kernel_rfl) (by simp) ?_
      refine AllReadyH.cons rfl (fun K hK => ?_) ?_
      rw [if_pos (by rfl)]
      refine wp_store_row0 25 _ _ rfl rfl g11 A rfl rfl 25 #[.int .i64 0, .int .i64 0, .int .i64 0, .int .i64 0, .int .i64 0, .int .i64 0, .int .i64 0, .int .i64 0, .int .i64 0, .int .i64 0, .int .i64 0, .int .i64 0, .int .i64 0, .int .i64 0, .int .i64 0, .int .i64 0, .int .i64 0, .int .i64 0, .int .i64 0] K11.out HSZ.out HA3.out HON.out ?_
      replace K11 := Lib.hid (K11.out.row A)
      refine hK.out _ _ (Bw.setRow hS H11.out A) (fun hS => ?_)
      clear hK K
      refine take1 (i := 23) (some 12) rfl rfl (by kernel_rfl) (by kernel_rfl) (by kernel_rfl) (fun _ _ _ _ h => h) rfl hS ?_
      apply Exists.intro
      apply And.intro
      · intro W9 hW9; have z0 := hW9.cell' q0; have z1 := hW9.cell' q1; have z2 := hW9.cell' q2; have z3 := hW9.cell' q3; have z4 := hW9.cell' q4; have z5 := hW9.cell' q5; have z6 := hW9.cell' q6; have z7 := hW9.cell' q7; have z8 := hW9.cell' q8; go_simp; try with_reducible rfl
      simp only [Act.put, List.setIfInBounds_toArray, List.set_cons_zero, List.set_cons_succ]
      refine wpAnyH_done (by kernel_rfl) ?_ _
      rotate_left
      exact AllReadyH.nil
      exact AllReadyH.nil
      exact AllReadyH.nil
      exact AllReadyH.nil
      all_goals
        go_wp2
        go_meet
        exact ⟨g11, rfl, rfl, Lib.hid hS, K11⟩
    · skip
      refine wp_region_held_drew (S := Bw u6) (by kernel_rfl) (Bw.drew (Bw.refl _)) (fun hS => ?_)
      generalize World.drew _ = wd at hS ⊢
      refine take1 (i := 0) (some 41) rfl rfl (by kernel_rfl) (by kernel_rfl) (by kernel_rfl) (fun _ _ _ _ h => h) rfl hS ?_
      apply Exists.intro
      apply And.intro
      · intro W9 hW9; have z0 := hW9.cell' q0; have z1 := hW9.cell' q1; have z2 := hW9.cell' q2; have z3 := hW9.cell' q3; have z4 := hW9.cell' q4; have z5 := hW9.cell' q5; have z6 := hW9.cell' q6; have z7 := hW9.cell' q7; have z8 := hW9.cell' q8; go_simp; try with_reducible rfl
      simp only [Act.put, List.setIfInBounds_toArray, List.set_cons_zero, List.set_cons_succ]
      refine take1 (i := 1) (some 42) rfl rfl (by kernel_rfl) (by kernel_rfl) (by kernel_rfl) (fun _ _ _ _ h => h) rfl hS ?_
      apply Exists.intro
      apply And.intro
      · intro W9 hW9; have z0 := hW9.cell' q0; have z1 := hW9.cell' q1; have z2 := hW9.cell' q2; have z3 := hW9.cell' q3; have z4 := hW9.cell' q4; have z5 := hW9.cell' q5; have z6 := hW9.cell' q6; have z7 := hW9.cell' q7; have z8 := hW9.cell' q8; go_simp; try with_reducible rfl
      simp only [Act.put, List.setIfInBounds_toArray, List.set_cons_zero, List.set_cons_succ]
      refine take1 (i := 2) (some 43) rfl rfl (by kernel_rfl) (by kernel_rfl) (by kernel_rfl) (fun _ _ _ _ h => h) rfl hS ?_
      apply Exists.intro
      apply And.intro
      · intro W9 hW9; have z0 := hW9.cell' q0; have z1 := hW9.cell' q1; have z2 := hW9.cell' q2; have z3 := hW9.cell' q3; have z4 := hW9.cell' q4; have z5 := hW9.cell' q5; have z6 := hW9.cell' q6; have z7 := hW9.cell' q7; have z8 := hW9.cell' q8; go_simp; try with_reducible rfl
      simp only [Act.put, List.setIfInBounds_toArray, List.set_cons_zero, List.set_cons_succ]
      refine take1 (i := 3) (some 44) rfl rfl (by kernel_rfl) (by kernel_rfl) (by kernel_rfl) (fun _ _ _ _ h => h) rfl hS ?_
      refine Exists.intro (.agg #[.int .i64 (tm 1), .int .i64 2, .slice a1 (FrE X 1).length c1]) ?_
      apply And.intro
      · intro W9 hW9; have z0 := hW9.cell' q0; have z1 := hW9.cell' q1; have z2 := hW9.cell' q2; have z3 := hW9.cell' q3; have z4 := hW9.cell' q4; have z5 := hW9.cell' q5; have z6 := hW9.cell' q6; have z7 := hW9.cell' q7; have z8 := hW9.cell' q8; go_simp; (try go_bits); (try with_reducible rfl); (try trivial)
      simp only [Act.put, List.setIfInBounds_toArray, List.set_cons_zero, List.set_cons_succ]
      refine take1 (i := 4) (some 45) rfl rfl (by kernel_rfl) (by kernel_rfl) (by kernel_rfl) (fun _ _ _ _ h => h) rfl hS ?_
      apply Exists.intro
      apply And.intro
      · intro W9 hW9; have z0 := hW9.cell' q0; have z1 := hW9.cell' q1; have z2 := hW9.cell' q2; have z3 := hW9.cell' q3; have z4 := hW9.cell' q4; have z5 := hW9.cell' q5; have z6 := hW9.cell' q6; have z7 := hW9.cell' q7; have z8 := hW9.cell' q8; go_simp; try with_reducible rfl
      simp only [Act.put, List.setIfInBounds_toArray, List.set_cons_zero, List.set_cons_succ]
      refine take1 (i := 5) (some 46) rfl rfl (by kernel_rfl) (by kernel_rfl) (by kernel_rfl) (fun _ _ _ _ h => h) rfl hS ?_
      apply Exists.intro
      apply And.intro
      · intro W9 hW9; have z0 := hW9.cell' q0; have z1 := hW9.cell' q1; have z2 := hW9.cell' q2; have z3 := hW9.cell' q3; have z4 := hW9.cell' q4; have z5 := hW9.cell' q5; have z6 := hW9.cell' q6; have z7 := hW9.cell' q7; have z8 := hW9.cell' q8; go_simp; try with_reducible rfl
      simp only [Act.put, List.setIfInBounds_toArray, List.set_cons_zero, List.set_cons_succ]
      refine take1 (i := 6) (some 47) rfl rfl (by kernel_rfl) (by kernel_rfl) (by kernel_rfl) (fun _ _ _ _ h => h) rfl hS ?_
      refine Exists.intro (.int .i64 3) ?_
      apply And.intro
      · intro W9 hW9; have z0 := hW9.cell' q0; have z1 := hW9.cell' q1; have z2 := hW9.cell' q2; have z3 := hW9.cell' q3; have z4 := hW9.cell' q4; have z5 := hW9.cell' q5; have z6 := hW9.cell' q6; have z7 := hW9.cell' q7; have z8 := hW9.cell' q8; go_simp; (try go_bits); (try with_reducible rfl); (try trivial)
      simp only [Act.put, List.setIfInBounds_toArray, List.set_cons_zero, List.set_cons_succ]
      refine take1 (i := 7) (some 48) rfl rfl (by kernel_rfl) (by kernel_rfl) (by kernel_rfl) (fun _ _ _ _ h => h) rfl hS ?_
      refine Exists.intro (.int .i64 0) ?_
      apply And.intro
      · intro W9 hW9; have z0 := hW9.cell' q0; have z1 := hW9.cell' q1; have z2 := hW9.cell' q2; have z3 := hW9.cell' q3; have z4 := hW9.cell' q4; have z5 := hW9.cell' q5; have z6 := hW9.cell' q6; have z7 := hW9.cell' q7; have z8 := hW9.cell' q8; go_simp; (try go_bits); (try with_reducible rfl); (try trivial)
      simp only [Act.put, List.setIfInBounds_toArray, List.set_cons_zero, List.set_cons_succ]
      refine take1 (i := 8) (some 49) rfl rfl (by kernel_rfl) (by kernel_rfl) (by kernel_rfl) (fun _ _ _ _ h => h) rfl hS ?_
      apply Exists.intro
      apply And.intro
      · intro W9 hW9; have z0 := hW9.cell' q0; have z1 := hW9.cell' q1; have z2 := hW9.cell' q2; have z3 := hW9.cell' q3; have z4 := hW9.cell' q4; have z5 := hW9.cell' q5; have z6 := hW9.cell' q6; have z7 := hW9.cell' q7; have z8 := hW9.cell' q8; go_simp; try with_reducible rfl
      simp only [Act.put, List.setIfInBounds_toArray, List.set_cons_zero, List.set_cons_succ]
      refine take1 (i := 9) (some 50) rfl rfl (by kernel_rfl) (by kernel_rfl) (by kernel_rfl) (fun _ _ _ _ h => h) rfl hS ?_
      refine Exists.intro (.agg #[.int .i64 (tm 0), .int .i64 1, .slice a0 (FrE X 0).length c0]) ?_
      apply And.intro
      · intro W9 hW9; have z0 := hW9.cell' q0; have z1 := hW9.cell' q1; have z2 := hW9.cell' q2; have z3 := hW9.cell' q3; have z4 := hW9.cell' q4; have z5 := hW9.cell' q5; have z6 := hW9.cell' q6; have z7 := hW9.cell' q7; have z8 := hW9.cell' q8; go_simp; (try go_bits); (try with_reducible rfl); (try trivial)
      simp only [Act.put, List.setIfInBounds_toArray, List.set_cons_zero, List.set_cons_succ]
      refine take1 (i := 10) (some 51) rfl rfl (by kernel_rfl) (by kernel_rfl) (by kernel_rfl) (fun _ _ _ _ h => h) rfl hS ?_
      apply Exists.intro
      apply And.intro
      · intro W9 hW9; have z0 := hW9.cell' q0; have z1 := hW9.cell' q1; have z2 := hW9.cell' q2; have z3 := hW9.cell' q3; have z4 := hW9.cell' q4; have z5 := hW9.cell' q5; have z6 := hW9.cell' q6; have z7 := hW9.cell' q7; have z8 := hW9.cell' q8; go_simp; try with_reducible rfl
      simp only [Act.put, List.setIfInBounds_toArray, List.set_cons_zero, List.set_cons_succ]
      refine take1 (i := 11) (some 52) rfl rfl (by kernel_rfl) (by kernel_rfl) (by kernel_rfl) (fun _ _ _ _ h => h) rfl hS ?_
      apply Exists.intro
      apply And.intro
      · intro W9 hW9; have z0 := hW9.cell' q0; have z1 := hW9.cell' q1; have z2 := hW9.cell' q2; have z3 := hW9.cell' q3; have z4 := hW9.cell' q4; have z5 := hW9.cell' q5; have z6 := hW9.cell' q6; have z7 := hW9.cell' q7; have z8 := hW9.cell' q8; go_simp; try with_reducible rfl
      simp only [Act.put, List.setIfInBounds_toArray, List.set_cons_zero, List.set_cons_succ]
      refine take1 (i := 12) (some 53) rfl rfl (by kernel_rfl) (by kernel_rfl) (by kernel_rfl) (fun _ _ _ _ h => h) rfl hS ?_
      refine Exists.intro (.int .i64 2) ?_
      apply And.intro
      · intro W9 hW9; have z0 := hW9.cell' q0; have z1 := hW9.cell' q1; have z2 := hW9.cell' q2; have z3 := hW9.cell' q3; have z4 := hW9.cell' q4; have z5 := hW9.cell' q5; have z6 := hW9.cell' q6; have z7 := hW9.cell' q7; have z8 := hW9.cell' q8; go_simp; (try go_bits); (try with_reducible rfl); (try trivial)
      simp only [Act.put, List.setIfInBounds_toArray, List.set_cons_zero, List.set_cons_succ]
      refine take1 (i := 13) (some 54) rfl rfl (by kernel_rfl) (by kernel_rfl) (by kernel_rfl) (fun _ _ _ _ h => h) rfl hS ?_
      refine Exists.intro (.int .i64 2) ?_
      apply And.intro
      · intro W9 hW9; have z0 := hW9.cell' q0; have z1 := hW9.cell' q1; have z2 := hW9.cell' q2; have z3 := hW9.cell' q3; have z4 := hW9.cell' q4; have z5 := hW9.cell' q5; have z6 := hW9.cell' q6; have z7 := hW9.cell' q7; have z8 := hW9.cell' q8; go_simp; (try go_bits); (try with_reducible rfl); (try trivial)
      simp only [Act.put, List.setIfInBounds_toArray, List.set_cons_zero, List.set_cons_succ]
      refine take1 (i := 14) (some 55) rfl rfl (by kernel_rfl) (by kernel_rfl) (by kernel_rfl) (fun _ _ _ _ h => h) rfl hS ?_
      apply Exists.intro
      apply And.intro
      · intro W9 hW9; have z0 := hW9.cell' q0; have z1 := hW9.cell' q1; have z2 := hW9.cell' q2; have z3 := hW9.cell' q3; have z4 := hW9.cell' q4; have z5 := hW9.cell' q5; have z6 := hW9.cell' q6; have z7 := hW9.cell' q7; have z8 := hW9.cell' q8; go_simp; try with_reducible rfl
      simp only [Act.put, List.setIfInBounds_toArray, List.set_cons_zero, List.set_cons_succ]
      refine take1 (i := 15) (some 56) rfl rfl (by kernel_rfl) (by kernel_rfl) (by kernel_rfl) (fun _ _ _ _ h => h) rfl hS ?_
      refine Exists.intro (.agg #[.int .i64 (tm 2), .int .i64 3, .slice a2 (FrE X 2).length c2]) ?_
      apply And.intro
      · intro W9 hW9; have z0 := hW9.cell' q0; have z1 := hW9.cell' q1; have z2 := hW9.cell' q2; have z3 := hW9.cell' q3; have z4 := hW9.cell' q4; have z5 := hW9.cell' q5; have z6 := hW9.cell' q6; have z7 := hW9.cell' q7; have z8 := hW9.cell' q8; go_simp; (try go_bits); (try with_reducible rfl); (try trivial)
      simp only [Act.put, List.setIfInBounds_toArray, List.set_cons_zero, List.set_cons_succ]
      refine wpAnyH_ready (rs := [16, 21]) (by kernel_rfl) (by simp) ?_
      refine AllReadyH.cons rfl (fun K hK => ?_) ?_
      go_simp
      have hba := Bw.alloc (Bw.refl wd) (.cells #[.int .i64 (tm 1), .int .i64 2, .slice a1 (FrE X 1).length c1, .int .i64 (tm 0), .int .i64 1, .slice a0 (FrE X 0).length c0, .int .i64 (tm 2), .int .i64 3, .slice a2 (FrE X 2).length c2] 47)
      have NBK := Lib.hid (Blk.new wd 47 #[.int .i64 (tm 1), .int .i64 2, .slice a1 (FrE X 1).length c1, .int .i64 (tm 0), .int .i64 1, .slice a0 (FrE X 0).length c0, .int .i64 (tm 2), .int .i64 3, .slice a2 (FrE X 2).length c2])
      obtain ⟨gb, hgb⟩ : ∃ gb, wd.heap.size = gb := ⟨_, rfl⟩
      rw [hgb] at NBK
      refine hK.out _ _ (hS.trans hba) (fun hS => ?_)
      clear hK K
      clear hba
      try rw [hgb]
      clear hgb
      generalize World.alloc wd _ = w13 at hS NBK ⊢
      refine wpAnyH_ready (rs := [17, 21]) (by kernel_rfl) (by simp) ?_
      refine AllReadyH.cons rfl (fun K hK => ?_) ?_
      go_simp
      go_wp2_with (go_at_call 18; (with_reducible refine Calls.mono (RRW.out 1 (by omega) _ _ (HRW.out.bw hS) ?_) ?_); (focus (rw [HVV.out.1, HVV.out.2.1, HVV.out.2.2]; exact NBK.out)); rintro e1 w14 ⟨rfl, hb14⟩)
      refine hK.out _ _ (hS.trans hb14) (fun hS => ?_)
      clear hK K
      clear hb14
      refine take1 (i := 18) (some 40) rfl rfl (by kernel_rfl) (by kernel_rfl) (by kernel_rfl) (fun _ _ _ _ h => h) rfl hS ?_
      apply Exists.intro
      apply And.intro
      · intro W9 hW9; have z0 := hW9.cell' q0; have z1 := hW9.cell' q1; have z2 := hW9.cell' q2; have z3 := hW9.cell' q3; have z4 := hW9.cell' q4; have z5 := hW9.cell' q5; have z6 := hW9.cell' q6; have z7 := hW9.cell' q7; have z8 := hW9.cell' q8; go_simp; try with_reducible rfl
      simp only [Act.put, List.setIfInBounds_toArray, List.set_cons_zero, List.set_cons_succ]
      refine take1 (i := 19) (some 59) rfl rfl (by kernel_rfl) (by kernel_rfl) (by kernel_rfl) (fun _ _ _ _ h => h) rfl hS ?_
      apply Exists.intro
      apply And.intro
      · intro W9 hW9; have z0 := hW9.cell' q0; have z1 := hW9.cell' q1; have z2 := hW9.cell' q2; have z3 := hW9.cell' q3; have z4 := hW9.cell' q4; have z5 := hW9.cell' q5; have z6 := hW9.cell' q6; have z7 := hW9.cell' q7; have z8 := hW9.cell' q8; go_simp; try with_reducible rfl
      simp only [Act.put, List.setIfInBounds_toArray, List.set_cons_zero, List.set_cons_succ]
      refine take1 (i := 20) (some 60) rfl rfl (by kernel_rfl) (by kernel_rfl) (by kernel_rfl) (fun _ _ _ _ h => h) rfl hS ?_
      apply Exists.intro
      apply And.intro
      · intro W9 hW9; have z0 := hW9.cell' q0; have z1 := hW9.cell' q1; have z2 := hW9.cell' q2; have z3 := hW9.cell' q3; have z4 := hW9.cell' q4; have z5 := hW9.cell' q5; have z6 := hW9.cell' q6; have z7 := hW9.cell' q7; have z8 := hW9.cell' q8; go_simp; try with_reducible rfl
      simp only [Act.put, List.setIfInBounds_toArray, List.set_cons_zero, List.set_cons_succ]
      refine wpAnyH_ready (rs := [21]) (by kernel_rfl) (by simp) ?_
      refine AllReadyH.cons rfl (fun K hK => ?_) ?_
      rw [if_pos (by rfl)]
      refine wp_alloc_new 25 rfl (some 11) rfl _ (zeroEp _) ?_
      intro g11 w5 hg9 hN hbw
      simp only [Act.put, List.setIfInBounds_toArray, List.set_cons_zero, List.set_cons_succ]
      have K11 := Lib.hid hN
      have H11 := Lib.hid (Nat.le_trans hS.size hg9)
      clear hN
      refine hK.out _ _ (hS.trans hbw) (fun hS => ?_)
      clear hK K
      clear hbw hg9
      refine wpAnyH_ready (rs := [22]) (by kernel_rfl) (by simp) ?_
      refine AllReadyH.cons rfl (fun K hK => ?_) ?_
      rw [if_pos (by rfl)]
      refine wp_store_row0 25 _ _ rfl rfl g11 A rfl rfl 25 #[.int .i64 0, .int .i64 0, .int .i64 0, .int .i64 0, .int .i64 0, .int .i64 0, .int .i64 0, .int .i64 0, .int .i64 0, .int .i64 0, .int .i64 0, .int .i64 0, .int .i64 0, .int .i64 0, .int .i64 0, .int .i64 0, .int .i64 0, .int .i64 0, .int .i64 0] K11.out HSZ.out HA3.out HON.out ?_
      replace K11 := Lib.hid (K11.out.row A)
      refine hK.out _ _ (Bw.setRow hS H11.out A) (fun hS => ?_)
      clear hK K
      refine take1 (i := 23) (some 12) rfl rfl (by kernel_rfl) (by kernel_rfl) (by kernel_rfl) (fun _ _ _ _ h => h) rfl hS ?_
      apply Exists.intro
      apply And.intro
      · intro W9 hW9; have z0 := hW9.cell' q0; have z1 := hW9.cell' q1; have z2 := hW9.cell' q2; have z3 := hW9.cell' q3; have z4 := hW9.cell' q4; have z5 := hW9.cell' q5; have z6 := hW9.cell' q6; have z7 := hW9.cell' q7; have z8 := hW9.cell' q8; go_simp; try with_reducible rfl
      simp only [Act.put, List.setIfInBounds_toArray, List.set_cons_zero, List.set_cons_succ]
      refine wpAnyH_done (by kernel_rfl) ?_ _
      rotate_left
      exact AllReadyH.nil
      exact AllReadyH.nil
      refine AllReadyH.cons rfl (fun K hK => ?_) ?_
      rw [if_pos (by rfl)]
      refine wp_alloc_new 25 rfl (some 11) rfl _ (zeroEp _) ?_
      intro g11 w5 hg9 hN hbw
      simp only [Act.put, List.setIfInBounds_toArray, List.set_cons_zero, List.set_cons_succ]
      have K11 := Lib.hid hN
      have H11 := Lib.hid (Nat.le_trans hS.size hg9)
      replace NBK := Lib.hid (NBK.out.bw hbw)
      clear hN
      refine hK.out _ _ (hS.trans hbw) (fun hS => ?_)
      clear hK K
      clear hbw hg9
      refine wpAnyH_ready (rs := [17]) (by kernel_rfl) (by simp) ?_
      refine AllReadyH.cons rfl (fun K hK => ?_) ?_
      go_simp
      go_wp2_with (go_at_call 18; (with_reducible refine Calls.mono (RRW.out 1 (by omega) _ _ (HRW.out.bw hS) ?_) ?_); (focus (rw [HVV.out.1, HVV.out.2.1, HVV.out.2.2]; exact NBK.out)); rintro e1 w14 ⟨rfl, hb14⟩)
      replace K11 := Lib.hid (K11.out.bw hb14)
      refine hK.out _ _ (hS.trans hb14) (fun hS => ?_)
      clear hK K
      clear hb14
      refine take1 (i := 18) (some 40) rfl rfl (by kernel_rfl) (by kernel_rfl) (by kernel_rfl) (fun _ _ _ _ h => h) rfl hS ?_
      apply Exists.intro
      apply And.intro
      · intro W9 hW9; have z0 := hW9.cell' q0; have z1 := hW9.cell' q1; have z2 := hW9.cell' q2; have z3 := hW9.cell' q3; have z4 := hW9.cell' q4; have z5 := hW9.cell' q5; have z6 := hW9.cell' q6; have z7 := hW9.cell' q7; have z8 := hW9.cell' q8; go_simp; try with_reducible rfl
      simp only [Act.put, List.setIfInBounds_toArray, List.set_cons_zero, List.set_cons_succ]
      refine take1 (i := 19) (some 59) rfl rfl (by kernel_rfl) (by kernel_rfl) (by kernel_rfl) (fun _ _ _ _ h => h) rfl hS ?_
      apply Exists.intro
      apply And.intro
      · intro W9 hW9; have z0 := hW9.cell' q0; have z1 := hW9.cell' q1; have z2 := hW9.cell' q2; have z3 := hW9.cell' q3; have z4 := hW9.cell' q4; have z5 := hW9.cell' q5; have z6 := hW9.cell' q6; have z7 := hW9.cell' q7; have z8 := hW9.cell' q8; go_simp; try with_reducible rfl
      simp only [Act.put, List.setIfInBounds_toArray, List.set_cons_zero, List.set_cons_succ]
      refine take1 (i := 20) (some 60) rfl rfl (by kernel_rfl) (by kernel_rfl) (by kernel_rfl) (fun _ _ _ _ h => h) rfl hS ?_
      apply Exists.intro
      apply And.intro
      · intro W9 hW9; have z0 := hW9.cell' q0; have z1 := hW9.cell' q1; have z2 := hW9.cell' q2; have z3 := hW9.cell' q3; have z4 := hW9.cell' q4; have z5 := hW9.cell' q5; have z6 := hW9.cell' q6; have z7 := hW9.cell' q7; have z8 := hW9.cell' q8; go_simp; try with_reducible rfl
      simp only [Act.put, List.setIfInBounds_toArray, List.set_cons_zero, List.set_cons_succ]
      refine wpAnyH_ready (rs := [22]) (by kernel_rfl) (by simp) ?_
      refine AllReadyH.cons rfl (fun K hK => ?_) ?_
      rw [if_pos (by rfl)]
      refine wp_store_row0 25 _ _ rfl rfl g11 A rfl rfl 25 #[.int .i64 0, .int .i64 0, .int .i64 0, .int .i64 0, .int .i64 0, .int .i64 0, .int .i64 0, .int .i64 0, .int .i64 0, .int .i64 0, .int .i64 0, .int .i64 0, .int .i64 0, .int .i64 0, .int .i64 0, .int .i64 0, .int .i64 0, .int .i64 0, .int .i64 0] K11.out HSZ.out HA3.out HON.out ?_
      replace K11 := Lib.hid (K11.out.row A)
      refine hK.out _ _ (Bw.setRow hS H11.out A) (fun hS => ?_)
      clear hK K
      refine take1 (i := 23) (some 12) rfl rfl (by kernel_rfl) (by kernel_rfl) (by kernel_rfl) (fun _ _ _ _ h => h) rfl hS ?_
      apply Exists.intro
      apply And.intro
      · intro W9 hW9; have z0 := hW9.cell' q0; have z1 := hW9.cell' q1; have z2 := hW9.cell' q2; have z3 := hW9.cell' q3; have z4 := hW9.cell' q4; have z5 := hW9.cell' q5; have z6 := hW9.cell' q6; have z7 := hW9.cell' q7; have z8 := hW9.cell' q8; go_simp; try with_reducible rfl
      simp only [Act.put, List.setIfInBounds_toArray, List.set_cons_zero, List.set_cons_succ]
      refine wpAnyH_done (by kernel_rfl) ?_ _
      rotate_left
      exact AllReadyH.nil
      exact AllReadyH.nil
      exact AllReadyH.nil
      refine AllReadyH.cons rfl (fun K hK => ?_) ?_
      rw [if_pos (by rfl)]
      refine wp_alloc_new 25 rfl (some 11) rfl _ (zeroEp _) ?_
      intro g11 w5 hg9 hN hbw
      simp only [Act.put, List.setIfInBounds_toArray, List.set_cons_zero, List.set_cons_succ]
      have K11 := Lib.hid hN
      have H11 := Lib.hid (Nat.le_trans hS.size hg9)
      clear hN
      refine hK.out _ _ (hS.trans hbw) (fun hS => ?_)
      clear hK K
      clear hbw hg9
      refine wpAnyH_ready (rs := [16]) (by kernel_rfl) (by simp) ?_
      refine AllReadyH.cons rfl (fun K hK => ?_) ?_
      go_simp
      have hba := Bw.alloc (Bw.refl w5) (.cells #[.int .i64 (tm 1), .int .i64 2, .slice a1 (FrE X 1).length c1, .int .i64 (tm 0), .int .i64 1, .slice a0 (FrE X 0).length c0, .int .i64 (tm 2), .int .i64 3, .slice a2 (FrE X 2).length c2] 47)
      have NBK := Lib.hid (Blk.new w5 47 #[.int .i64 (tm 1), .int .i64 2, .slice a1 (FrE X 1).length c1, .int .i64 (tm 0), .int .i64 1, .slice a0 (FrE X 0).length c0, .int .i64 (tm 2), .int .i64 3, .slice a2 (FrE X 2).length c2])
      obtain ⟨gb, hgb⟩ : ∃ gb, w5.heap.size = gb := ⟨_, rfl⟩
      rw [hgb] at NBK
      replace K11 := Lib.hid (K11.out.bw hba)
      refine hK.out _ _ (hS.trans hba) (fun hS => ?_)
      clear hK K
      clear hba
      try rw [hgb]
      clear hgb
      generalize World.alloc w5 _ = w13 at hS NBK K11 ⊢
      refine wpAnyH_ready (rs := [17]) (by kernel_rfl) (by simp) ?_
      refine AllReadyH.cons rfl (fun K hK => ?_) ?_
      go_simp
      go_wp2_with (go_at_call 18; (with_reducible refine Calls.mono (RRW.out 1 (by omega) _ _ (HRW.out.bw hS) ?_) ?_); (focus (rw [HVV.out.1, HVV.out.2.1, HVV.out.2.2]; exact NBK.out)); rintro e1 w14 ⟨rfl, hb14⟩)
      replace K11 := Lib.hid (K11.out.bw hb14)
      refine hK.out _ _ (hS.trans hb14) (fun hS => ?_)
      clear hK K
      clear hb14
      refine take1 (i := 18) (some 40) rfl rfl (by kernel_rfl) (by kernel_rfl) (by kernel_rfl) (fun _ _ _ _ h => h) rfl hS ?_
      apply Exists.intro
      apply And.intro
      · intro W9 hW9; have z0 := hW9.cell' q0; have z1 := hW9.cell' q1; have z2 := hW9.cell' q2; have z3 := hW9.cell' q3; have z4 := hW9.cell' q4; have z5 := hW9.cell' q5; have z6 := hW9.cell' q6; have z7 := hW9.cell' q7; have z8 := hW9.cell' q8; go_simp; try with_reducible rfl
      simp only [Act.put, List.setIfInBounds_toArray, List.set_cons_zero, List.set_cons_succ]
      refine take1 (i := 19) (some 59) rfl rfl (by kernel_rfl) (by kernel_rfl) (by kernel_rfl) (fun _ _ _ _ h => h) rfl hS ?_
      apply Exists.intro
      apply And.intro
      · intro W9 hW9; have z0 := hW9.cell' q0; have z1 := hW9.cell' q1; have z2 := hW9.cell' q2; have z3 := hW9.cell' q3; have z4 := hW9.cell' q4; have z5 := hW9.cell' q5; have z6 := hW9.cell' q6; have z7 := hW9.cell' q7; have z8 := hW9.cell' q8; go_simp; try with_reducible rfl
      simp only [Act.put, List.setIfInBounds_toArray, List.set_cons_zero, List.set_cons_succ]
      refine take1 (i := 20) (some 60) rfl rfl (by kernel_rfl) (by kernel_rfl) (by kernel_rfl) (fun _ _ _ _ h => h) rfl hS ?_
      apply Exists.intro
      apply And.intro
      · intro W9 hW9; have z0 := hW9.cell' q0; have z1 := hW9.cell' q1; have z2 := hW9.cell' q2; have z3 := hW9.cell' q3; have z4 := hW9.cell' q4; have z5 := hW9.cell' q5; have z6 := hW9.cell' q6; have z7 := hW9.cell' q7; have z8 := hW9.cell' q8; go_simp; try with_reducible rfl
      simp only [Act.put, List.setIfInBounds_toArray, List.set_cons_zero, List.set_cons_succ]
      refine wpAnyH_ready (rs := [22]) (by kernel_rfl) (by simp) ?_
      refine AllReadyH.cons rfl (fun K hK => ?_) ?_
      rw [if_pos (by rfl)]
      refine wp_store_row0 25 _ _ rfl rfl g11 A rfl rfl 25 #[.int .i64 0, .int .i64 0, .int .i64 0, .int .i64 0, .int .i64 0, .int .i64 0, .int .i64 0, .int .i64 0, .int .i64 0, .int .i64 0, .int .i64 0, .int .i64 0, .int .i64 0, .int .i64 0, .int .i64 0, .int .i64 0, .int .i64 0, .int .i64 0, .int .i64 0] K11.out HSZ.out HA3.out HON.out ?_
      replace K11 := Lib.hid (K11.out.row A)
      refine hK.out _ _ (Bw.setRow hS H11.out A) (fun hS => ?_)
      clear hK K
      refine take1 (i := 23) (some 12) rfl rfl (by kernel_rfl) (by kernel_rfl) (by kernel_rfl) (fun _ _ _ _ h => h) rfl hS ?_
      apply Exists.intro
      apply And.intro
      · intro W9 hW9; have z0 := hW9.cell' q0; have z1 := hW9.cell' q1; have z2 := hW9.cell' q2; have z3 := hW9.cell' q3; have z4 := hW9.cell' q4; have z5 := hW9.cell' q5; have z6 := hW9.cell' q6; have z7 := hW9.cell' q7; have z8 := hW9.cell' q8; go_simp; try with_reducible rfl
      simp only [Act.put, List.setIfInBounds_toArray, List.set_cons_zero, List.set_cons_succ]
      refine wpAnyH_done (by kernel_rfl) ?_ _
      rotate_left
      exact AllReadyH.nil
      exact AllReadyH.nil
      exact AllReadyH.nil
      exact AllReadyH.nil
      all_goals
        go_wp2
        go_meet
        exact ⟨g11, rfl, rfl, Lib.hid hS, K11⟩
    · skip
      refine wp_region_held_drew (S := Bw u6) (by kernel_rfl) (Bw.drew (Bw.refl _)) (fun hS => ?_)
      generalize World.drew _ = wd at hS ⊢
      refine take1 (i := 0) (some 41) rfl rfl (by kernel_rfl) (by kernel_rfl) (by kernel_rfl) (fun _ _ _ _ h => h) rfl hS ?_
      apply Exists.intro
      apply And.intro
      · intro W9 hW9; have z0 := hW9.cell' q0; have z1 := hW9.cell' q1; have z2 := hW9.cell' q2; have z3 := hW9.cell' q3; have z4 := hW9.cell' q4; have z5 := hW9.cell' q5; have z6 := hW9.cell' q6; have z7 := hW9.cell' q7; have z8 := hW9.cell' q8; go_simp; try with_reducible rfl
      simp only [Act.put, List.setIfInBounds_toArray, List.set_cons_zero, List.set_cons_succ]
      refine take1 (i := 1) (some 42) rfl rfl (by kernel_rfl) (by kernel_rfl) (by kernel_rfl) (fun _ _ _ _ h => h) rfl hS ?_
      apply Exists.intro
      apply And.intro
      · intro W9 hW9; have z0 := hW9.cell' q0; have z1 := hW9.cell' q1; have z2 := hW9.cell' q2; have z3 := hW9.cell' q3; have z4 := hW9.cell' q4; have z5 := hW9.cell' q5; have z6 := hW9.cell' q6; have z7 := hW9.cell' q7; have z8 := hW9.cell' q8; go_simp; try with_reducible rfl
      simp only [Act.put, List.setIfInBounds_toArray, List.set_cons_zero, List.set_cons_succ]
      refine take1 (i := 2) (some 43) rfl rfl (by kernel_rfl) (by kernel_rfl) (by kernel_rfl) (fun _ _ _ _ h => h) rfl hS ?_
      apply Exists.intro
      apply And.intro
      · intro W9 hW9; have z0 := hW9.cell' q0; have z1 := hW9.cell' q1; have z2 := hW9.cell' q2; have z3 := hW9.cell' q3; have z4 := hW9.cell' q4; have z5 := hW9.cell' q5; have z6 := hW9.cell' q6; have z7 := hW9.cell' q7; have z8 := hW9.cell' q8; go_simp; try with_reducible rfl
      simp only [Act.put, List.setIfInBounds_toArray, List.set_cons_zero, List.set_cons_succ]
      refine take1 (i := 3) (some 44) rfl rfl (by kernel_rfl) (by kernel_rfl) (by kernel_rfl) (fun _ _ _ _ h => h) rfl hS ?_
      refine Exists.intro (.agg #[.int .i64 (tm 2), .int .i64 3, .slice a2 (FrE X 2).length c2]) ?_
      apply And.intro
      · intro W9 hW9; have z0 := hW9.cell' q0; have z1 := hW9.cell' q1; have z2 := hW9.cell' q2; have z3 := hW9.cell' q3; have z4 := hW9.cell' q4; have z5 := hW9.cell' q5; have z6 := hW9.cell' q6; have z7 := hW9.cell' q7; have z8 := hW9.cell' q8; go_simp; (try go_bits); (try with_reducible rfl); (try trivial)
      simp only [Act.put, List.setIfInBounds_toArray, List.set_cons_zero, List.set_cons_succ]
      refine take1 (i := 4) (some 45) rfl rfl (by kernel_rfl) (by kernel_rfl) (by kernel_rfl) (fun _ _ _ _ h => h) rfl hS ?_
      apply Exists.intro
      apply And.intro
      · intro W9 hW9; have z0 := hW9.cell' q0; have z1 := hW9.cell' q1; have z2 := hW9.cell' q2; have z3 := hW9.cell' q3; have z4 := hW9.cell' q4; have z5 := hW9.cell' q5; have z6 := hW9.cell' q6; have z7 := hW9.cell' q7; have z8 := hW9.cell' q8; go_simp; try with_reducible rfl
      simp only [Act.put, List.setIfInBounds_toArray, List.set_cons_zero, List.set_cons_succ]
      refine take1 (i := 5) (some 46) rfl rfl (by kernel_rfl) (by kernel_rfl) (by kernel_rfl) (fun _ _ _ _ h => h) rfl hS ?_
      apply Exists.intro
      apply And.intro
      · intro W9 hW9; have z0 := hW9.cell' q0; have z1 := hW9.cell' q1; have z2 := hW9.cell' q2; have z3 := hW9.cell' q3; have z4 := hW9.cell' q4; have z5 := hW9.cell' q5; have z6 := hW9.cell' q6; have z7 := hW9.cell' q7; have z8 := hW9.cell' q8; go_simp; try with_reducible rfl
      simp only [Act.put, List.setIfInBounds_toArray, List.set_cons_zero, List.set_cons_succ]
      refine take1 (i := 6) (some 47) rfl rfl (by kernel_rfl) (by kernel_rfl) (by kernel_rfl) (fun _ _ _ _ h => h) rfl hS ?_
      refine Exists.intro (.int .i64 4) ?_
      apply And.intro
      · intro W9 hW9; have z0 := hW9.cell' q0; have z1 := hW9.cell' q1; have z2 := hW9.cell' q2; have z3 := hW9.cell' q3; have z4 := hW9.cell' q4; have z5 := hW9.cell' q5; have z6 := hW9.cell' q6; have z7 := hW9.cell' q7; have z8 := hW9.cell' q8; go_simp; (try go_bits); (try with_reducible rfl); (try trivial)
      simp only [Act.put, List.setIfInBounds_toArray, List.set_cons_zero, List.set_cons_succ]
      refine take1 (i := 7) (some 48) rfl rfl (by kernel_rfl) (by kernel_rfl) (by kernel_rfl) (fun _ _ _ _ h => h) rfl hS ?_
      refine Exists.intro (.int .i64 1) ?_
      apply And.intro
      · intro W9 hW9; have z0 := hW9.cell' q0; have z1 := hW9.cell' q1; have z2 := hW9.cell' q2; have z3 := hW9.cell' q3; have z4 := hW9.cell' q4; have z5 := hW9.cell' q5; have z6 := hW9.cell' q6; have z7 := hW9.cell' q7; have z8 := hW9.cell' q8; go_simp; (try go_bits); (try with_reducible rfl); (try trivial)
      simp only [Act.put, List.setIfInBounds_toArray, List.set_cons_zero, List.set_cons_succ]
      refine take1 (i := 8) (some 49) rfl rfl (by kernel_rfl) (by kernel_rfl) (by kernel_rfl) (fun _ _ _ _ h => h) rfl hS ?_
      apply Exists.intro
      apply And.intro
      · intro W9 hW9; have z0 := hW9.cell' q0; have z1 := hW9.cell' q1; have z2 := hW9.cell' q2; have z3 := hW9.cell' q3; have z4 := hW9.cell' q4; have z5 := hW9.cell' q5; have z6 := hW9.cell' q6; have z7 := hW9.cell' q7; have z8 := hW9.cell' q8; go_simp; try with_reducible rfl
      simp only [Act.put, List.setIfInBounds_toArray, List.set_cons_zero, List.set_cons_succ]
      refine take1 (i := 9) (some 50) rfl rfl (by kernel_rfl) (by kernel_rfl) (by kernel_rfl) (fun _ _ _ _ h => h) rfl hS ?_
      refine Exists.intro (.agg #[.int .i64 (tm 1), .int .i64 2, .slice a1 (FrE X 1).length c1]) ?_
      apply And.intro
      · intro W9 hW9; have z0 := hW9.cell' q0; have z1 := hW9.cell' q1; have z2 := hW9.cell' q2; have z3 := hW9.cell' q3; have z4 := hW9.cell' q4; have z5 := hW9.cell' q5; have z6 := hW9.cell' q6; have z7 := hW9.cell' q7; have z8 := hW9.cell' q8; go_simp; (try go_bits); (try with_reducible rfl); (try trivial)
      simp only [Act.put, List.setIfInBounds_toArray, List.set_cons_zero, List.set_cons_succ]
      refine take1 (i := 10) (some 51) rfl rfl (by kernel_rfl) (by kernel_rfl) (by kernel_rfl) (fun _ _ _ _ h => h) rfl hS ?_
      apply Exists.intro
      apply And.intro
      · intro W9 hW9; have z0 := hW9.cell' q0; have z1 := hW9.cell' q1; have z2 := hW9.cell' q2; have z3 := hW9.cell' q3; have z4 := hW9.cell' q4; have z5 := hW9.cell' q5; have z6 := hW9.cell' q6; have z7 := hW9.cell' q7; have z8 := hW9.cell' q8; go_simp; try with_reducible rfl
      simp only [Act.put, List.setIfInBounds_toArray, List.set_cons_zero, List.set_cons_succ]
      refine take1 (i := 11) (some 52) rfl rfl (by kernel_rfl) (by kernel_rfl) (by kernel_rfl) (fun _ _ _ _ h => h) rfl hS ?_
      apply Exists.intro
      apply And.intro
      · intro W9 hW9; have z0 := hW9.cell' q0; have z1 := hW9.cell' q1; have z2 := hW9.cell' q2; have z3 := hW9.cell' q3; have z4 := hW9.cell' q4; have z5 := hW9.cell' q5; have z6 := hW9.cell' q6; have z7 := hW9.cell' q7; have z8 := hW9.cell' q8; go_simp; try with_reducible rfl
      simp only [Act.put, List.setIfInBounds_toArray, List.set_cons_zero, List.set_cons_succ]
      refine take1 (i := 12) (some 53) rfl rfl (by kernel_rfl) (by kernel_rfl) (by kernel_rfl) (fun _ _ _ _ h => h) rfl hS ?_
      refine Exists.intro (.int .i64 3) ?_
      apply And.intro
      · intro W9 hW9; have z0 := hW9.cell' q0; have z1 := hW9.cell' q1; have z2 := hW9.cell' q2; have z3 := hW9.cell' q3; have z4 := hW9.cell' q4; have z5 := hW9.cell' q5; have z6 := hW9.cell' q6; have z7 := hW9.cell' q7; have z8 := hW9.cell' q8; go_simp; (try go_bits); (try with_reducible rfl); (try trivial)
      simp only [Act.put, List.setIfInBounds_toArray, List.set_cons_zero, List.set_cons_succ]
      refine take1 (i := 13) (some 54) rfl rfl (by kernel_rfl) (by kernel_rfl) (by kernel_rfl) (fun _ _ _ _ h => h) rfl hS ?_
      refine Exists.intro (.int .i64 0) ?_
      apply And.intro
      · intro W9 hW9; have z0 := hW9.cell' q0; have z1 := hW9.cell' q1; have z2 := hW9.cell' q2; have z3 := hW9.cell' q3; have z4 := hW9.cell' q4; have z5 := hW9.cell' q5; have z6 := hW9.cell' q6; have z7 := hW9.cell' q7; have z8 := hW9.cell' q8; go_simp; (try go_bits); (try with_reducible rfl); (try trivial)
      simp only [Act.put, List.setIfInBounds_toArray, List.set_cons_zero, List.set_cons_succ]
      refine take1 (i := 14) (some 55) rfl rfl (by kernel_rfl) (by kernel_rfl) (by kernel_rfl) (fun _ _ _ _ h => h) rfl hS ?_
      apply Exists.intro
      apply And.intro
      · intro W9 hW9; have z0 := hW9.cell' q0; have z1 := hW9.cell' q1; have z2 := hW9.cell' q2; have z3 := hW9.cell' q3; have z4 := hW9.cell' q4; have z5 := hW9.cell' q5; have z6 := hW9.cell' q6; have z7 := hW9.cell' q7; have z8 := hW9.cell' q8; go_simp; try with_reducible rfl
      simp only [Act.put, List.setIfInBounds_toArray, List.set_cons_zero, List.set_cons_succ]
      refine take1 (i := 15) (some 56) rfl rfl (by kernel_rfl) (by kernel_rfl) (by kernel_rfl) (fun _ _ _ _ h => h) rfl hS ?_
      refine Exists.intro (.agg #[.int .i64 (tm 0), .int .i64 1, .slice a0 (FrE X 0).length c0]) ?_
      apply And.intro
      · intro W9 hW9; have z0 := hW9.cell' q0; have z1 := hW9.cell' q1; have z2 := hW9.cell' q2; have z3 := hW9.cell' q3; have z4 := hW9.cell' q4; have z5 := hW9.cell' q5; have z6 := hW9.cell' q6; have z7 := hW9.cell' q7; have z8 := hW9.cell' q8; go_simp; (try go_bits); (try with_reducible rfl); (try trivial)
      simp only [Act.put, List.setIfInBounds_toArray, List.set_cons_zero, List.set_cons_succ]
      refine wpAnyH_ready (rs := [16, 21]) (by kernel_rfl) (by simp) ?_
      refine AllReadyH.cons rfl (fun K hK => ?_) ?_
      go_simp
      have hba := Bw.alloc (Bw.refl wd) (.cells #[.int .i64 (tm 2), .int .i64 3, .slice a2 (FrE X 2).length c2, .int .i64 (tm 1), .int .i64 2, .slice a1 (FrE X 1).length c1, .int .i64 (tm 0), .int .i64 1, .slice a0 (FrE X 0).length c0] 47)
      have NBK := Lib.hid (Blk.new wd 47 #[.int .i64 (tm 2), .int .i64 3, .slice a2 (FrE X 2).length c2, .int .i64 (tm 1), .int .i64 2, .slice a1 (FrE X 1).length c1, .int .i64 (tm 0), .int .i64 1, .slice a0 (FrE X 0).length c0])
      obtain ⟨gb, hgb⟩ : ∃ gb, wd.heap.size = gb := ⟨_, rfl⟩
      rw [hgb] at NBK
      refine hK.out _ _ (hS.trans hba) (fun hS => ?_)
      clear hK K
      clear hba
      try rw [hgb]
      clear hgb
      generalize World.alloc wd _ = w13 at hS NBK ⊢
      refine wpAnyH_ready (rs := [17, 21]) (by kernel_rfl) (by simp) ?_
      refine AllReadyH.cons rfl (fun K hK => ?_) ?_
      go_simp
      go_wp2_with (go_at_call 18; (with_reducible refine Calls.mono (RRW.out 2 (by omega) _ _ (HRW.out.bw hS) ?_) ?_); (focus (rw [HVV.out.1, HVV.out.2.1, HVV.out.2.2]; exact NBK.out)); rintro e1 w14 ⟨rfl, hb14⟩)
      refine hK.out _ _ (hS.trans hb14) (fun hS => ?_)
      clear hK K
      clear hb14
      refine take1 (i := 18) (some 40) rfl rfl (by kernel_rfl) (by kernel_rfl) (by kernel_rfl) (fun _ _ _ _ h => h) rfl hS ?_
      apply Exists.intro
      apply And.intro
      · intro W9 hW9; have z0 := hW9.cell' q0; have z1 := hW9.cell' q1; have z2 := hW9.cell' q2; have z3 := hW9.cell' q3; have z4 := hW9.cell' q4; have z5 := hW9.cell' q5; have z6 := hW9.cell' q6; have z7 := hW9.cell' q7; have z8 := hW9.cell' q8; go_simp; try with_reducible rfl
      simp only [Act.put, List.setIfInBounds_toArray, List.set_cons_zero, List.set_cons_succ]
      refine take1 (i := 19) (some 59) rfl rfl (by kernel_rfl) (by kernel_rfl) (by kernel_rfl) (fun _ _ _ _ h => h) rfl hS ?_
      apply Exists.intro
      apply And.intro
      · intro W9 hW9; have z0 := hW9.cell' q0; have z1 := hW9.cell' q1; have z2 := hW9.cell' q2; have z3 := hW9.cell' q3; have z4 := hW9.cell' q4; have z5 := hW9.cell' q5; have z6 := hW9.cell' q6; have z7 := hW9.cell' q7; have z8 := hW9.cell' q8; go_simp; try with_reducible rfl
      simp only [Act.put, List.setIfInBounds_toArray, List.set_cons_zero, List.set_cons_succ]
      refine take1 (i := 20) (some 60) rfl rfl (by kernel_rfl) (by kernel_rfl) (by kernel_rfl) (fun _ _ _ _ h => h) rfl hS ?_
      apply Exists.intro
      apply And.intro
      · intro W9 hW9; have z0 := hW9.cell' q0; have z1 := hW9.cell' q1; have z2 := hW9.cell' q2; have z3 := hW9.cell' q3; have z4 := hW9.cell' q4; have z5 := hW9.cell' q5; have z6 := hW9.cell' q6; have z7 := hW9.cell' q7; have z8 := hW9.cell' q8; go_simp; try with_reducible rfl
      simp only [Act.put, List.setIfInBounds_toArray, List.set_cons_zero, List.set_cons_succ]
      refine wpAnyH_ready (rs := [21]) (by kernel_rfl) (by simp) ?_
      refine AllReadyH.cons rfl (fun K hK => ?_) ?_
      rw [if_pos (by rfl)]
      refine wp_alloc_new 25 rfl (some 11) rfl _ (zeroEp _) ?_
      intro g11 w5 hg9 hN hbw
      simp only [Act.put, List.setIfInBounds_toArray, List.set_cons_zero, List.set_cons_succ]
      have K11 := Lib.hid hN
      have H11 := Lib.hid (Nat.le_trans hS.size hg9)
      clear hN
      refine hK.out _ _ (hS.trans hbw) (fun hS => ?_)
      clear hK K
      clear hbw hg9
      refine wpAnyH_ready (rs := [22]) (by kernel_rfl) (by simp) ?_
      refine AllReadyH.cons rfl (fun K hK => ?_) ?_
      rw [if_pos (by rfl)]
      refine wp_store_row0 25 _ _ rfl rfl g11 A rfl rfl 25 #[.int .i64 0, .int .i64 0, .int .i64 0, .int .i64 0, .int .i64 0, .int .i64 0, .int .i64 0, .int .i64 0, .int .i64 0, .int .i64 0, .int .i64 0, .int .i64 0, .int .i64 0, .int .i64 0, .int .i64 0, .int .i64 0, .int .i64 0, .int .i64 0, .int .i64 0] K11.out HSZ.out HA3.out HON.out ?_
      replace K11 := Lib.hid (K11.out.row A)
      refine hK.out _ _ (Bw.setRow hS H11.out A) (fun hS => ?_)
      clear hK K
      refine take1 (i := 23) (some 12) rfl rfl (by kernel_rfl) (by kernel_rfl) (by kernel_rfl) (fun _ _ _ _ h => h) rfl hS ?_
      apply Exists.intro
      apply And.intro
      · intro W9 hW9; have z0 := hW9.cell' q0; have z1 := hW9.cell' q1; have z2 := hW9.cell' q2; have z3 := hW9.cell' q3; have z4 := hW9.cell' q4; have z5 := hW9.cell' q5; have z6 := hW9.cell' q6; have z7 := hW9.cell' q7; have z8 := hW9.cell' q8; go_simp; try with_reducible rfl
      simp only [Act.put, List.setIfInBounds_toArray, List.set_cons_zero, List.set_cons_succ]
      refine wpAnyH_done (by kernel_rfl) ?_ _
      rotate_left
      exact AllReadyH.nil
      exact AllReadyH.nil
      refine AllReadyH.cons rfl (fun K hK => ?_) ?_
      rw [if_pos (by rfl)]
      refine wp_alloc_new 25 rfl (some 11) rfl _ (zeroEp _) ?_
      intro g11 w5 hg9 hN hbw
      simp only [Act.put, List.setIfInBounds_toArray, List.set_cons_zero, List.set_cons_succ]
      have K11 := Lib.hid hN
      have H11 := Lib.hid (Nat.le_trans hS.size hg9)
      replace NBK := Lib.hid (NBK.out.bw hbw)
      clear hN
      refine hK.out _ _ (hS.trans hbw) (fun hS => ?_)
      clear hK K
      clear hbw hg9
      refine wpAnyH_ready (rs := [17]) (by kernel_rfl) (by simp) ?_
      refine AllReadyH.cons rfl (fun K hK => ?_) ?_
      go_simp
      go_wp2_with (go_at_call 18; (with_reducible refine Calls.mono (RRW.out 2 (by omega) _ _ (HRW.out.bw hS) ?_) ?_); (focus (rw [HVV.out.1, HVV.out.2.1, HVV.out.2.2]; exact NBK.out)); rintro e1 w14 ⟨rfl, hb14⟩)
      replace K11 := Lib.hid (K11.out.bw hb14)
      refine hK.out _ _ (hS.trans hb14) (fun hS => ?_)
      clear hK K
      clear hb14
      refine take1 (i := 18) (some 40) rfl rfl (by kernel_rfl) (by kernel_rfl) (by kernel_rfl) (fun _ _ _ _ h => h) rfl hS ?_
      apply Exists.intro
      apply And.intro
      · intro W9 hW9; have z0 := hW9.cell' q0; have z1 := hW9.cell' q1; have z2 := hW9.cell' q2; have z3 := hW9.cell' q3; have z4 := hW9.cell' q4; have z5 := hW9.cell' q5; have z6 := hW9.cell' q6; have z7 := hW9.cell' q7; have z8 := hW9.cell' q8; go_simp; try with_reducible rfl
      simp only [Act.put, List.setIfInBounds_toArray, List.set_cons_zero, List.set_cons_succ]
      refine take1 (i := 19) (some 59) rfl rfl (by kernel_rfl) (by kernel_rfl) (by kernel_rfl) (fun _ _ _ _ h => h) rfl hS ?_
      apply Exists.intro
      apply And.intro
      · intro W9 hW9; have z0 := hW9.cell' q0; have z1 := hW9.cell' q1; have z2 := hW9.cell' q2; have z3 := hW9.cell' q3; have z4 := hW9.cell' q4; have z5 := hW9.cell' q5; have z6 := hW9.cell' q6; have z7 := hW9.cell' q7; have z8 := hW9.cell' q8; go_simp; try with_reducible rfl
      simp only [Act.put, List.setIfInBounds_toArray, List.set_cons_zero, List.set_cons_succ]
      refine take1 (i := 20) (some 60) rfl rfl (by kernel_rfl) (by kernel_rfl) (by kernel_rfl) (fun _ _ _ _ h => h) rfl hS ?_
      apply Exists.intro
      apply And.intro
      · intro W9 hW9; have z0 := hW9.cell' q0; have z1 := hW9.cell' q1; have z2 := hW9.cell' q2; have z3 := hW9.cell' q3; have z4 := hW9.cell' q4; have z5 := hW9.cell' q5; have z6 := hW9.cell' q6; have z7 := hW9.cell' q7; have z8 := hW9.cell' q8; go_simp; try with_reducible rfl
      simp only [Act.put, List.setIfInBounds_toArray, List.set_cons_zero, List.set_cons_succ]
      refine wpAnyH_ready (rs := [22]) (by kernel_rfl) (by simp) ?_
      refine AllReadyH.cons rfl (fun K hK => ?_) ?_
      rw [if_pos (by rfl)]
      refine wp_store_row0 25 _ _ rfl rfl g11 A rfl rfl 25 #[.int .i64 0, .int .i64 0, .int .i64 0, .int .i64 0, .int .i64 0, .int .i64 0, .int .i64 0, .int .i64 0, .int .i64 0, .int .i64 0, .int .i64 0, .int .i64 0, .int .i64 0, .int .i64 0, .int .i64 0, .int .i64 0, .int .i64 0, .int .i64 0, .int .i64 0] K11.out HSZ.out HA3.out HON.out ?_
      replace K11 := Lib.hid (K11.out.row A)
      refine hK.out _ _ (Bw.setRow hS H11.out A) (fun hS => ?_)
      clear hK K
      refine take1 (i := 23) (some 12) rfl rfl (by kernel_rfl) (by kernel_rfl) (by kernel_rfl) (fun _ _ _ _ h => h) rfl hS ?_
      apply Exists.intro
      apply And.intro
      · intro W9 hW9; have z0 := hW9.cell' q0; have z1 := hW9.cell' q1; have z2 := hW9.cell' q2; have z3 := hW9.cell' q3; have z4 := hW9.cell' q4; have z5 := hW9.cell' q5; have z6 := hW9.cell' q6; have z7 := hW9.cell' q7; have z8 := hW9.cell' q8; go_simp; try with_reducible rfl
      simp only [Act.put, List.setIfInBounds_toArray, List.set_cons_zero, List.set_cons_succ]
      refine wpAnyH_done (by kernel_rfl) ?_ _
      rotate_left
      exact AllReadyH.nil
      exact AllReadyH.nil
      exact AllReadyH.nil
      refine AllReadyH.cons rfl (fun K hK => ?_) ?_
      rw [if_pos (by rfl)]
      refine wp_alloc_new 25 rfl (some 11) rfl _ (zeroEp _) ?_
      intro g11 w5 hg9 hN hbw
      simp only [Act.put, List.setIfInBounds_toArray, List.set_cons_zero, List.set_cons_succ]
      have K11 := Lib.hid hN
      have H11 := Lib.hid (Nat.le_trans hS.size hg9)
      clear hN
      refine hK.out _ _ (hS.trans hbw) (fun hS => ?_)
      clear hK K
      clear hbw hg9
      refine wpAnyH_ready (rs := [16]) (by kernel_rfl) (by simp) ?_
      refine AllReadyH.cons rfl (fun K hK => ?_) ?_
      go_simp
      have hba := Bw.alloc (Bw.refl w5) (.cells #[.int .i64 (tm 2), .int .i64 3, .slice a2 (FrE X 2).length c2, .int .i64 (tm 1), .int .i64 2, .slice a1 (FrE X 1).length c1, .int .i64 (tm 0), .int .i64 1, .slice a0 (FrE X 0).length c0] 47)
      have NBK := Lib.hid (Blk.new w5 47 #[.int .i64 (tm 2), .int .i64 3, .slice a2 (FrE X 2).length c2, .int .i64 (tm 1), .int .i64 2, .slice a1 (FrE X 1).length c1, .int .i64 (tm 0), .int .i64 1, .slice a0 (FrE X 0).length c0])
      obtain ⟨gb, hgb⟩ : ∃ gb, w5.heap.size = gb := ⟨_, rfl⟩
      rw [hgb] at NBK
      replace K11 := Lib.hid (K11.out.bw hba)
      refine hK.out _ _ (hS.trans hba) (fun hS => ?_)
      clear hK K
      clear hba
      try rw [hgb]
      clear hgb
      generalize World.alloc w5 _ = w13 at hS NBK K11 ⊢
      refine wpAnyH_ready (rs := [17]) (by kernel_rfl) (by simp) ?_
      refine AllReadyH.cons rfl (fun K hK => ?_) ?_
      go_simp
      go_wp2_with (go_at_call 18; (with_reducible refine Calls.mono (RRW.out 2 (by omega) _ _ (HRW.out.bw hS) ?_) ?_); (focus (rw [HVV.out.1, HVV.out.2.1, HVV.out.2.2]; exact NBK.out)); rintro e1 w14 ⟨rfl, hb14⟩)
      replace K11 := Lib.hid (K11.out.bw hb14)
      refine hK.out _ _ (hS.trans hb14) (fun hS => ?_)
      clear hK K
      clear hb14
      refine take1 (i := 18) (some 40) rfl rfl (by kernel_rfl) (by kernel_rfl) (by kernel_rfl) (fun _ _ _ _ h => h) rfl hS ?_
      apply Exists.intro
      apply And.intro
      · intro W9 hW9; have z0 := hW9.cell' q0; have z1 := hW9.cell' q1; have z2 := hW9.cell' q2; have z3 := hW9.cell' q3; have z4 := hW9.cell' q4; have z5 := hW9.cell' q5; have z6 := hW9.cell' q6; have z7 := hW9.cell' q7; have z8 := hW9.cell' q8; go_simp; try with_reducible rfl
      simp only [Act.put, List.setIfInBounds_toArray, List.set_cons_zero, List.set_cons_succ]
      refine take1 (i := 19) (some 59) rfl rfl (by kernel_rfl) (by kernel_rfl) (by kernel_rfl) (fun _ _ _ _ h => h) rfl hS ?_
      apply Exists.intro
      apply And.intro
      · intro W9 hW9; have z0 := hW9.cell' q0; have z1 := hW9.cell' q1; have z2 := hW9.cell' q2; have z3 := hW9.cell' q3; have z4 := hW9.cell' q4; have z5 := hW9.cell' q5; have z6 := hW9.cell' q6; have z7 := hW9.cell' q7; have z8 := hW9.cell' q8; go_simp; try with_reducible rfl
      simp only [Act.put, List.setIfInBounds_toArray, List.set_cons_zero, List.set_cons_succ]
      refine take1 (i := 20) (some 60) rfl rfl (by kernel_rfl) (by kernel_rfl) (by kernel_rfl) (fun _ _ _ _ h => h) rfl hS ?_
      apply Exists.intro
      apply And.intro
      · intro W9 hW9; have z0 := hW9.cell' q0; have z1 := hW9.cell' q1; have z2 := hW9.cell' q2; have z3 := hW9.cell' q3; have z4 := hW9.cell' q4; have z5 := hW9.cell' q5; have z6 := hW9.cell' q6; have z7 := hW9.cell' q7; have z8 := hW9.cell' q8; go_simp; try with_reducible rfl
      simp only [Act.put, List.setIfInBounds_toArray, List.set_cons_zero, List.set_cons_succ]
      refine wpAnyH_ready (rs := [22]) (by kernel_rfl) (by simp) ?_
      refine AllReadyH.cons rfl (fun K hK => ?_) ?_
      rw [if_pos (by rfl)]
      refine wp_store_row0 25 _ _ rfl rfl g11 A rfl rfl 25 #[.int .i64 0, .int .i64 0, .int .i64 0, .int .i64 0, .int .i64 0, .int .i64 0, .int .i64 0, .int .i64 0, .int .i64 0, .int .i64 0, .int .i64 0, .int .i64 0, .int .i64 0, .int .i64 0, .int .i64 0, .int .i64 0, .int .i64 0, .int .i64 0, .int .i64 0] K11.out HSZ.out HA3.out HON.out ?_
      replace K11 := Lib.hid (K11.out.row A)
      refine hK.out _ _ (Bw.setRow hS H11.out A) (fun hS => ?_)
      clear hK K
      refine take1 (i := 23) (some 12) rfl rfl (by kernel_rfl) (by kernel_rfl) (by kernel_rfl) (fun _ _ _ _ h => h) rfl hS ?_
      apply Exists.intro
      apply And.intro
      · intro W9 hW9; have z0 := hW9.cell' q0; have z1 := hW9.cell' q1; have z2 := hW9.cell' q2; have z3 := hW9.cell' q3; have z4 := hW9.cell' q4; have z5 := hW9.cell' q5; have z6 := hW9.cell' q6; have z7 := hW9.cell' q7; have z8 := hW9.cell' q8; go_simp; try with_reducible rfl
      simp only [Act.put, List.setIfInBounds_toArray, List.set_cons_zero, List.set_cons_succ]
      refine wpAnyH_done (by kernel_rfl) ?_ _
      rotate_left
      exact AllReadyH.nil
      exact AllReadyH.nil
      exact AllReadyH.nil
      exact AllReadyH.nil
      all_goals
        go_wp2
        go_meet
        exact ⟨g11, rfl, rfl, Lib.hid hS, K11⟩
  case rest =>
    obtain ⟨g11, rfl, rfl, hb9, K11⟩ := hcut
    have hb9 := hb9.out
    replace HBW := Lib.hid (HBW.out.trans hb9)
    replace KX := Lib.hid (KX.out.bw hb9)
    replace HRW := Lib.hid (HRW.out.bw hb9)
    clear hb9
    go_upto_region 9 with (first | ((with_reducible refine at_load 25 (.tmp 11) ?_); refine wpList_load_roww 25 _ rfl g11 rfl 25 A (0, 0) _ K11.out Try.underlying25 rfl HSZ.out (by rfl) ?_) | ((with_reducible refine at_load 25 (.tmp 7) ?_); refine wpList_load_roww 25 _ rfl g7 rfl 25 A (0, 0) _ KX.out Try.underlying25 rfl HSZ.out (by rfl) ?_))
    clear K11
    obtain ⟨wm, hwm⟩ : ∃ wm, wm = wc := ⟨_, rfl⟩
    subst hwm
    obtain ⟨gp, hgp⟩ : ∃ gp, wm.heap.size = gp := ⟨_, rfl⟩
    have KN := Lib.hid ((Blk.new wm 43 #[.bool false, .bool false, .bool false, .int .i64 0, .int .i64 0, .slice none 0 0, .slice none 0 0, .slice none 0 0]).alloc (.cells #[.bool false, .bool false, .bool false] 39))
    have KH := Lib.hid (Blk.new (wm.alloc (.cells #[.bool false, .bool false, .bool false, .int .i64 0, .int .i64 0, .slice none 0 0, .slice none 0 0, .slice none 0 0] 43)) 39 #[.bool false, .bool false, .bool false])
    have HWC := Lib.hid (Bw.alloc (Bw.alloc (Bw.refl wm) (.cells #[.bool false, .bool false, .bool false, .int .i64 0, .int .i64 0, .slice none 0 0, .slice none 0 0, .slice none 0 0] 43)) (.cells #[.bool false, .bool false, .bool false] 39))
    simp only [World.size_alloc, hgp] at KN KH
    have HWS := Lib.hid (show w.heap.size ≤ gp by have := HBW.out.size; omega)
    have HLN := Lib.hid (fun k hk => (packedE HXE.out k hk).1)
    have hov := HO.out.mono HBW.out
    go_upto_region 11 with fail
    obtain ⟨W2, hW2⟩ : ∃ W2, (wm.alloc (.cells #[.bool false, .bool false, .bool false, .int .i64 0, .int .i64 0, .slice none 0 0, .slice none 0 0, .slice none 0 0] 43)).alloc (.cells #[.bool false, .bool false, .bool false] 39) = W2 := ⟨_, rfl⟩
    rw [hW2] at KN KH HWC ⊢
    clear hW2
    have HGP := Lib.hid hgp
    clear hgp
    have HOV := Lib.hid hov
    clear hov
    go_wp2
    go_loopg [15] 12 (fun gg s15 wr => ∃ i : Nat, i ≤ 12 ∧ 12 - i ≤ gg ∧ s15 = .int .i64 i ∧ Hid (Bw wm wr) ∧ ∃ (P : Pm) (h : Nat → Bool) (Da : Nat → Value), Hid (Blk wr gp 43 (ptV P.h P.is P.pr Da)) ∧ Hid (Blk wr (gp + 1) 39 (hbV h)) ∧ Hid (Dat3 wr Da P.Z) ∧ Hid (Inv P h (fun _ => X) (X 1) (X 0)))
    case atStart => exact ⟨0, by omega, by omega, rfl, HWC, zP, fun _ => false, fun _ => .slice none 0 0, KN, KH, Lib.hid (fun j hj => ⟨RdI.nil _, Capd.nil⟩), Lib.hid (Inv.zero _ _ _)⟩
    case round =>
      clear KN KH HWC
      obtain ⟨i, hi, hgg, rfl, HWC, P, h, Da, KN, KH, HDA, HI⟩ := hrel
      obtain ⟨wb, rfl⟩ : ∃ wb, wb = wr := ⟨_, rfl⟩
      by_cases c1 : i < no
      case neg =>
        have c1z : ¬ (i : Int) < no := by omega
        go_wp2_with (go_at_call 16; (with_reducible refine Calls.mono (AW.out _) ?_); rintro e2 w2 ⟨rfl, hb2⟩)
        go_ret
        exact ⟨rfl, (HBW.out.trans HWC.out).trans hb2⟩
      by_cases c2 : i < 12
      case neg =>
        have c1z : (i : Int) < no := by omega
        have c2z : ¬ (i : Int) < 12 := by omega
        go_wp2_with (go_at_call 16; (with_reducible refine Calls.mono (AW.out _) ?_); rintro e2 w2 ⟨rfl, hb2⟩)
        go_ret
        exact ⟨rfl, (HBW.out.trans HWC.out).trans hb2⟩
      have c1z : (i : Int) < no := by omega
      have c2z : (i : Int) < 12 := by omega
      have hi0 : (0 : Int) ≤ i := by omega
      obtain ⟨bo, oo, cco, hvo, _, hco⟩ := (HOV.out.mono HWC.out).at (by have := HNO.out; omega)
      injection hvo with i1 i2 i3
      subst i1
      clear i2 i3
      have cz := hco i (by have := HNO.out; omega)
      clear hco
      generalize zo.getD i 0 = z at cz
      have hkb3 := bel_bd z 3 (by decide)
      have KXb := Lib.hid (KX.out.bw HWC.out)
      have HRb := Lib.hid (HRW.out.bw HWC.out)
      go_upto_region 15 with (go_at_call 27; (with_reducible refine Calls.mono (BE.out _ _ _ ?_ ?_) ?_); (focus decide); (focus decide); rintro e1 w7 ⟨rfl, hb9⟩; replace HWC := Lib.hid (HWC.out.trans hb9); replace KN := Lib.hid (KN.out.bw hb9); replace KH := Lib.hid (KH.out.bw hb9); replace HDA := Lib.hid (HDA.out.bw hb9); replace KXb := Lib.hid (KXb.out.bw hb9); replace HRb := Lib.hid (HRb.out.bw hb9); clear hb9 cz)
      obtain ⟨k, hk9⟩ : ∃ k : Nat, bel z 3 = (k : Int) := ⟨(bel z 3).toNat, by omega⟩
      rw [hk9] at hkb3 ⊢
      clear hk9
      have hk : k < 3 := by omega
      have hkz : (k : Int) < 3 := by omega
      have hk0 : (0 : Int) ≤ k := by omega
      clear hkb3
      have HKK := Lib.hid hk
      clear hk
      have kh := KH.out.cell (hbV_at h k HKK.out)
      have hfz := KH.out.frozen k
      go_upto_region 16 with fail
      clear kh hfz
      have HBZ := Lib.hid (show ∀ j, j < 3 → Big (P.Z j) from fun j hj => by
        rw [HI.out.hz j hj]
        split
        · exact .inr (by rw [HLN.out j hj]; omega)
        · exact .inl rfl)
      have hkx : Kx (gp + 1) w7 (w7.setCell ⟨gp + 1, k, none⟩ (.bool true)) := Kx.set KH.out.lt _
      replace HDA := Lib.hid (show Dat3 (w7.setCell ⟨gp + 1, k, none⟩ (.bool true)) Da P.Z from HDA.out.kx HBZ.out KH.out (show (hbV h).size ≤ 19 from (by decide : 3 ≤ 19)) hkx)
      replace KN := Lib.hid (KN.out.set_other (b := gp + 1) (by omega) k (.bool true))
      replace KXb := Lib.hid (hkx.blk KXb.out (by have := KX.out.lt; have := HGP.out; omega))
      replace HWC := Lib.hid (Bw.setCell HWC.out (p := ⟨gp + 1, k, none⟩) (by have := HGP.out; simp; omega) (.bool true))
      replace HRb := Lib.hid (HRW.out.bw HWC.out)
      replace KH := Lib.hid (KH.out.set k (.bool true))
      rw [hbV_set h k HKK.out] at KH
      clear hkx
      generalize World.setCell w7 _ _ = wv at *
      obtain ⟨d0, d1, d2⟩ := HRb.out.c k HKK.out
      obtain ⟨af, cf, hfd⟩ := (HRb.out.d k HKK.out).1.form
      have HDK := Lib.hid (HRb.out.d k HKK.out)
      rw [hfd] at d2 HDK
      clear hfd
      obtain ⟨LN, hLN⟩ : ∃ LN, LN = (FrE X k).length := ⟨_, rfl⟩
      rw [← hLN] at d2 HDK
      clear hLN
      have AD := Lib.hid (fun W (q : Bw wv W) => Add26_any P Da (tm k) ((k : Int) + 1) (FrE X k) (.slice af LN cf) W (HDA.out.bw q) (HDK.out.1.mono q) HDK.out.2)
      obtain ⟨b1, b2, b3, b4⟩ := back_add HI.out HXE.out HKK.out (HRb.out.t k HKK.out)
      have HBIG := Lib.hid (add_big P (tm k) ((k : Int) + 1) (FrE X k))
      generalize addR P (tm k) ((k : Int) + 1) (FrE X k) = R at AD HBIG b1 b2 b3 b4
      obtain ⟨Q, XR, dn, er⟩ := R
      unfold AddP at AD
      dsimp only at AD HBIG b1 b2 b3 b4
      subst b1
      generalize upN h k true = H2 at *
      have HB2 := Lib.hid b2
      have HB3' := Lib.hid b3
      have HB4 := Lib.hid b4
      clear b2 b3 b4
      generalize tm k = t at *
      go_cut [17, 18, 19, 20, 116] from 68 (fun s17 s18 s19 s20 sz wc => ∃ g9 g10 D9, wv.heap.size ≤ g9 ∧ wv.heap.size ≤ g10 ∧ s17 = .pointer (some ⟨g9, 0, none⟩) ∧ s18 = .pointer (some ⟨g10, 0, none⟩) ∧ s19 = .bool dn ∧ s20 = .int .i64 0 ∧ sz = u116 ∧ Hid (Bw wv wc) ∧ Hid (Blk wc g9 43 (ptV Q.h Q.is Q.pr D9)) ∧ Hid (Blk wc g10 25 (eV XR)) ∧ Hid (Dat3 wc D9 Q.Z))
      case first =>
        refine wp_region_held_drew (S := Bw wv) (by kernel_rfl) (Bw.drew (Bw.refl _)) (fun hS => ?_)
        generalize World.drew _ = wd at hS ⊢
        refine take1 (i := 0) (some 86) rfl rfl (by kernel_rfl) (by kernel_rfl) (by kernel_rfl) (fun _ _ _ _ h => h) rfl hS ?_
        refine Exists.intro (.agg (ptV P.h P.is P.pr Da)) ?_
        apply And.intro
        · intro W9 hW9; have y0 := hW9.cell' d0; have y1 := hW9.cell' d1; have y2 := hW9.cell' d2; exact run_load_row 43 _ rfl gp rfl 43 (ptV P.h P.is P.pr Da) _ (KN.out.bw hW9) Try.underlying43 rfl (by kernel_rfl)
        simp only [Act.put, List.setIfInBounds_toArray, List.set_cons_zero, List.set_cons_succ]
        refine take1 (i := 1) (some 87) rfl rfl (by kernel_rfl) (by kernel_rfl) (by kernel_rfl) (fun _ _ _ _ h => h) rfl hS ?_
        apply Exists.intro
        apply And.intro
        · intro W9 hW9; have y0 := hW9.cell' d0; have y1 := hW9.cell' d1; have y2 := hW9.cell' d2; go_simp; try with_reducible rfl
        simp only [Act.put, List.setIfInBounds_toArray, List.set_cons_zero, List.set_cons_succ]
        refine take1 (i := 2) (some 88) rfl rfl (by kernel_rfl) (by kernel_rfl) (by kernel_rfl) (fun _ _ _ _ h => h) rfl hS ?_
        apply Exists.intro
        apply And.intro
        · intro W9 hW9; have y0 := hW9.cell' d0; have y1 := hW9.cell' d1; have y2 := hW9.cell' d2; go_simp; try with_reducible rfl
        simp only [Act.put, List.setIfInBounds_toArray, List.set_cons_zero, List.set_cons_succ]
        refine take1 (i := 3) (some 89) rfl rfl (by kernel_rfl) (by kernel_rfl) (by kernel_rfl) (fun _ _ _ _ h => h) rfl hS ?_
        apply Exists.intro
        apply And.intro
        · intro W9 hW9; have y0 := hW9.cell' d0; have y1 := hW9.cell' d1; have y2 := hW9.cell' d2; go_simp; try with_reducible rfl
        simp only [Act.put, List.setIfInBounds_toArray, List.set_cons_zero, List.set_cons_succ]
        refine take1 (i := 4) (some 90) rfl rfl (by kernel_rfl) (by kernel_rfl) (by kernel_rfl) (fun _ _ _ _ h => h) rfl hS ?_
        refine Exists.intro (.agg #[.int .i64 t, .int .i64 ((k : Int) + 1), .slice af LN cf]) ?_
        apply And.intro
        · intro W9 hW9; have y0 := hW9.cell' d0; have y1 := hW9.cell' d1; have y2 := hW9.cell' d2; go_simp; (try go_bits); (try with_reducible rfl); (try trivial)
        simp only [Act.put, List.setIfInBounds_toArray, List.set_cons_zero, List.set_cons_succ]
        refine wpAnyH_ready (rs := [5, 11, 12]) (by kernel_rfl) (by simp) ?_
        refine AllReadyH.cons rfl (fun K hK => ?_) ?_
        go_simp
        go_wp2_with (go_at_call 20; (with_reducible refine Calls.mono (AD.out _ hS) ?_); rintro e1 w13 ⟨⟨D9, rfl, hd9⟩, hb13⟩)
        have HD9 := Lib.hid (show Dat3 w13 D9 Q.Z from hd9)
        clear hd9
        refine hK.out _ _ (hS.trans hb13) (fun hS => ?_)
        clear hK K
        clear hb13
        refine take1 (i := 6) (some 85) rfl rfl (by kernel_rfl) (by kernel_rfl) (by kernel_rfl) (fun _ _ _ _ h => h) rfl hS ?_
        apply Exists.intro
        apply And.intro
        · intro W9 hW9; have y0 := hW9.cell' d0; have y1 := hW9.cell' d1; have y2 := hW9.cell' d2; go_simp; try with_reducible rfl
        simp only [Act.put, List.setIfInBounds_toArray, List.set_cons_zero, List.set_cons_succ]
        refine take1 (i := 7) (some 92) rfl rfl (by kernel_rfl) (by kernel_rfl) (by kernel_rfl) (fun _ _ _ _ h => h) rfl hS ?_
        apply Exists.intro
        apply And.intro
        · intro W9 hW9; have y0 := hW9.cell' d0; have y1 := hW9.cell' d1; have y2 := hW9.cell' d2; go_simp; try with_reducible rfl
        simp only [Act.put, List.setIfInBounds_toArray, List.set_cons_zero, List.set_cons_succ]
        refine take1 (i := 8) (some 93) rfl rfl (by kernel_rfl) (by kernel_rfl) (by kernel_rfl) (fun _ _ _ _ h => h) rfl hS ?_
        apply Exists.intro
        apply And.intro
        · intro W9 hW9; have y0 := hW9.cell' d0; have y1 := hW9.cell' d1; have y2 := hW9.cell' d2; go_simp; try with_reducible rfl
        simp only [Act.put, List.setIfInBounds_toArray, List.set_cons_zero, List.set_cons_succ]
        refine take1 (i := 9) (some 94) rfl rfl (by kernel_rfl) (by kernel_rfl) (by kernel_rfl) (fun _ _ _ _ h => h) rfl hS ?_
        apply Exists.intro
        apply And.intro
        · intro W9 hW9; have y0 := hW9.cell' d0; have y1 := hW9.cell' d1; have y2 := hW9.cell' d2; go_simp; try with_reducible rfl
        simp only [Act.put, List.setIfInBounds_toArray, List.set_cons_zero, List.set_cons_succ]
        refine take1 (i := 10) (some 95) rfl rfl (by kernel_rfl) (by kernel_rfl) (by kernel_rfl) (fun _ _ _ _ h => h) rfl hS ?_
        apply Exists.intro
        apply And.intro
        · intro W9 hW9; have y0 := hW9.cell' d0; have y1 := hW9.cell' d1; have y2 := hW9.cell' d2; go_simp; try with_reducible rfl
        simp only [Act.put, List.setIfInBounds_toArray, List.set_cons_zero, List.set_cons_succ]
        refine wpAnyH_ready (rs := [11, 12]) (by kernel_rfl) (by simp) ?_
        refine AllReadyH.cons rfl (fun K hK => ?_) ?_
        rw [if_pos (by rfl)]
        refine wp_alloc_new 43 rfl (some 17) rfl _ (zeroPt _) ?_
        intro g9 w5 hg9 hN hbw
        simp only [Act.put, List.setIfInBounds_toArray, List.set_cons_zero, List.set_cons_succ]
        have Kg9 := Lib.hid hN
        have Hg9 := Lib.hid (Nat.le_trans hS.size hg9)
        replace HD9 := Lib.hid (HD9.out.bw hbw)
        clear hN
        refine hK.out _ _ (hS.trans hbw) (fun hS => ?_)
        clear hK K
        clear hbw hg9
        refine wpAnyH_ready (rs := [12]) (by kernel_rfl) (by simp) ?_
        refine AllReadyH.cons rfl (fun K hK => ?_) ?_
        rw [if_pos (by rfl)]
        refine wp_alloc_new 25 rfl (some 18) rfl _ (zeroEp _) ?_
        intro g10 w6 hg9 hN hbw
        simp only [Act.put, List.setIfInBounds_toArray, List.set_cons_zero, List.set_cons_succ]
        have Kg10 := Lib.hid hN
        have Hg10 := Lib.hid (Nat.le_trans hS.size hg9)
        replace HD9 := Lib.hid (HD9.out.bw hbw)
        replace Kg9 := Lib.hid (Kg9.out.bw hbw)
        clear hN
        refine hK.out _ _ (hS.trans hbw) (fun hS => ?_)
        clear hK K
        clear hbw hg9
        refine wpAnyH_ready (rs := [13]) (by kernel_rfl) (by simp) ?_
        refine AllReadyH.cons rfl (fun K hK => ?_) ?_
        rw [if_pos (by rfl)]
        refine wp_store_row0 43 _ _ rfl rfl g9 (ptV Q.h Q.is Q.pr D9) rfl rfl 43 #[.bool false, .bool false, .bool false, .int .i64 0, .int .i64 0, .slice none 0 0, .slice none 0 0, .slice none 0 0] Kg9.out (by kernel_rfl) rfl (HD9.out.one _ _ _) ?_
        replace HD9 := Lib.hid (HD9.out.row HBIG.out Kg9.out (by decide) (ptV Q.h Q.is Q.pr D9))
        replace Kg10 := Lib.hid (Kg10.out.row_other (g' := g9) (Blk.ne Kg10.out Kg9.out (by decide)) (ptV Q.h Q.is Q.pr D9))
        replace Kg9 := Lib.hid (Kg9.out.row (ptV Q.h Q.is Q.pr D9))
        refine hK.out _ _ (Bw.setRow hS Hg9.out (ptV Q.h Q.is Q.pr D9)) (fun hS => ?_)
        clear hK K
        refine wpAnyH_ready (rs := [14]) (by kernel_rfl) (by simp) ?_
        refine AllReadyH.cons rfl (fun K hK => ?_) ?_
        rw [if_pos (by rfl)]
        refine wp_store_row0 25 _ _ rfl rfl g10 (eV XR) rfl rfl 25 #[.int .i64 0, .int .i64 0, .int .i64 0, .int .i64 0, .int .i64 0, .int .i64 0, .int .i64 0, .int .i64 0, .int .i64 0, .int .i64 0, .int .i64 0, .int .i64 0, .int .i64 0, .int .i64 0, .int .i64 0, .int .i64 0, .int .i64 0, .int .i64 0, .int .i64 0] Kg10.out (by kernel_rfl) rfl (by simp [Value.oneCell', eV]) ?_
        replace HD9 := Lib.hid (HD9.out.row HBIG.out Kg10.out (by decide) (eV XR))
        replace Kg9 := Lib.hid (Kg9.out.row_other (g' := g10) (Blk.ne Kg9.out Kg10.out (by decide)) (eV XR))
        replace Kg10 := Lib.hid (Kg10.out.row (eV XR))
        refine hK.out _ _ (Bw.setRow hS Hg10.out (eV XR)) (fun hS => ?_)
        clear hK K
        refine take1 (i := 15) (some 19) rfl rfl (by kernel_rfl) (by kernel_rfl) (by kernel_rfl) (fun _ _ _ _ h => h) rfl hS ?_
        apply Exists.intro
        apply And.intro
        · intro W9 hW9; have y0 := hW9.cell' d0; have y1 := hW9.cell' d1; have y2 := hW9.cell' d2; go_simp; try with_reducible rfl
        simp only [Act.put, List.setIfInBounds_toArray, List.set_cons_zero, List.set_cons_succ]
        refine take1 (i := 16) (some 20) rfl rfl (by kernel_rfl) (by kernel_rfl) (by kernel_rfl) (fun _ _ _ _ h => h) rfl hS ?_
        apply Exists.intro
        apply And.intro
        · intro W9 hW9; have y0 := hW9.cell' d0; have y1 := hW9.cell' d1; have y2 := hW9.cell' d2; go_simp; try with_reducible rfl
        simp only [Act.put, List.setIfInBounds_toArray, List.set_cons_zero, List.set_cons_succ]
        refine wpAnyH_done (by kernel_rfl) ?_ _
        rotate_left
        exact AllReadyH.nil
        exact AllReadyH.nil
        exact AllReadyH.nil
        refine AllReadyH.cons rfl (fun K hK => ?_) ?_
        rw [if_pos (by rfl)]
        refine wp_alloc_new 25 rfl (some 18) rfl _ (zeroEp _) ?_
        intro g10 w6 hg9 hN hbw
        simp only [Act.put, List.setIfInBounds_toArray, List.set_cons_zero, List.set_cons_succ]
        have Kg10 := Lib.hid hN
        have Hg10 := Lib.hid (Nat.le_trans hS.size hg9)
        replace HD9 := Lib.hid (HD9.out.bw hbw)
        clear hN
        refine hK.out _ _ (hS.trans hbw) (fun hS => ?_)
        clear hK K
        clear hbw hg9
        refine wpAnyH_ready (rs := [11]) (by kernel_rfl) (by simp) ?_
        refine AllReadyH.cons rfl (fun K hK => ?_) ?_
        rw [if_pos (by rfl)]
        refine wp_alloc_new 43 rfl (some 17) rfl _ (zeroPt _) ?_
        intro g9 w5 hg9 hN hbw
        simp only [Act.put, List.setIfInBounds_toArray, List.set_cons_zero, List.set_cons_succ]
        have Kg9 := Lib.hid hN
        have Hg9 := Lib.hid (Nat.le_trans hS.size hg9)
        replace HD9 := Lib.hid (HD9.out.bw hbw)
        replace Kg10 := Lib.hid (Kg10.out.bw hbw)
        clear hN
        refine hK.out _ _ (hS.trans hbw) (fun hS => ?_)
        clear hK K
        clear hbw hg9
        refine wpAnyH_ready (rs := [13]) (by kernel_rfl) (by simp) ?_
        refine AllReadyH.cons rfl (fun K hK => ?_) ?_
        rw [if_pos (by rfl)]
        refine wp_store_row0 43 _ _ rfl rfl g9 (ptV Q.h Q.is Q.pr D9) rfl rfl 43 #[.bool false, .bool false, .bool false, .int .i64 0, .int .i64 0, .slice none 0 0, .slice none 0 0, .slice none 0 0] Kg9.out (by kernel_rfl) rfl (HD9.out.one _ _ _) ?_
        replace HD9 := Lib.hid (HD9.out.row HBIG.out Kg9.out (by decide) (ptV Q.h Q.is Q.pr D9))
        replace Kg10 := Lib.hid (Kg10.out.row_other (g' := g9) (Blk.ne Kg10.out Kg9.out (by decide)) (ptV Q.h Q.is Q.pr D9))
        replace Kg9 := Lib.hid (Kg9.out.row (ptV Q.h Q.is Q.pr D9))
        refine hK.out _ _ (Bw.setRow hS Hg9.out (ptV Q.h Q.is Q.pr D9)) (fun hS => ?_)
        clear hK K
        refine wpAnyH_ready (rs := [14]) (by kernel_rfl) (by simp) ?_
        refine AllReadyH.cons rfl (fun K hK => ?_) ?_
        rw [if_pos (by rfl)]
        refine wp_store_row0 25 _ _ rfl rfl g10 (eV XR) rfl rfl 25 #[.int .i64 0, .int .i64 0, .int .i64 0, .int .i64 0, .int .i64 0, .int .i64 0, .int .i64 0, .int .i64 0, .int .i64 0, .int .i64 0, .int .i64 0, .int .i64 0, .int .i64 0, .int .i64 0, .int .i64 0, .int .i64 0, .int .i64 0, .int .i64 0, .int .i64 0] Kg10.out (by kernel_rfl) rfl (by simp [Value.oneCell', eV]) ?_
        replace HD9 := Lib.hid (HD9.out.row HBIG.out Kg10.out (by decide) (eV XR))
        replace Kg9 := Lib.hid (Kg9.out.row_other (g' := g10) (Blk.ne Kg9.out Kg10.out (by decide)) (eV XR))
        replace Kg10 := Lib.hid (Kg10.out.row (eV XR))
        refine hK.out _ _ (Bw.setRow hS Hg10.out (eV XR)) (fun hS => ?_)
        clear hK K
        refine take1 (i := 15) (some 19) rfl rfl (by kernel_rfl) (by kernel_rfl) (by kernel_rfl) (fun _ _ _ _ h => h) rfl hS ?_
        apply Exists.intro
        apply And.intro
        · intro W9 hW9; have y0 := hW9.cell' d0; have y1 := hW9.cell' d1; have y2 := hW9.cell' d2; go_simp; try with_reducible rfl
        simp only [Act.put, List.setIfInBounds_toArray, List.set_cons_zero, List.set_cons_succ]
        refine take1 (i := 16) (some 20) rfl rfl (by kernel_rfl) (by kernel_rfl) (by kernel_rfl) (fun _ _ _ _ h => h) rfl hS ?_
        apply Exists.intro
        apply And.intro
        · intro W9 hW9; have y0 := hW9.cell' d0; have y1 := hW9.cell' d1; have y2 := hW9.cell' d2; go_simp; try with_reducible rfl
        simp only [Act.put, List.setIfInBounds_toArray, List.set_cons_zero, List.set_cons_succ]
        refine wpAnyH_done (by kernel_rfl) ?_ _
        rotate_left
        exact AllReadyH.nil
        exact AllReadyH.nil
        exact AllReadyH.nil
        exact AllReadyH.nil
        refine AllReadyH.cons rfl (fun K hK => ?_) ?_
        rw [if_pos (by rfl)]
        refine wp_alloc_new 43 rfl (some 17) rfl _ (zeroPt _) ?_
        intro g9 w5 hg9 hN hbw
        simp only [Act.put, List.setIfInBounds_toArray, List.set_cons_zero, List.set_cons_succ]
        have Kg9 := Lib.hid hN
        have Hg9 := Lib.hid (Nat.le_trans hS.size hg9)
        clear hN
        refine hK.out _ _ (hS.trans hbw) (fun hS => ?_)
        clear hK K
        clear hbw hg9
        refine wpAnyH_ready (rs := [5, 12]) (by kernel_rfl) (by simp) ?_
        refine AllReadyH.cons rfl (fun K hK => ?_) ?_
        go_simp
        go_wp2_with (go_at_call 20; (with_reducible refine Calls.mono (AD.out _ hS) ?_); rintro e1 w13 ⟨⟨D9, rfl, hd9⟩, hb13⟩)
        have HD9 := Lib.hid (show Dat3 w13 D9 Q.Z from hd9)
        clear hd9
        replace Kg9 := Lib.hid (Kg9.out.bw hb13)
        refine hK.out _ _ (hS.trans hb13) (fun hS => ?_)
        clear hK K
        clear hb13
        refine take1 (i := 6) (some 85) rfl rfl (by kernel_rfl) (by kernel_rfl) (by kernel_rfl) (fun _ _ _ _ h => h) rfl hS ?_
        apply Exists.intro
        apply And.intro
        · intro W9 hW9; have y0 := hW9.cell' d0; have y1 := hW9.cell' d1; have y2 := hW9.cell' d2; go_simp; try with_reducible rfl
        simp only [Act.put, List.setIfInBounds_toArray, List.set_cons_zero, List.set_cons_succ]
        refine take1 (i := 7) (some 92) rfl rfl (by kernel_rfl) (by kernel_rfl) (by kernel_rfl) (fun _ _ _ _ h => h) rfl hS ?_
        apply Exists.intro
        apply And.intro
        · intro W9 hW9; have y0 := hW9.cell' d0; have y1 := hW9.cell' d1; have y2 := hW9.cell' d2; go_simp; try with_reducible rfl
        simp only [Act.put, List.setIfInBounds_toArray, List.set_cons_zero, List.set_cons_succ]
        refine take1 (i := 8) (some 93) rfl rfl (by kernel_rfl) (by kernel_rfl) (by kernel_rfl) (fun _ _ _ _ h => h) rfl hS ?_
        apply Exists.intro
        apply And.intro
        · intro W9 hW9; have y0 := hW9.cell' d0; have y1 := hW9.cell' d1; have y2 := hW9.cell' d2; go_simp; try with_reducible rfl
        simp only [Act.put, List.setIfInBounds_toArray, List.set_cons_zero, List.set_cons_succ]
        refine take1 (i := 9) (some 94) rfl rfl (by kernel_rfl) (by kernel_rfl) (by kernel_rfl) (fun _ _ _ _ h => h) rfl hS ?_
        apply Exists.intro
        apply And.intro
        · intro W9 hW9; have y0 := hW9.cell' d0; have y1 := hW9.cell' d1; have y2 := hW9.cell' d2; go_simp; try with_reducible rfl
        simp only [Act.put, List.setIfInBounds_toArray, List.set_cons_zero, List.set_cons_succ]
        refine take1 (i := 10) (some 95) rfl rfl (by kernel_rfl) (by kernel_rfl) (by kernel_rfl) (fun _ _ _ _ h => h) rfl hS ?_
        apply Exists.intro
        apply And.intro
        · intro W9 hW9; have y0 := hW9.cell' d0; have y1 := hW9.cell' d1; have y2 := hW9.cell' d2; go_simp; try with_reducible rfl
        simp only [Act.put, List.setIfInBounds_toArray, List.set_cons_zero, List.set_cons_succ]
        refine wpAnyH_ready (rs := [12]) (by kernel_rfl) (by simp) ?_
        refine AllReadyH.cons rfl (fun K hK => ?_) ?_
        rw [if_pos (by rfl)]
        refine wp_alloc_new 25 rfl (some 18) rfl _ (zeroEp _) ?_
        intro g10 w6 hg9 hN hbw
        simp only [Act.put, List.setIfInBounds_toArray, List.set_cons_zero, List.set_cons_succ]
        have Kg10 := Lib.hid hN
        have Hg10 := Lib.hid (Nat.le_trans hS.size hg9)
        replace HD9 := Lib.hid (HD9.out.bw hbw)
        replace Kg9 := Lib.hid (Kg9.out.bw hbw)
        clear hN
        refine hK.out _ _ (hS.trans hbw) (fun hS => ?_)
        clear hK K
        clear hbw hg9
        refine wpAnyH_ready (rs := [13]) (by kernel_rfl) (by simp) ?_
        refine AllReadyH.cons rfl (fun K hK => ?_) ?_
        rw [if_pos (by rfl)]
        refine wp_store_row0 43 _ _ rfl rfl g9 (ptV Q.h Q.is Q.pr D9) rfl rfl 43 #[.bool false, .bool false, .bool false, .int .i64 0, .int .i64 0, .slice none 0 0, .slice none 0 0, .slice none 0 0] Kg9.out (by kernel_rfl) rfl (HD9.out.one _ _ _) ?_
        replace HD9 := Lib.hid (HD9.out.row HBIG.out Kg9.out (by decide) (ptV Q.h Q.is Q.pr D9))
        replace Kg10 := Lib.hid (Kg10.out.row_other (g' := g9) (Blk.ne Kg10.out Kg9.out (by decide)) (ptV Q.h Q.is Q.pr D9))
        replace Kg9 := Lib.hid (Kg9.out.row (ptV Q.h Q.is Q.pr D9))
        refine hK.out _ _ (Bw.setRow hS Hg9.out (ptV Q.h Q.is Q.pr D9)) (fun hS => ?_)
        clear hK K
        refine wpAnyH_ready (rs := [14]) (by kernel_rfl) (by simp) ?_
        refine AllReadyH.cons rfl (fun K hK => ?_) ?_
        rw [if_pos (by rfl)]
        refine wp_store_row0 25 _ _ rfl rfl g10 (eV XR) rfl rfl 25 #[.int .i64 0, .int .i64 0, .int .i64 0, .int .i64 0, .int .i64 0, .int .i64 0, .int .i64 0, .int .i64 0, .int .i64 0, .int .i64 0, .int .i64 0, .int .i64 0, .int .i64 0, .int .i64 0, .int .i64 0, .int .i64 0, .int .i64 0, .int .i64 0, .int .i64 0] Kg10.out (by kernel_rfl) rfl (by simp [Value.oneCell', eV]) ?_
        replace HD9 := Lib.hid (HD9.out.row HBIG.out Kg10.out (by decide) (eV XR))
        replace Kg9 := Lib.hid (Kg9.out.row_other (g' := g10) (Blk.ne Kg9.out Kg10.out (by decide)) (eV XR))
        replace Kg10 := Lib.hid (Kg10.out.row (eV XR))
        refine hK.out _ _ (Bw.setRow hS Hg10.out (eV XR)) (fun hS => ?_)
        clear hK K
        refine take1 (i := 15) (some 19) rfl rfl (by kernel_rfl) (by kernel_rfl) (by kernel_rfl) (fun _ _ _ _ h => h) rfl hS ?_
        apply Exists.intro
        apply And.intro
        · intro W9 hW9; have y0 := hW9.cell' d0; have y1 := hW9.cell' d1; have y2 := hW9.cell' d2; go_simp; try with_reducible rfl
        simp only [Act.put, List.setIfInBounds_toArray, List.set_cons_zero, List.set_cons_succ]
        refine take1 (i := 16) (some 20) rfl rfl (by kernel_rfl) (by kernel_rfl) (by kernel_rfl) (fun _ _ _ _ h => h) rfl hS ?_
        apply Exists.intro
        apply And.intro
        · intro W9 hW9; have y0 := hW9.cell' d0; have y1 := hW9.cell' d1; have y2 := hW9.cell' d2; go_simp; try with_reducible rfl
        simp only [Act.put, List.setIfInBounds_toArray, List.set_cons_zero, List.set_cons_succ]
        refine wpAnyH_done (by kernel_rfl) ?_ _
        rotate_left
        exact AllReadyH.nil
        exact AllReadyH.nil
        exact AllReadyH.nil
        refine AllReadyH.cons rfl (fun K hK => ?_) ?_
        rw [if_pos (by rfl)]
        refine wp_alloc_new 25 rfl (some 18) rfl _ (zeroEp _) ?_
        intro g10 w6 hg9 hN hbw
        simp only [Act.put, List.setIfInBounds_toArray, List.set_cons_zero, List.set_cons_succ]
        have Kg10 := Lib.hid hN
        have Hg10 := Lib.hid (Nat.le_trans hS.size hg9)
        replace Kg9 := Lib.hid (Kg9.out.bw hbw)
        clear hN
        refine hK.out _ _ (hS.trans hbw) (fun hS => ?_)
        clear hK K
        clear hbw hg9
        refine wpAnyH_ready (rs := [5]) (by kernel_rfl) (by simp) ?_
        refine AllReadyH.cons rfl (fun K hK => ?_) ?_
        go_simp
        go_wp2_with (go_at_call 20; (with_reducible refine Calls.mono (AD.out _ hS) ?_); rintro e1 w13 ⟨⟨D9, rfl, hd9⟩, hb13⟩)
        have HD9 := Lib.hid (show Dat3 w13 D9 Q.Z from hd9)
        clear hd9
        replace Kg9 := Lib.hid (Kg9.out.bw hb13)
        replace Kg10 := Lib.hid (Kg10.out.bw hb13)
        refine hK.out _ _ (hS.trans hb13) (fun hS => ?_)
        clear hK K
        clear hb13
        refine take1 (i := 6) (some 85) rfl rfl (by kernel_rfl) (by kernel_rfl) (by kernel_rfl) (fun _ _ _ _ h => h) rfl hS ?_
        apply Exists.intro
        apply And.intro
        · intro W9 hW9; have y0 := hW9.cell' d0; have y1 := hW9.cell' d1; have y2 := hW9.cell' d2; go_simp; try with_reducible rfl
        simp only [Act.put, List.setIfInBounds_toArray, List.set_cons_zero, List.set_cons_succ]
        refine take1 (i := 7) (some 92) rfl rfl (by kernel_rfl) (by kernel_rfl) (by kernel_rfl) (fun _ _ _ _ h => h) rfl hS ?_
        apply Exists.intro
        apply And.intro
        · intro W9 hW9; have y0 := hW9.cell' d0; have y1 := hW9.cell' d1; have y2 := hW9.cell' d2; go_simp; try with_reducible rfl
        simp only [Act.put, List.setIfInBounds_toArray, List.set_cons_zero, List.set_cons_succ]
        refine take1 (i := 8) (some 93) rfl rfl (by kernel_rfl) (by kernel_rfl) (by kernel_rfl) (fun _ _ _ _ h => h) rfl hS ?_
        apply Exists.intro
        apply And.intro
        · intro W9 hW9; have y0 := hW9.cell' d0; have y1 := hW9.cell' d1; have y2 := hW9.cell' d2; go_simp; try with_reducible rfl
        simp only [Act.put, List.setIfInBounds_toArray, List.set_cons_zero, List.set_cons_succ]
        refine take1 (i := 9) (some 94) rfl rfl (by kernel_rfl) (by kernel_rfl) (by kernel_rfl) (fun _ _ _ _ h => h) rfl hS ?_
        apply Exists.intro
        apply And.intro
        · intro W9 hW9; have y0 := hW9.cell' d0; have y1 := hW9.cell' d1; have y2 := hW9.cell' d2; go_simp; try with_reducible rfl
        simp only [Act.put, List.setIfInBounds_toArray, List.set_cons_zero, List.set_cons_succ]
        refine take1 (i := 10) (some 95) rfl rfl (by kernel_rfl) (by kernel_rfl) (by kernel_rfl) (fun _ _ _ _ h => h) rfl hS ?_
        apply Exists.intro
        apply And.intro
        · intro W9 hW9; have y0 := hW9.cell' d0; have y1 := hW9.cell' d1; have y2 := hW9.cell' d2; go_simp; try with_reducible rfl
        simp only [Act.put, List.setIfInBounds_toArray, List.set_cons_zero, List.set_cons_succ]
        refine wpAnyH_ready (rs := [13]) (by kernel_rfl) (by simp) ?_
        refine AllReadyH.cons rfl (fun K hK => ?_) ?_
        rw [if_pos (by rfl)]
        refine wp_store_row0 43 _ _ rfl rfl g9 (ptV Q.h Q.is Q.pr D9) rfl rfl 43 #[.bool false, .bool false, .bool false, .int .i64 0, .int .i64 0, .slice none 0 0, .slice none 0 0, .slice none 0 0] Kg9.out (by kernel_rfl) rfl (HD9.out.one _ _ _) ?_
        replace HD9 := Lib.hid (HD9.out.row HBIG.out Kg9.out (by decide) (ptV Q.h Q.is Q.pr D9))
        replace Kg10 := Lib.hid (Kg10.out.row_other (g' := g9) (Blk.ne Kg10.out Kg9.out (by decide)) (ptV Q.h Q.is Q.pr D9))
        replace Kg9 := Lib.hid (Kg9.out.row (ptV Q.h Q.is Q.pr D9))
        refine hK.out _ _ (Bw.setRow hS Hg9.out (ptV Q.h Q.is Q.pr D9)) (fun hS => ?_)
        clear hK K
        refine wpAnyH_ready (rs := [14]) (by kernel_rfl) (by simp) ?_
        refine AllReadyH.cons rfl (fun K hK => ?_) ?_
        rw [if_pos (by rfl)]
        refine wp_store_row0 25 _ _ rfl rfl g10 (eV XR) rfl rfl 25 #[.int .i64 0, .int .i64 0, .int .i64 0, .int .i64 0, .int .i64 0, .int .i64 0, .int .i64 0, .int .i64 0, .int .i64 0, .int .i64 0, .int .i64 0, .int .i64 0, .int .i64 0, .int .i64 0, .int .i64 0, .int .i64 0, .int .i64 0, .int .i64 0, .int .i64 0] Kg10.out (by kernel_rfl) rfl (by simp [Value.oneCell', eV]) ?_
        replace HD9 := Lib.hid (HD9.out.row HBIG.out Kg10.out (by decide) (eV XR))
        replace Kg9 := Lib.hid (Kg9.out.row_other (g' := g10) (Blk.ne Kg9.out Kg10.out (by decide)) (eV XR))
        replace Kg10 := Lib.hid (Kg10.out.row (eV XR))
        refine hK.out _ _ (Bw.setRow hS Hg10.out (eV XR)) (fun hS => ?_)
        clear hK K
        refine take1 (i := 15) (some 19) rfl rfl (by kernel_rfl) (by kernel_rfl) (by kernel_rfl) (fun _ _ _ _ h => h) rfl hS ?_
        apply Exists.intro
        apply And.intro
        · intro W9 hW9; have y0 := hW9.cell' d0; have y1 := hW9.cell' d1; have y2 := hW9.cell' d2; go_simp; try with_reducible rfl
        simp only [Act.put, List.setIfInBounds_toArray, List.set_cons_zero, List.set_cons_succ]
        refine take1 (i := 16) (some 20) rfl rfl (by kernel_rfl) (by kernel_rfl) (by kernel_rfl) (fun _ _ _ _ h => h) rfl hS ?_
        apply Exists.intro
        apply And.intro
        · intro W9 hW9; have y0 := hW9.cell' d0; have y1 := hW9.cell' d1; have y2 := hW9.cell' d2; go_simp; try with_reducible rfl
        simp only [Act.put, List.setIfInBounds_toArray, List.set_cons_zero, List.set_cons_succ]
        refine wpAnyH_done (by kernel_rfl) ?_ _
        rotate_left
        exact AllReadyH.nil
        exact AllReadyH.nil
        exact AllReadyH.nil
        exact AllReadyH.nil
        refine AllReadyH.cons rfl (fun K hK => ?_) ?_
        rw [if_pos (by rfl)]
        refine wp_alloc_new 25 rfl (some 18) rfl _ (zeroEp _) ?_
        intro g10 w6 hg9 hN hbw
        simp only [Act.put, List.setIfInBounds_toArray, List.set_cons_zero, List.set_cons_succ]
        have Kg10 := Lib.hid hN
        have Hg10 := Lib.hid (Nat.le_trans hS.size hg9)
        clear hN
        refine hK.out _ _ (hS.trans hbw) (fun hS => ?_)
        clear hK K
        clear hbw hg9
        refine wpAnyH_ready (rs := [5, 11]) (by kernel_rfl) (by simp) ?_
        refine AllReadyH.cons rfl (fun K hK => ?_) ?_
        go_simp
        go_wp2_with (go_at_call 20; (with_reducible refine Calls.mono (AD.out _ hS) ?_); rintro e1 w13 ⟨⟨D9, rfl, hd9⟩, hb13⟩)
        have HD9 := Lib.hid (show Dat3 w13 D9 Q.Z from hd9)
        clear hd9
        replace Kg10 := Lib.hid (Kg10.out.bw hb13)
        refine hK.out _ _ (hS.trans hb13) (fun hS => ?_)
        clear hK K
        clear hb13
        refine take1 (i := 6) (some 85) rfl rfl (by kernel_rfl) (by kernel_rfl) (by kernel_rfl) (fun _ _ _ _ h => h) rfl hS ?_
        apply Exists.intro
        apply And.intro
        · intro W9 hW9; have y0 := hW9.cell' d0; have y1 := hW9.cell' d1; have y2 := hW9.cell' d2; go_simp; try with_reducible rfl
        simp only [Act.put, List.setIfInBounds_toArray, List.set_cons_zero, List.set_cons_succ]
        refine take1 (i := 7) (some 92) rfl rfl (by kernel_rfl) (by kernel_rfl) (by kernel_rfl) (fun _ _ _ _ h => h) rfl hS ?_
        apply Exists.intro
        apply And.intro
        · intro W9 hW9; have y0 := hW9.cell' d0; have y1 := hW9.cell' d1; have y2 := hW9.cell' d2; go_simp; try with_reducible rfl
        simp only [Act.put, List.setIfInBounds_toArray, List.set_cons_zero, List.set_cons_succ]
        refine take1 (i := 8) (some 93) rfl rfl (by kernel_rfl) (by kernel_rfl) (by kernel_rfl) (fun _ _ _ _ h => h) rfl hS ?_
        apply Exists.intro
        apply And.intro
        · intro W9 hW9; have y0 := hW9.cell' d0; have y1 := hW9.cell' d1; have y2 := hW9.cell' d2; go_simp; try with_reducible rfl
        simp only [Act.put, List.setIfInBounds_toArray, List.set_cons_zero, List.set_cons_succ]
        refine take1 (i := 9) (some 94) rfl rfl (by kernel_rfl) (by kernel_rfl) (by kernel_rfl) (fun _ _ _ _ h => h) rfl hS ?_
        apply Exists.intro
        apply And.intro
        · intro W9 hW9; have y0 := hW9.cell' d0; have y1 := hW9.cell' d1; have y2 := hW9.cell' d2; go_simp; try with_reducible rfl
        simp only [Act.put, List.setIfInBounds_toArray, List.set_cons_zero, List.set_cons_succ]
        refine take1 (i := 10) (some 95) rfl rfl (by kernel_rfl) (by kernel_rfl) (by kernel_rfl) (fun _ _ _ _ h => h) rfl hS ?_
        apply Exists.intro
        apply And.intro
        · intro W9 hW9; have y0 := hW9.cell' d0; have y1 := hW9.cell' d1; have y2 := hW9.cell' d2; go_simp; try with_reducible rfl
        simp only [Act.put, List.setIfInBounds_toArray, List.set_cons_zero, List.set_cons_succ]
        refine wpAnyH_ready (rs := [11]) (by kernel_rfl) (by simp) ?_
        refine AllReadyH.cons rfl (fun K hK => ?_) ?_
        rw [if_pos (by rfl)]
        refine wp_alloc_new 43 rfl (some 17) rfl _ (zeroPt _) ?_
        intro g9 w5 hg9 hN hbw
        simp only [Act.put, List.setIfInBounds_toArray, List.set_cons_zero, List.set_cons_succ]
        have Kg9 := Lib.hid hN
        have Hg9 := Lib.hid (Nat.le_trans hS.size hg9)
        replace HD9 := Lib.hid (HD9.out.bw hbw)
        replace Kg10 := Lib.hid (Kg10.out.bw hbw)
        clear hN
        refine hK.out _ _ (hS.trans hbw) (fun hS => ?_)
        clear hK K
        clear hbw hg9
        refine wpAnyH_ready (rs := [13]) (by kernel_rfl) (by simp) ?_
        refine AllReadyH.cons rfl (fun K hK => ?_) ?_
        rw [if_pos (by rfl)]
        refine wp_store_row0 43 _ _ rfl rfl g9 (ptV Q.h Q.is Q.pr D9) rfl rfl 43 #[.bool false, .bool false, .bool false, .int .i64 0, .int .i64 0, .slice none 0 0, .slice none 0 0, .slice none 0 0] Kg9.out (by kernel_rfl) rfl (HD9.out.one _ _ _) ?_
        replace HD9 := Lib.hid (HD9.out.row HBIG.out Kg9.out (by decide) (ptV Q.h Q.is Q.pr D9))
        replace Kg10 := Lib.hid (Kg10.out.row_other (g' := g9) (Blk.ne Kg10.out Kg9.out (by decide)) (ptV Q.h Q.is Q.pr D9))
        replace Kg9 := Lib.hid (Kg9.out.row (ptV Q.h Q.is Q.pr D9))
        refine hK.out _ _ (Bw.setRow hS Hg9.out (ptV Q.h Q.is Q.pr D9)) (fun hS => ?_)
        clear hK K
        refine wpAnyH_ready (rs := [14]) (by kernel_rfl) (by simp) ?_
        refine AllReadyH.cons rfl (fun K hK => ?_) ?_
        rw [if_pos (by rfl)]
        refine wp_store_row0 25 _ _ rfl rfl g10 (eV XR) rfl rfl 25 #[.int .i64 0, .int .i64 0, .int .i64 0, .int .i64 0, .int .i64 0, .int .i64 0, .int .i64 0, .int .i64 0, .int .i64 0, .int .i64 0, .int .i64 0, .int .i64 0, .int .i64 0, .int .i64 0, .int .i64 0, .int .i64 0, .int .i64 0, .int .i64 0, .int .i64 0] Kg10.out (by kernel_rfl) rfl (by simp [Value.oneCell', eV]) ?_
        replace HD9 := Lib.hid (HD9.out.row HBIG.out Kg10.out (by decide) (eV XR))
        replace Kg9 := Lib.hid (Kg9.out.row_other (g' := g10) (Blk.ne Kg9.out Kg10.out (by decide)) (eV XR))
        replace Kg10 := Lib.hid (Kg10.out.row (eV XR))
        refine hK.out _ _ (Bw.setRow hS Hg10.out (eV XR)) (fun hS => ?_)
        clear hK K
        refine take1 (i := 15) (some 19) rfl rfl (by kernel_rfl) (by kernel_rfl) (by kernel_rfl) (fun _ _ _ _ h => h) rfl hS ?_
        apply Exists.intro
        apply And.intro
        · intro W9 hW9; have y0 := hW9.cell' d0; have y1 := hW9.cell' d1; have y2 := hW9.cell' d2; go_simp; try with_reducible rfl
        simp only [Act.put, List.setIfInBounds_toArray, List.set_cons_zero, List.set_cons_succ]
        refine take1 (i := 16) (some 20) rfl rfl (by kernel_rfl) (by kernel_rfl) (by kernel_rfl) (fun _ _ _ _ h => h) rfl hS ?_
        apply Exists.intro
        apply And.intro
        · intro W9 hW9; have y0 := hW9.cell' d0; have y1 := hW9.cell' d1; have y2 := hW9.cell' d2; go_simp; try with_reducible rfl
        simp only [Act.put, List.setIfInBounds_toArray, List.set_cons_zero, List.set_cons_succ]
        refine wpAnyH_done (by kernel_rfl) ?_ _
        rotate_left
        exact AllReadyH.nil
        exact AllReadyH.nil
        exact AllReadyH.nil
        refine AllReadyH.cons rfl (fun K hK => ?_) ?_
        rw [if_pos (by rfl)]
        refine wp_alloc_new 43 rfl (some 17) rfl _ (zeroPt _) ?_
        intro g9 w5 hg9 hN hbw
        simp only [Act.put, List.setIfInBounds_toArray, List.set_cons_zero, List.set_cons_succ]
        have Kg9 := Lib.hid hN
        have Hg9 := Lib.hid (Nat.le_trans hS.size hg9)
        replace Kg10 := Lib.hid (Kg10.out.bw hbw)
        clear hN
        refine hK.out _ _ (hS.trans hbw) (fun hS => ?_)
        clear hK K
        clear hbw hg9
        refine wpAnyH_ready (rs := [5]) (by kernel_rfl) (by simp) ?_
        refine AllReadyH.cons rfl (fun K hK => ?_) ?_
        go_simp
        go_wp2_with (go_at_call 20; (with_reducible refine Calls.mono (AD.out _ hS) ?_); rintro e1 w13 ⟨⟨D9, rfl, hd9⟩, hb13⟩)
        have HD9 := Lib.hid (show Dat3 w13 D9 Q.Z from hd9)
        clear hd9
        replace Kg9 := Lib.hid (Kg9.out.bw hb13)
        replace Kg10 := Lib.hid (Kg10.out.bw hb13)
        refine hK.out _ _ (hS.trans hb13) (fun hS => ?_)
        clear hK K
        clear hb13
        refine take1 (i := 6) (some 85) rfl rfl (by kernel_rfl) (by kernel_rfl) (by kernel_rfl) (fun _ _ _ _ h => h) rfl hS ?_
        apply Exists.intro
        apply And.intro
        · intro W9 hW9; have y0 := hW9.cell' d0; have y1 := hW9.cell' d1; have y2 := hW9.cell' d2; go_simp; try with_reducible rfl
        simp only [Act.put, List.setIfInBounds_toArray, List.set_cons_zero, List.set_cons_succ]
        refine take1 (i := 7) (some 92) rfl rfl (by kernel_rfl) (by kernel_rfl) (by kernel_rfl) (fun _ _ _ _ h => h) rfl hS ?_
        apply Exists.intro
        apply And.intro
        · intro W9 hW9; have y0 := hW9.cell' d0; have y1 := hW9.cell' d1; have y2 := hW9.cell' d2; go_simp; try with_reducible rfl
        simp only [Act.put, List.setIfInBounds_toArray, List.set_cons_zero, List.set_cons_succ]
        refine take1 (i := 8) (some 93) rfl rfl (by kernel_rfl) (by kernel_rfl) (by kernel_rfl) (fun _ _ _ _ h => h) rfl hS ?_
        apply Exists.intro
        apply And.intro
        · intro W9 hW9; have y0 := hW9.cell' d0; have y1 := hW9.cell' d1; have y2 := hW9.cell' d2; go_simp; try with_reducible rfl
        simp only [Act.put, List.setIfInBounds_toArray, List.set_cons_zero, List.set_cons_succ]
        refine take1 (i := 9) (some 94) rfl rfl (by kernel_rfl) (by kernel_rfl) (by kernel_rfl) (fun _ _ _ _ h => h) rfl hS ?_
        apply Exists.intro
        apply And.intro
        · intro W9 hW9; have y0 := hW9.cell' d0; have y1 := hW9.cell' d1; have y2 := hW9.cell' d2; go_simp; try with_reducible rfl
        simp only [Act.put, List.setIfInBounds_toArray, List.set_cons_zero, List.set_cons_succ]
        refine take1 (i := 10) (some 95) rfl rfl (by kernel_rfl) (by kernel_rfl) (by kernel_rfl) (fun _ _ _ _ h => h) rfl hS ?_
        apply Exists.intro
        apply And.intro
        · intro W9 hW9; have y0 := hW9.cell' d0; have y1 := hW9.cell' d1; have y2 := hW9.cell' d2; go_simp; try with_reducible rfl
        simp only [Act.put, List.setIfInBounds_toArray, List.set_cons_zero, List.set_cons_succ]
        refine wpAnyH_ready (rs := [13]) (by kernel_rfl) (by simp) ?_
        refine AllReadyH.cons rfl (fun K hK => ?_) ?_
        rw [if_pos (by rfl)]
        refine wp_store_row0 43 _ _ rfl rfl g9 (ptV Q.h Q.is Q.pr D9) rfl rfl 43 #[.bool false, .bool false, .bool false, .int .i64 0, .int .i64 0, .slice none 0 0, .slice none 0 0, .slice none 0 0] Kg9.out (by kernel_rfl) rfl (HD9.out.one _ _ _) ?_
        replace HD9 := Lib.hid (HD9.out.row HBIG.out Kg9.out (by decide) (ptV Q.h Q.is Q.pr D9))
        replace Kg10 := Lib.hid (Kg10.out.row_other (g' := g9) (Blk.ne Kg10.out Kg9.out (by decide)) (ptV Q.h Q.is Q.pr D9))
        replace Kg9 := Lib.hid (Kg9.out.row (ptV Q.h Q.is Q.pr D9))
        refine hK.out _ _ (Bw.setRow hS Hg9.out (ptV Q.h Q.is Q.pr D9)) (fun hS => ?_)
        clear hK K
        refine wpAnyH_ready (rs := [14]) (by kernel_rfl) (by simp) ?_
        refine AllReadyH.cons rfl (fun K hK => ?_) ?_
        rw [if_pos (by rfl)]
        refine wp_store_row0 25 _ _ rfl rfl g10 (eV XR) rfl rfl 25 #[.int .i64 0, .int .i64 0, .int .i64 0, .int .i64 0, .int .i64 0, .int .i64 0, .int .i64 0, .int .i64 0, .int .i64 0, .int .i64 0, .int .i64 0, .int .i64 0, .int .i64 0, .int .i64 0, .int .i64 0, .int .i64 0, .int .i64 0, .int .i64 0, .int .i64 0] Kg10.out (by kernel_rfl) rfl (by simp [Value.oneCell', eV]) ?_
        replace HD9 := Lib.hid (HD9.out.row HBIG.out Kg10.out (by decide) (eV XR))
        replace Kg9 := Lib.hid (Kg9.out.row_other (g' := g10) (Blk.ne Kg9.out Kg10.out (by decide)) (eV XR))
        replace Kg10 := Lib.hid (Kg10.out.row (eV XR))
        refine hK.out _ _ (Bw.setRow hS Hg10.out (eV XR)) (fun hS => ?_)
        clear hK K
        refine take1 (i := 15) (some 19) rfl rfl (by kernel_rfl) (by kernel_rfl) (by kernel_rfl) (fun _ _ _ _ h => h) rfl hS ?_
        apply Exists.intro
        apply And.intro
        · intro W9 hW9; have y0 := hW9.cell' d0; have y1 := hW9.cell' d1; have y2 := hW9.cell' d2; go_simp; try with_reducible rfl
        simp only [Act.put, List.setIfInBounds_toArray, List.set_cons_zero, List.set_cons_succ]
        refine take1 (i := 16) (some 20) rfl rfl (by kernel_rfl) (by kernel_rfl) (by kernel_rfl) (fun _ _ _ _ h => h) rfl hS ?_
        apply Exists.intro
        apply And.intro
        · intro W9 hW9; have y0 := hW9.cell' d0; have y1 := hW9.cell' d1; have y2 := hW9.cell' d2; go_simp; try with_reducible rfl
        simp only [Act.put, List.setIfInBounds_toArray, List.set_cons_zero, List.set_cons_succ]
        refine wpAnyH_done (by kernel_rfl) ?_ _
        rotate_left
        exact AllReadyH.nil
        exact AllReadyH.nil
        exact AllReadyH.nil
        exact AllReadyH.nil
        exact AllReadyH.nil
        all_goals
          go_wp2
          go_meet
          exact ⟨g9, g10, D9, Hg9.out, Hg10.out, rfl, rfl, rfl, rfl, rfl, Lib.hid hS, Kg9, Kg10, HD9⟩
      case rest =>
        clear d0 d1 d2 AD HDA
        obtain ⟨g9, g10, D9, h9, h10, rfl, rfl, rfl, rfl, rfl, hb9, Kg9, Kg10, HD9⟩ := hcut
        have HG9 := Lib.hid (show gp + 1 < g9 by have := KH.out.lt; omega)
        have hb9 := hb9.out
        replace HWC := Lib.hid (HWC.out.trans hb9)
        replace KN := Lib.hid (KN.out.bw hb9)
        replace KH := Lib.hid (KH.out.bw hb9)
        replace KXb := Lib.hid (KXb.out.bw hb9)
        clear hb9 h9 h10 HRb HDK HBZ
        have q0 := KH.out.cell (hbV_at H2 0 (by omega))
        have q1 := KH.out.cell (hbV_at H2 1 (by omega))
        have q2 := KH.out.cell (hbV_at H2 2 (by omega))
        have hq := fun W => eqT3 (H2 0) (H2 1) (H2 2) W
        have hqg := fun op x y W => eqB3_guard (H2 0) (H2 1) (H2 2) true true true op x y W
        have HAL := Lib.hid (show allH H2 = (H2 0 && (H2 1 && H2 2)) from rfl)
        have hq3 : ∀ W, _ := fun W => (hq W).trans (by rw [← HAL.out])
        clear hq
        rw [← HB2.out] at hq3
        have hdd : (dn != dn) = false := by simp
        cases dn with
        | true =>
          obtain ⟨e1, e2⟩ := HB3'.out HB2.out.symm
          rw [e1, ← HAX.out] at Kg10
          have HI2 := Lib.hid e2
          clear e1 e2 HB3' HB4
          go_upto_region 19 with (first | ((with_reducible refine at_load 25 (.tmp 18) ?_); refine wpList_load_roww 25 _ rfl g10 rfl 25 A (0, 0) _ Kg10.out Try.underlying25 rfl HSZ.out (by rfl) ?_) | ((with_reducible refine at_load 25 (.tmp 7) ?_); refine wpList_load_roww 25 _ rfl g7 rfl 25 A (0, 0) _ KXb.out Try.underlying25 rfl HSZ.out (by rfl) ?_))
          clear q0 q1 q2 hq3 hqg
          go_upto_region 20 with (first | ((with_reducible refine at_load 43 (.tmp 17) ?_); refine wpList_load_roww 43 _ rfl g9 rfl 43 (ptV Q.h Q.is Q.pr D9) (0, 0) _ Kg9.out Try.underlying43 rfl (by kernel_rfl) (by rfl) ?_) | ((with_reducible refine at_store 43 (.tmp 13) (.tmp 113) ?_); refine wpList_store_row rfl 43 (.tmp 13) (.tmp 113) rfl gp (ptV Q.h Q.is Q.pr D9) rfl rfl 43 _ KN.out (by kernel_rfl) rfl (HD9.out.one _ _ _) ?_))
          have hkx1 := Kx.row KN.out.lt (ptV Q.h Q.is Q.pr D9)
          replace HD9 := Lib.hid (HD9.out.row HBIG.out KN.out (show (ptV P.h P.is P.pr Da).size ≤ 19 from (by decide : 8 ≤ 19)) (ptV Q.h Q.is Q.pr D9))
          replace KH := Lib.hid (hkx1.blk KH.out (by omega))
          replace HWC := Lib.hid (Bw.setRow HWC.out (show wm.heap.size ≤ gp by have := HGP.out; omega) (ptV Q.h Q.is Q.pr D9))
          replace KN := Lib.hid (KN.out.row (ptV Q.h Q.is Q.pr D9))
          clear hkx1
          generalize World.setRow wc _ _ = wz at *
          (try simp only [Act.put])
          go_wp2_with ((with_reducible refine at_store 39 (.tmp 14) (.tmp 115) ?_); refine wpList_store_row rfl 39 (.tmp 14) (.tmp 115) rfl (gp + 1) #[.bool false, .bool false, .bool false] rfl rfl 39 _ KH.out (by kernel_rfl) rfl (by simp [Value.oneCell']) ?_)
          have KH2 := KH.out.row #[.bool false, .bool false, .bool false]
          have hkx2 := Kx.row KH.out.lt #[.bool false, .bool false, .bool false]
          have KN2 := hkx2.blk KN.out (by omega)
          have HW2 := Bw.setRow HWC.out (show wm.heap.size ≤ gp + 1 by have := HGP.out; omega) #[.bool false, .bool false, .bool false]
          have HD2 := HD9.out.row HBIG.out KH.out (show (hbV H2).size ≤ 19 from (by decide : 3 ≤ 19)) #[.bool false, .bool false, .bool false]
          (try simp only [Act.put])
          go_roundg (12 - (i + 1))
          case measure => omega
          case rel => exact ⟨i + 1, by omega, by omega, by go_num, Lib.hid HW2, Q, fun _ => false, D9, Lib.hid KN2, Lib.hid KH2, Lib.hid HD2, HI2⟩
        | false =>
          have HI2 := Lib.hid (HB4.out HB2.out.symm)
          clear HB3' HB4
          go_upto_region 19 with fail
          clear q0 q1 q2 hq3 hqg
          go_upto_region 20 with (first | ((with_reducible refine at_load 43 (.tmp 17) ?_); refine wpList_load_roww 43 _ rfl g9 rfl 43 (ptV Q.h Q.is Q.pr D9) (0, 0) _ Kg9.out Try.underlying43 rfl (by kernel_rfl) (by rfl) ?_) | ((with_reducible refine at_store 43 (.tmp 13) (.tmp 113) ?_); refine wpList_store_row rfl 43 (.tmp 13) (.tmp 113) rfl gp (ptV Q.h Q.is Q.pr D9) rfl rfl 43 _ KN.out (by kernel_rfl) rfl (HD9.out.one _ _ _) ?_))
          have hkx1 := Kx.row KN.out.lt (ptV Q.h Q.is Q.pr D9)
          replace HD9 := Lib.hid (HD9.out.row HBIG.out KN.out (show (ptV P.h P.is P.pr Da).size ≤ 19 from (by decide : 8 ≤ 19)) (ptV Q.h Q.is Q.pr D9))
          replace KH := Lib.hid (hkx1.blk KH.out (by omega))
          replace HWC := Lib.hid (Bw.setRow HWC.out (show wm.heap.size ≤ gp by have := HGP.out; omega) (ptV Q.h Q.is Q.pr D9))
          replace KN := Lib.hid (KN.out.row (ptV Q.h Q.is Q.pr D9))
          clear hkx1
          generalize World.setRow wc _ _ = wz at *
          (try simp only [Act.put])
          go_wp2
          go_roundg (12 - (i + 1))
          case measure => omega
          case rel => exact ⟨i + 1, by omega, by omega, by go_num, HWC, Q, H2, D9, KN, KH, HD9, HI2⟩
end Go.Proofs.Sky
