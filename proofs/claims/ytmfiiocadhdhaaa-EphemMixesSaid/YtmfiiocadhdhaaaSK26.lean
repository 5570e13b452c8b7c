/-
  lemmas for the theorems of this claim. No conditions beyond those written in the statements.
-/
import Derived.Test.YtmfiiocadhdhaaaSJ26
import Derived.Test.YtmfiiocadhdhaaaSA26
import Derived.Deep.Cut
set_option linter.unusedVariables false
set_option linter.unusedSimpArgs false
set_option linter.unnecessarySimpa false
namespace Go.Proofs.Sky
open Go Go.RowKit Go.Shelf
set_option maxHeartbeats 4000000
set_option maxRecDepth 8000
/-! chapter 26: EphemAdds -/
theorem wpList_load_roww {P : Program} {ops : Array Oper} {rest : List Oper} {o : Oper} {a : Act} {w : World} {Q : Exit → Act → World → Prop} (ty : TypeId) (x : Operand) (ho : o.op = .load ty x)
    (g : Nat) (hx : a.eval x = .pointer (some ⟨g, 0, none⟩)) (t : TypeId) (cs : Array Value) (fr : Nat × Nat) (d : TypeDesc) (hg : w.heap[g]? = some (.cells cs t fr))
    (hu : P.underlying ty = some d) (hd : (match d with | .struct _ | .array _ _ => true | _ => false) = true) (hi : (P.info? ty).map (·.size) = some cs.size) (hw : Region.wanted o (yielded ops a.tmps) = true)
    (h : wpList P ops Q rest (a.put o.dst (.agg cs)) w) : wpList P ops Q (o :: rest) a w := by
  rw [wpList, if_pos hw]
  exact .inl (wp_load_row ty x ho g hx t cs fr d hg hu hd hi h)
theorem Blk.ne {w : World} {g g' : Nat} {T T' : TypeId} {cs cs' : Array Value} (h : Blk w g T cs) (h' : Blk w g' T' cs') (hT : T ≠ T') : g ≠ g' := by
  intro e
  subst e
  unfold Blk at h h'
  rw [h] at h'
  injection h' with h'
  injection h' with _ h2
  exact hT h2
theorem law_adds (p : Pm) (D : Nat → Value) (fs : List Fr) (v : Value) (w : World) (hD : Dat3 w D p.Z) (hv : RdFr w v fs) : Calls Try.prog 5 #[.agg (ptV p.h p.is p.pr D), v] w fun e w' => e = .returned (.bool true) ∧ Bw w w' := by
  have HV := Lib.hid hv
  obtain ⟨a, c, rfl⟩ := hv.form
  clear hv
  have HD := Lib.hid hD
  clear hD
  have AW := Lib.hid (fun W => awake_any W)
  have LA := Lib.hid (fun W h => large_any fs (.slice a fs.length c) W h)
  obtain ⟨g, hg⟩ : ∃ g, w.heap.size = g := ⟨_, rfl⟩
  have HBW := Lib.hid (Bw.alloc (Bw.refl w) (.cells (ptV p.h p.is p.pr D) 43))
  have KP := Lib.hid (Blk.new w 43 (ptV p.h p.is p.pr D))
  rw [hg] at KP
  go_enter Try.func5, Try.ntmps5
  go_upto_region 1 with fail
  obtain ⟨W0, hW0⟩ : ∃ W0, w.alloc (.cells (ptV p.h p.is p.pr D) 43) = W0 := ⟨_, rfl⟩
  rw [hW0] at HBW KP ⊢
  have HG := Lib.hid hg
  clear hW0 hg
  obtain ⟨a0, c0, v0⟩ := (HD.out 0 (by omega)).1.form
  obtain ⟨a1, c1, v1⟩ := (HD.out 1 (by omega)).1.form
  obtain ⟨a2, c2, v2⟩ := (HD.out 2 (by omega)).1.form
  have p0 : Hid (∀ W, Bw W0 W → W.cell? ⟨g, 5, none⟩ = some (.slice a0 (p.Z 0).length c0) ∧ W.cell? ⟨g, 6, none⟩ = some (.slice a1 (p.Z 1).length c1) ∧ W.cell? ⟨g, 7, none⟩ = some (.slice a2 (p.Z 2).length c2)) := Lib.hid (fun W q => by
    rw [← v0, ← v1, ← v2]
    exact ⟨(KP.out.bw q).cell (ptV_D p.h p.is p.pr D 0 (by omega)), (KP.out.bw q).cell (ptV_D p.h p.is p.pr D 1 (by omega)), (KP.out.bw q).cell (ptV_D p.h p.is p.pr D 2 (by omega))⟩)
  obtain ⟨n0, hn0⟩ : ∃ n0, n0 = (p.Z 0).length := ⟨_, rfl⟩
  obtain ⟨n1, hn1⟩ : ∃ n1, n1 = (p.Z 1).length := ⟨_, rfl⟩
  obtain ⟨n2, hn2⟩ : ∃ n2, n2 = (p.Z 2).length := ⟨_, rfl⟩
  rw [← hn0, ← hn1, ← hn2] at p0
  have HN := Lib.hid (And.intro hn0 (And.intro hn1 hn2))
  clear hn0 hn1 hn2 v0 v1 v2
  cases hlg : lgB fs with
  | true =>
    rw [hlg] at LA
    go_wp2_with (first | (go_at_call 17; (with_reducible refine Calls.mono (LA.out _ (HV.out.mono HBW.out)) ?_); rintro e1 w1 ⟨rfl, hb9⟩; obtain ⟨z0, z1, z2⟩ := p0.out w1 hb9; have HW1 := Lib.hid hb9; clear hb9) | (go_at_call 16; (with_reducible refine Calls.mono (AW.out _) ?_); rintro e2 w2 ⟨rfl, hb2⟩))
    go_ret
    exact ⟨rfl, (HBW.out.trans HW1.out).trans hb2⟩
  | false =>
    rw [hlg] at LA
    by_cases y0 : 300 < n0
    case pos =>
      have y0z : (300 : Int) < n0 := by omega
      go_wp2_with (first | (go_at_call 17; (with_reducible refine Calls.mono (LA.out _ (HV.out.mono HBW.out)) ?_); rintro e1 w1 ⟨rfl, hb9⟩; obtain ⟨z0, z1, z2⟩ := p0.out w1 hb9; have HW1 := Lib.hid hb9; clear hb9) | (go_at_call 16; (with_reducible refine Calls.mono (AW.out _) ?_); rintro e2 w2 ⟨rfl, hb2⟩))
      go_ret
      exact ⟨rfl, (HBW.out.trans HW1.out).trans hb2⟩
    have y0z : ¬ (300 : Int) < n0 := by omega
    by_cases y1 : 300 < n1
    case pos =>
      have y1z : (300 : Int) < n1 := by omega
      go_wp2_with (first | (go_at_call 17; (with_reducible refine Calls.mono (LA.out _ (HV.out.mono HBW.out)) ?_); rintro e1 w1 ⟨rfl, hb9⟩; obtain ⟨z0, z1, z2⟩ := p0.out w1 hb9; have HW1 := Lib.hid hb9; clear hb9) | (go_at_call 16; (with_reducible refine Calls.mono (AW.out _) ?_); rintro e2 w2 ⟨rfl, hb2⟩))
      go_ret
      exact ⟨rfl, (HBW.out.trans HW1.out).trans hb2⟩
    have y1z : ¬ (300 : Int) < n1 := by omega
    by_cases y2 : 300 < n2
    case pos =>
      have y2z : (300 : Int) < n2 := by omega
      go_wp2_with (first | (go_at_call 17; (with_reducible refine Calls.mono (LA.out _ (HV.out.mono HBW.out)) ?_); rintro e1 w1 ⟨rfl, hb9⟩; obtain ⟨z0, z1, z2⟩ := p0.out w1 hb9; have HW1 := Lib.hid hb9; clear hb9) | (go_at_call 16; (with_reducible refine Calls.mono (AW.out _) ?_); rintro e2 w2 ⟨rfl, hb2⟩))
      go_ret
      exact ⟨rfl, (HBW.out.trans HW1.out).trans hb2⟩
    have y2z : ¬ (300 : Int) < n2 := by omega
    go_upto_region 3 with (go_at_call 17; (with_reducible refine Calls.mono (LA.out _ (HV.out.mono HBW.out)) ?_); rintro e1 w1 ⟨rfl, hb9⟩; obtain ⟨z0, z1, z2⟩ := p0.out w1 hb9; have HW1 := Lib.hid hb9; clear hb9)
    have HZL := Lib.hid (show ∀ j, j < 3 → (p.Z j).length ≤ 300 from fun j hj => by
      have h9 := HN.out
      match j, hj with
      | 0, _ => omega
      | 1, _ => omega
      | 2, _ => omega)
    replace HBW := Lib.hid (HBW.out.trans HW1.out)
    replace KP := Lib.hid (KP.out.bw HW1.out)
    clear HW1 z0 z1 z2 p0 HN y0 y0z y1 y1z y2 y2z LA
    have HO0 := Lib.hid (HD.out.one p.h p.is p.pr)
    obtain ⟨g5, hg5⟩ : ∃ g5, w1.heap.size = g5 := ⟨_, rfl⟩
    have H5 := Lib.hid (show g < g5 by have := KP.out.lt; omega)
    have KN := Lib.hid (Blk.new w1 43 #[.bool false, .bool false, .bool false, .int .i64 0, .int .i64 0, .slice none 0 0, .slice none 0 0, .slice none 0 0])
    rw [hg5] at KN
    go_upto_region 4 with (first | ((with_reducible refine at_load 43 (.tmp 2) ?_); refine wpList_load_row rfl 43 _ rfl g rfl 43 _ (0, 0) _ KP.out Try.underlying43 rfl (by kernel_rfl) ?_) | ((with_reducible refine at_store 43 (.tmp 5) (.tmp 41) ?_); refine wpList_store_row rfl 43 (.tmp 5) (.tmp 41) rfl g5 (ptV p.h p.is p.pr D) rfl rfl 43 _ KN.out (by kernel_rfl) rfl HO0.out ?_))
    have hb9 := Bw.setRow (Bw.alloc (Bw.refl w1) (.cells #[.bool false, .bool false, .bool false, .int .i64 0, .int .i64 0, .slice none 0 0, .slice none 0 0, .slice none 0 0] 43)) (Nat.le_of_eq hg5) (ptV p.h p.is p.pr D)
    replace KN := Lib.hid (KN.out.row (ptV p.h p.is p.pr D))
    obtain ⟨W1, hW1⟩ : ∃ W1, (w1.alloc (.cells #[.bool false, .bool false, .bool false, .int .i64 0, .int .i64 0, .slice none 0 0, .slice none 0 0, .slice none 0 0] 43)).setRow g5 (ptV p.h p.is p.pr D) = W1 := ⟨_, rfl⟩
    rw [hW1] at KN hb9 ⊢
    clear hW1 hg5
    simp only [Act.put]
    replace HBW := Lib.hid (HBW.out.trans hb9)
    replace KP := Lib.hid (KP.out.bw hb9)
    clear hb9
    go_wp2
    go_loopg [6] 3 (fun gg s6 wr => ∃ k : Nat, k ≤ 3 ∧ 3 - k ≤ gg ∧ s6 = .int .i64 k ∧ Hid (Bw w wr) ∧ Hid (Blk wr g 43 (ptV p.h p.is p.pr D)) ∧ ∃ D', Hid (Blk wr g5 43 (ptV p.h p.is p.pr D')) ∧ Hid (∀ j, j < 3 → (j < k → RdN wr (g5 + 1) (D' j) (p.Z j)) ∧ (k ≤ j → D' j = D j)))
    case atStart => exact ⟨0, by omega, by omega, rfl, HBW, KP, D, KN, Lib.hid (fun j hj => ⟨fun h9 => absurd h9 (by omega), fun _ => rfl⟩)⟩
    case round =>
      clear HBW KP KN
      obtain ⟨k, hk, hgg, rfl, HBW, KP, D', KN, HR⟩ := hrel
      obtain ⟨wa, rfl⟩ : ∃ wa, wa = wr := ⟨_, rfl⟩
      by_cases hlt : k < 3
      · have hkz : (k : Int) < 3 := by omega
        have hk0 : (0 : Int) ≤ k := by omega
        have HDK := Lib.hid ((HD.out k hlt).1.mono HBW.out)
        obtain ⟨ak, ck, vk⟩ := HDK.out.form
        have cx := KP.out.cell (ptV_D p.h p.is p.pr D k hlt)
        rw [vk] at cx HDK
        have cy := KN.out.cell (ptV_D p.h p.is p.pr D' k hlt)
        have hfz := KN.out.frozen (5 + k)
        have hlk := HZL.out k hlt
        have hgs : g < wa.heap.size := KP.out.lt
        have H51 := Lib.hid (show g5 + 1 ≤ wa.heap.size from KN.out.lt)
        go_wp2_with (at_builtin; refine wpList_append_int rfl (.tmp 47) (.tmp 51) _ rfl wa.heap.size 3 Try.underlying40 infoInt _ [] (p.Z k) rfl (own0 (e := 3) wa wa.heap.size rfl) ak (p.Z k).length ck rfl (HDK.out.mono (Bw.alloc (Bw.refl wa) _)) (by simp; omega) (by simp) ?_; intro v8 w8 hown hgr; have hb9 : Bw wa w8 := Bw.grownN rfl (Bw.alloc (Bw.refl _) _) (own0 (e := 3) wa wa.heap.size rfl) hgr; simp only [List.nil_append] at hown; have hr9 := own_rd hown (by omega); have HN1 := Lib.hid (RdN.of hr9.1 (own_capd hown) (hr9.2.mono H51.out)); obtain ⟨a8, c8, rfl⟩ := own_form2 hown; replace HBW := Lib.hid (HBW.out.trans hb9); replace KP := Lib.hid (KP.out.bw hb9); replace KN := Lib.hid (KN.out.bw hb9); replace HR := Lib.hid (fun j hj => And.intro (fun h9 => ((HR.out j hj).1 h9).bw hb9) (HR.out j hj).2); clear hown hgr hr9 hb9 cx cy hfz; have cy := KN.out.cell (ptV_D p.h p.is p.pr D' k hlt); have hfz := KN.out.frozen (5 + k))
        have KN3 := KN.out.set (5 + k) (.slice a8 (p.Z k).length c8)
        rw [ptV_setD p.h p.is p.pr D' k hlt] at KN3
        have KP3 := KP.out.set_other (b := g5) (by have := H5.out; omega) (5 + k) (.slice a8 (p.Z k).length c8)
        have HB3 := Bw.setCell HBW.out (p := ⟨g5, 5 + k, none⟩) (by have := H5.out; have := HG.out; simp; omega) (.slice a8 (p.Z k).length c8)
        have HR3 : ∀ j, j < 3 → (j < k + 1 → RdN (w8.setCell ⟨g5, 5 + k, none⟩ (.slice a8 (p.Z k).length c8)) (g5 + 1) (upN D' k (.slice a8 (p.Z k).length c8) j) (p.Z j)) ∧ (k + 1 ≤ j → upN D' k (.slice a8 (p.Z k).length c8) j = D j) := fun j hj => by
          unfold upN
          by_cases e : j = k
          · subst e
            rw [if_pos rfl]
            exact ⟨fun _ => HN1.out.set (by omega) _ _, fun h9 => absurd h9 (by omega)⟩
          · rw [if_neg e]
            exact ⟨fun h9 => ((HR.out j hj).1 (by omega)).set (by omega) _ _, fun h9 => (HR.out j hj).2 (by omega)⟩
        go_roundg (3 - (k + 1))
        case measure => omega
        case rel => exact ⟨k + 1, by omega, by omega, by go_num, Lib.hid HB3, Lib.hid KP3, _, Lib.hid KN3, Lib.hid HR3⟩
      · obtain rfl : k = 3 := by omega
        have hkz : ¬ ((3 : Nat) : Int) < 3 := by omega
        have HDA := Lib.hid (show Dat3 wa D' p.Z from fun j hj => ⟨((HR.out j hj).1 hj).1, ((HR.out j hj).1 hj).2.1⟩)
        clear HR
        obtain ⟨g7, hg7⟩ : ∃ g7, wa.heap.size = g7 := ⟨_, rfl⟩
        have H7 := Lib.hid (show g5 < g7 by have := KN.out.lt; omega)
        have KM := Lib.hid (Blk.new wa 43 #[.bool false, .bool false, .bool false, .int .i64 0, .int .i64 0, .slice none 0 0, .slice none 0 0, .slice none 0 0])
        rw [hg7] at KM
        go_upto_region 9 with (first | ((with_reducible refine at_load 43 (.tmp 2) ?_); refine wpList_load_row rfl 43 _ rfl g rfl 43 _ (0, 0) _ KP.out Try.underlying43 rfl (by kernel_rfl) ?_) | ((with_reducible refine at_store 43 (.tmp 7) (.tmp 55) ?_); refine wpList_store_row rfl 43 (.tmp 7) (.tmp 55) rfl g7 (ptV p.h p.is p.pr D) rfl rfl 43 _ KM.out (by kernel_rfl) rfl HO0.out ?_))
        have hb9 := Bw.setRow (Bw.alloc (Bw.refl wa) (.cells #[.bool false, .bool false, .bool false, .int .i64 0, .int .i64 0, .slice none 0 0, .slice none 0 0, .slice none 0 0] 43)) (Nat.le_of_eq hg7) (ptV p.h p.is p.pr D)
        replace KM := Lib.hid (KM.out.row (ptV p.h p.is p.pr D))
        obtain ⟨W2, hW2⟩ : ∃ W2, (wa.alloc (.cells #[.bool false, .bool false, .bool false, .int .i64 0, .int .i64 0, .slice none 0 0, .slice none 0 0, .slice none 0 0] 43)).setRow g7 (ptV p.h p.is p.pr D) = W2 := ⟨_, rfl⟩
        rw [hW2] at KM hb9 ⊢
        clear hW2 hg7
        simp only [Act.put]
        replace HBW := Lib.hid (HBW.out.trans hb9)
        replace KN := Lib.hid (KN.out.bw hb9)
        replace HDA := Lib.hid (HDA.out.bw hb9)
        have HDB := Lib.hid (HD.out.bw HBW.out)
        clear hb9 KP HD HO0 HZL hkz hlt
        have HFD := Lib.hid HV.out.2.1
        obtain ⟨m, hm⟩ : ∃ m, m = fs.length := ⟨_, rfl⟩
        rw [← hm] at HV ⊢
        have hle := HV.out.1
        rw [← hm] at hle
        have HM := Lib.hid hm
        clear hm
        go_wp2
        go_loopg [8] m (fun gg s8 wr => ∃ i : Nat, i ≤ m ∧ m - i ≤ gg ∧ s8 = .int .i64 i ∧ Hid (Bw w wr) ∧ ∃ (P : Pm) (Da Db : Nat → Value), Hid (Blk wr g5 43 (ptV P.h P.is P.pr Da)) ∧ Hid (Blk wr g7 43 (ptV P.h P.is P.pr Db)) ∧ Hid (Dat3 wr Da P.Z) ∧ Hid (Dat3 wr Db P.Z))
        case atStart => exact ⟨0, by omega, by omega, rfl, HBW, p, _, _, KN, KM, HDA, HDB⟩
        case round =>
          clear HBW KN KM HDA HDB
          obtain ⟨i, hi, hgg, rfl, HBW, P, Da, Db, KN, KM, HDA, HDB⟩ := hrel
          obtain ⟨wb, rfl⟩ : ∃ wb, wb = wr := ⟨_, rfl⟩
          by_cases hlt : i < m
          · have hiz : (i : Int) < m := by omega
            have hi0 : (0 : Int) ≤ i := by omega
            have hat : fs[i]? = some (fs.getD i dFr) := getD_fr (by have := HM.out; omega)
            obtain ⟨bl, of_, cl, hvl, hcl⟩ := (HV.out.mono HBW.out).at (by have := HM.out; omega)
            injection hvl with i1 i2 i3
            subst i1
            clear i2 i3
            obtain ⟨d0, d1, d2⟩ := hcl i _ hat
            have HDD := Lib.hid (show RdI wb (fs.getD i dFr).d (fs.getD i dFr).l ∧ Capd (fs.getD i dFr).d from ⟨(HFD.out _ (List.mem_of_getElem? hat)).1.mono HBW.out, (HFD.out _ (List.mem_of_getElem? hat)).2⟩)
            generalize (fs.getD i dFr).t = t at *
            generalize (fs.getD i dFr).k = k at *
            generalize (fs.getD i dFr).l = l at *
            generalize (fs.getD i dFr).d = dv at *
            obtain ⟨af, cf, hfd⟩ := HDD.out.1.form
            subst hfd
            clear hcl hat
            have AD := Lib.hid (fun W (q : Bw wb W) => Add26_any P Da t k l (.slice af l.length cf) W (HDA.out.bw q) (HDD.out.1.mono q) HDD.out.2)
            have RA := Lib.hid (fun W (q : Bw wb W) => RAdd26_any P Db t k l (.slice af l.length cf) W (HDB.out.bw q) (HDD.out.1.mono q) HDD.out.2)
            have HBIG := Lib.hid (add_big P t k l)
            generalize addR P t k l = R at AD RA HBIG
            obtain ⟨Q, X, dn, er⟩ := R
            unfold AddP at AD RA
            dsimp only at AD RA HBIG
            generalize l.length = LN at *
            clear HDD
            have HWB := Lib.hid (Bw.refl wb)
            go_upto_region 12 with fail
            go_cut [9, 10, 11, 12, 113] from 56 (fun s9 s10 s11 s12 sz wc => ∃ g9 g10 D9, g7 < g9 ∧ s9 = .pointer (some ⟨g9, 0, none⟩) ∧ s10 = .pointer (some ⟨g10, 0, none⟩) ∧ s11 = .bool dn ∧ s12 = .int .i64 er ∧ sz = undef ∧ Hid (Bw wb wc) ∧ Hid (Blk wc g9 43 (ptV Q.h Q.is Q.pr D9)) ∧ Hid (Blk wc g10 25 (eV X)) ∧ Hid (Dat3 wc D9 Q.Z))
            case first =>
              refine wp_region_held_drew (S := Bw wb) (by kernel_rfl) (Bw.drew (Bw.refl _)) (fun hS => ?_)
              generalize World.drew _ = wd at hS ⊢
              refine take1 (i := 0) (some 63) rfl rfl (by kernel_rfl) (by kernel_rfl) (by kernel_rfl) (fun _ _ _ _ h => h) rfl hS ?_
              refine Exists.intro (.agg (ptV P.h P.is P.pr Da)) ?_
              apply And.intro
              · intro W9 hW9; have y0 := hW9.cell' d0; have y1 := hW9.cell' d1; have y2 := hW9.cell' d2; exact run_load_row 43 _ rfl g5 rfl 43 (ptV P.h P.is P.pr Da) _ (KN.out.bw hW9) Try.underlying43 rfl (by kernel_rfl)
              simp only [Act.put, List.setIfInBounds_toArray, List.set_cons_zero, List.set_cons_succ]
              refine take1 (i := 1) (some 64) rfl rfl (by kernel_rfl) (by kernel_rfl) (by kernel_rfl) (fun _ _ _ _ h => h) rfl hS ?_
              apply Exists.intro
              apply And.intro
              · intro W9 hW9; have y0 := hW9.cell' d0; have y1 := hW9.cell' d1; have y2 := hW9.cell' d2; go_simp; try with_reducible rfl
              simp only [Act.put, List.setIfInBounds_toArray, List.set_cons_zero, List.set_cons_succ]
              refine take1 (i := 2) (some 65) rfl rfl (by kernel_rfl) (by kernel_rfl) (by kernel_rfl) (fun _ _ _ _ h => h) rfl hS ?_
              apply Exists.intro
              apply And.intro
              · intro W9 hW9; have y0 := hW9.cell' d0; have y1 := hW9.cell' d1; have y2 := hW9.cell' d2; go_simp; try with_reducible rfl
              simp only [Act.put, List.setIfInBounds_toArray, List.set_cons_zero, List.set_cons_succ]
              refine take1 (i := 3) (some 66) rfl rfl (by kernel_rfl) (by kernel_rfl) (by kernel_rfl) (fun _ _ _ _ h => h) rfl hS ?_
              apply Exists.intro
              apply And.intro
              · intro W9 hW9; have y0 := hW9.cell' d0; have y1 := hW9.cell' d1; have y2 := hW9.cell' d2; go_simp; try with_reducible rfl
              simp only [Act.put, List.setIfInBounds_toArray, List.set_cons_zero, List.set_cons_succ]
              refine take1 (i := 4) (some 67) rfl rfl (by kernel_rfl) (by kernel_rfl) (by kernel_rfl) (fun _ _ _ _ h => h) rfl hS ?_
              refine Exists.intro (.agg #[.int .i64 t, .int .i64 k, .slice af LN cf]) ?_
              apply And.intro
              · intro W9 hW9; have y0 := hW9.cell' d0; have y1 := hW9.cell' d1; have y2 := hW9.cell' d2; go_simp; (try go_bits); (try with_reducible rfl); (try trivial)
              simp only [Act.put, List.setIfInBounds_toArray, List.set_cons_zero, List.set_cons_succ]
              refine wpAnyH_ready (rs := [5, 11, 12]) (by kernel_rfl) (by simp) ?_
              refine AllReadyH.cons rfl (fun K hK => ?_) ?_
              go_simp
              go_wp2_with (go_at_call 20; (with_reducible refine Calls.mono (AD.out _ hS) ?_); rintro e1 w13 ⟨⟨D9, rfl, hd9⟩, hb13⟩)
              have HD9 := Lib.hid (show Dat3 w13 D9 Q.Z from hd9)
              clear hd9
              refine hK.out _ _ (hS.trans hb13) (fun hS => ?_)
              clear hK K
              clear hb13
              refine take1 (i := 6) (some 62) rfl rfl (by kernel_rfl) (by kernel_rfl) (by kernel_rfl) (fun _ _ _ _ h => h) rfl hS ?_
              apply Exists.intro
              apply And.intro
              · intro W9 hW9; have y0 := hW9.cell' d0; have y1 := hW9.cell' d1; have y2 := hW9.cell' d2; go_simp; try with_reducible rfl
              simp only [Act.put, List.setIfInBounds_toArray, List.set_cons_zero, List.set_cons_succ]
              refine take1 (i := 7) (some 69) rfl rfl (by kernel_rfl) (by kernel_rfl) (by kernel_rfl) (fun _ _ _ _ h => h) rfl hS ?_
              apply Exists.intro
              apply And.intro
              · intro W9 hW9; have y0 := hW9.cell' d0; have y1 := hW9.cell' d1; have y2 := hW9.cell' d2; go_simp; try with_reducible rfl
              simp only [Act.put, List.setIfInBounds_toArray, List.set_cons_zero, List.set_cons_succ]
              refine take1 (i := 8) (some 70) rfl rfl (by kernel_rfl) (by kernel_rfl) (by kernel_rfl) (fun _ _ _ _ h => h) rfl hS ?_
              apply Exists.intro
              apply And.intro
              · intro W9 hW9; have y0 := hW9.cell' d0; have y1 := hW9.cell' d1; have y2 := hW9.cell' d2; go_simp; try with_reducible rfl
              simp only [Act.put, List.setIfInBounds_toArray, List.set_cons_zero, List.set_cons_succ]
              refine take1 (i := 9) (some 71) rfl rfl (by kernel_rfl) (by kernel_rfl) (by kernel_rfl) (fun _ _ _ _ h => h) rfl hS ?_
              apply Exists.intro
              apply And.intro
              · intro W9 hW9; have y0 := hW9.cell' d0; have y1 := hW9.cell' d1; have y2 := hW9.cell' d2; go_simp; try with_reducible rfl
              simp only [Act.put, List.setIfInBounds_toArray, List.set_cons_zero, List.set_cons_succ]
              refine take1 (i := 10) (some 72) rfl rfl (by kernel_rfl) (by kernel_rfl) (by kernel_rfl) (fun _ _ _ _ h => h) rfl hS ?_
              apply Exists.intro
              apply And.intro
              · intro W9 hW9; have y0 := hW9.cell' d0; have y1 := hW9.cell' d1; have y2 := hW9.cell' d2; go_simp; try with_reducible rfl
              simp only [Act.put, List.setIfInBounds_toArray, List.set_cons_zero, List.set_cons_succ]
              refine wpAnyH_ready (rs := [11, 12]) (by kernel_rfl) (by simp) ?_
              refine AllReadyH.cons rfl (fun K hK => ?_) ?_
              rw [if_pos (by rfl)]
              refine wp_alloc_new 43 rfl (some 9) rfl _ (zeroPt _) ?_
              intro g9 w5 hg9 hN hbw
              simp only [Act.put, List.setIfInBounds_toArray, List.set_cons_zero, List.set_cons_succ]
              have Kg9 := Lib.hid hN
              have Hg9 := Lib.hid (Nat.le_trans hS.size hg9)
              replace HD9 := Lib.hid (HD9.out.bw hbw)
              clear hN
              refine hK.out _ _ (hS.trans hbw) (fun hS => ?_)
              clear hK K
              clear hbw hg9
              refine wpAnyH_ready (rs := [12]) (by kernel_rfl) (by simp) ?_
              refine AllReadyH.cons rfl (fun K hK => ?_) ?_
              rw [if_pos (by rfl)]
              refine wp_alloc_new 25 rfl (some 10) rfl _ (zeroEp _) ?_
              intro g10 w6 hg9 hN hbw
              simp only [Act.put, List.setIfInBounds_toArray, List.set_cons_zero, List.set_cons_succ]
              have Kg10 := Lib.hid hN
              have Hg10 := Lib.hid (Nat.le_trans hS.size hg9)
              replace HD9 := Lib.hid (HD9.out.bw hbw)
              replace Kg9 := Lib.hid (Kg9.out.bw hbw)
              clear hN
              refine hK.out _ _ (hS.trans hbw) (fun hS => ?_)
              clear hK K
              clear hbw hg9
              refine wpAnyH_ready (rs := [13]) (by kernel_rfl) (by simp) ?_
              refine AllReadyH.cons rfl (fun K hK => ?_) ?_
              rw [if_pos (by rfl)]
              refine wp_store_row0 43 _ _ rfl rfl g9 (ptV Q.h Q.is Q.pr D9) rfl rfl 43 #[.bool false, .bool false, .bool false, .int .i64 0, .int .i64 0, .slice none 0 0, .slice none 0 0, .slice none 0 0] Kg9.out (by kernel_rfl) rfl (HD9.out.one _ _ _) ?_
              replace HD9 := Lib.hid (HD9.out.row HBIG.out Kg9.out (by decide) (ptV Q.h Q.is Q.pr D9))
              replace Kg10 := Lib.hid (Kg10.out.row_other (g' := g9) (Blk.ne Kg10.out Kg9.out (by decide)) (ptV Q.h Q.is Q.pr D9))
              replace Kg9 := Lib.hid (Kg9.out.row (ptV Q.h Q.is Q.pr D9))
              refine hK.out _ _ (Bw.setRow hS Hg9.out (ptV Q.h Q.is Q.pr D9)) (fun hS => ?_)
              clear hK K
              refine wpAnyH_ready (rs := [14]) (by kernel_rfl) (by simp) ?_
              refine AllReadyH.cons rfl (fun K hK => ?_) ?_
              rw [if_pos (by rfl)]
              refine wp_store_row0 25 _ _ rfl rfl g10 (eV X) rfl rfl 25 #[.int .i64 0, .int .i64 0, .int .i64 0, .int .i64 0, .int .i64 0, .int .i64 0, .int .i64 0, .int .i64 0, .int .i64 0, .int .i64 0, .int .i64 0, .int .i64 0, .int .i64 0, .int .i64 0, .int .i64 0, .int .i64 0, .int .i64 0, .int .i64 0, .int .i64 0] Kg10.out (by kernel_rfl) rfl (by simp [Value.oneCell', eV]) ?_
              replace HD9 := Lib.hid (HD9.out.row HBIG.out Kg10.out (by decide) (eV X))
              replace Kg9 := Lib.hid (Kg9.out.row_other (g' := g10) (Blk.ne Kg9.out Kg10.out (by decide)) (eV X))
              replace Kg10 := Lib.hid (Kg10.out.row (eV X))
              refine hK.out _ _ (Bw.setRow hS Hg10.out (eV X)) (fun hS => ?_)
              clear hK K
              refine take1 (i := 15) (some 11) rfl rfl (by kernel_rfl) (by kernel_rfl) (by kernel_rfl) (fun _ _ _ _ h => h) rfl hS ?_
              apply Exists.intro
              apply And.intro
              · intro W9 hW9; have y0 := hW9.cell' d0; have y1 := hW9.cell' d1; have y2 := hW9.cell' d2; go_simp; try with_reducible rfl
              simp only [Act.put, List.setIfInBounds_toArray, List.set_cons_zero, List.set_cons_succ]
              refine take1 (i := 16) (some 12) rfl rfl (by kernel_rfl) (by kernel_rfl) (by kernel_rfl) (fun _ _ _ _ h => h) rfl hS ?_
              apply Exists.intro
              apply And.intro
              · intro W9 hW9; have y0 := hW9.cell' d0; have y1 := hW9.cell' d1; have y2 := hW9.cell' d2; go_simp; try with_reducible rfl
              simp only [Act.put, List.setIfInBounds_toArray, List.set_cons_zero, List.set_cons_succ]
              refine wpAnyH_done (by kernel_rfl) ?_ _
              rotate_left
              exact AllReadyH.nil
              exact AllReadyH.nil
              exact AllReadyH.nil
              refine AllReadyH.cons rfl (fun K hK => ?_) ?_
              rw [if_pos (by rfl)]
              refine wp_alloc_new 25 rfl (some 10) rfl _ (zeroEp _) ?_
              intro g10 w6 hg9 hN hbw
              simp only [Act.put, List.setIfInBounds_toArray, List.set_cons_zero, List.set_cons_succ]
              have Kg10 := Lib.hid hN
              have Hg10 := Lib.hid (Nat.le_trans hS.size hg9)
              replace HD9 := Lib.hid (HD9.out.bw hbw)
              clear hN
              refine hK.out _ _ (hS.trans hbw) (fun hS => ?_)
              clear hK K
              clear hbw hg9
              refine wpAnyH_ready (rs := [11]) (by kernel_rfl) (by simp) ?_
              refine AllReadyH.cons rfl (fun K hK => ?_) ?_
              rw [if_pos (by rfl)]
              refine wp_alloc_new 43 rfl (some 9) rfl _ (zeroPt _) ?_
              intro g9 w5 hg9 hN hbw
              simp only [Act.put, List.setIfInBounds_toArray, List.set_cons_zero, List.set_cons_succ]
              have Kg9 := Lib.hid hN
              have Hg9 := Lib.hid (Nat.le_trans hS.size hg9)
              replace HD9 := Lib.hid (HD9.out.bw hbw)
              replace Kg10 := Lib.hid (Kg10.out.bw hbw)
              clear hN
              refine hK.out _ _ (hS.trans hbw) (fun hS => ?_)
              clear hK K
              clear hbw hg9
              refine wpAnyH_ready (rs := [13]) (by kernel_rfl) (by simp) ?_
              refine AllReadyH.cons rfl (fun K hK => ?_) ?_
              rw [if_pos (by rfl)]
              refine wp_store_row0 43 _ _ rfl rfl g9 (ptV Q.h Q.is Q.pr D9) rfl rfl 43 #[.bool false, .bool false, .bool false, .int .i64 0, .int .i64 0, .slice none 0 0, .slice none 0 0, .slice none 0 0] Kg9.out (by kernel_rfl) rfl (HD9.out.one _ _ _) ?_
              replace HD9 := Lib.hid (HD9.out.row HBIG.out Kg9.out (by decide) (ptV Q.h Q.is Q.pr D9))
              replace Kg10 := Lib.hid (Kg10.out.row_other (g' := g9) (Blk.ne Kg10.out Kg9.out (by decide)) (ptV Q.h Q.is Q.pr D9))
              replace Kg9 := Lib.hid (Kg9.out.row (ptV Q.h Q.is Q.pr D9))
              refine hK.out _ _ (Bw.setRow hS Hg9.out (ptV Q.h Q.is Q.pr D9)) (fun hS => ?_)
              clear hK K
              refine wpAnyH_ready (rs := [14]) (by kernel_rfl) (by simp) ?_
              refine AllReadyH.cons rfl (fun K hK => ?_) ?_
              rw [if_pos (by rfl)]
              refine wp_store_row0 25 _ _ rfl rfl g10 (eV X) rfl rfl 25 #[.int .i64 0, .int .i64 0, .int .i64 0, .int .i64 0, .int .i64 0, .int .i64 0, .int .i64 0, .int .i64 0, .int .i64 0, .int .i64 0, .int .i64 0, .int .i64 0, .int .i64 0, .int .i64 0, .int .i64 0, .int .i64 0, .int .i64 0, .int .i64 0, .int .i64 0] Kg10.out (by kernel_rfl) rfl (by simp [Value.oneCell', eV]) ?_
              replace HD9 := Lib.hid (HD9.out.row HBIG.out Kg10.out (by decide) (eV X))
              replace Kg9 := Lib.hid (Kg9.out.row_other (g' := g10) (Blk.ne Kg9.out Kg10.out (by decide)) (eV X))
              replace Kg10 := Lib.hid (Kg10.out.row (eV X))
              refine hK.out _ _ (Bw.setRow hS Hg10.out (eV X)) (fun hS => ?_)
              clear hK K
              refine take1 (i := 15) (some 11) rfl rfl (by kernel_rfl) (by kernel_rfl) (by kernel_rfl) (fun _ _ _ _ h => h) rfl hS ?_
              apply Exists.intro
              apply And.intro
              · intro W9 hW9; have y0 := hW9.cell' d0; have y1 := hW9.cell' d1; have y2 := hW9.cell' d2; go_simp; try with_reducible rfl
              simp only [Act.put, List.setIfInBounds_toArray, List.set_cons_zero, List.set_cons_succ]
              refine take1 (i := 16) (some 12) rfl rfl (by kernel_rfl) (by kernel_rfl) (by kernel_rfl) (fun _ _ _ _ h => h) rfl hS ?_
              apply Exists.intro
              apply And.intro
              · intro W9 hW9; have y0 := hW9.cell' d0; have y1 := hW9.cell' d1; have y2 := hW9.cell' d2; go_simp; try with_reducible rfl
              simp only [Act.put, List.setIfInBounds_toArray, List.set_cons_zero, List.set_cons_succ]
              refine wpAnyH_done (by kernel_rfl) ?_ _
              rotate_left
              exact AllReadyH.nil
              exact AllReadyH.nil
              exact AllReadyH.nil
              exact AllReadyH.nil
              refine AllReadyH.cons rfl (fun K hK => ?_) ?_
              rw [if_pos (by rfl)]
              refine wp_alloc_new 43 rfl (some 9) rfl _ (zeroPt _) ?_
              intro g9 w5 hg9 hN hbw
              simp only [Act.put, List.setIfInBounds_toArray, List.set_cons_zero, List.set_cons_succ]
              have Kg9 := Lib.hid hN
              have Hg9 := Lib.hid (Nat.le_trans hS.size hg9)
              clear hN
              refine hK.out _ _ (hS.trans hbw) (fun hS => ?_)
              clear hK K
              clear hbw hg9
              refine wpAnyH_ready (rs := [5, 12]) (by kernel_rfl) (by simp) ?_
              refine AllReadyH.cons rfl (fun K hK => ?_) ?_
              go_simp
              go_wp2_with (go_at_call 20; (with_reducible refine Calls.mono (AD.out _ hS) ?_); rintro e1 w13 ⟨⟨D9, rfl, hd9⟩, hb13⟩)
              have HD9 := Lib.hid (show Dat3 w13 D9 Q.Z from hd9)
              clear hd9
              replace Kg9 := Lib.hid (Kg9.out.bw hb13)
              refine hK.out _ _ (hS.trans hb13) (fun hS => ?_)
              clear hK K
              clear hb13
              refine take1 (i := 6) (some 62) rfl rfl (by kernel_rfl) (by kernel_rfl) (by kernel_rfl) (fun _ _ _ _ h => h) rfl hS ?_
              apply Exists.intro
              apply And.intro
              · intro W9 hW9; have y0 := hW9.cell' d0; have y1 := hW9.cell' d1; have y2 := hW9.cell' d2; go_simp; try with_reducible rfl
              simp only [Act.put, List.setIfInBounds_toArray, List.set_cons_zero, List.set_cons_succ]
              refine take1 (i := 7) (some 69) rfl rfl (by kernel_rfl) (by kernel_rfl) (by kernel_rfl) (fun _ _ _ _ h => h) rfl hS ?_
              apply Exists.intro
              apply And.intro
              · intro W9 hW9; have y0 := hW9.cell' d0; have y1 := hW9.cell' d1; have y2 := hW9.cell' d2; go_simp; try with_reducible rfl
              simp only [Act.put, List.setIfInBounds_toArray, List.set_cons_zero, List.set_cons_succ]
              refine take1 (i := 8) (some 70) rfl rfl (by kernel_rfl) (by kernel_rfl) (by kernel_rfl) (fun _ _ _ _ h => h) rfl hS ?_
              apply Exists.intro
              apply And.intro
              · intro W9 hW9; have y0 := hW9.cell' d0; have y1 := hW9.cell' d1; have y2 := hW9.cell' d2; go_simp; try with_reducible rfl
              simp only [Act.put, List.setIfInBounds_toArray, List.set_cons_zero, List.set_cons_succ]
              refine take1 (i := 9) (some 71) rfl rfl (by kernel_rfl) (by kernel_rfl) (by kernel_rfl) (fun _ _ _ _ h => h) rfl hS ?_
              apply Exists.intro
              apply And.intro
              · intro W9 hW9; have y0 := hW9.cell' d0; have y1 := hW9.cell' d1; have y2 := hW9.cell' d2; go_simp; try with_reducible rfl
              simp only [Act.put, List.setIfInBounds_toArray, List.set_cons_zero, List.set_cons_succ]
              refine take1 (i := 10) (some 72) rfl rfl (by kernel_rfl) (by kernel_rfl) (by kernel_rfl) (fun _ _ _ _ h => h) rfl hS ?_
              apply Exists.intro
              apply And.intro
              · intro W9 hW9; have y0 := hW9.cell' d0; have y1 := hW9.cell' d1; have y2 := hW9.cell' d2; go_simp; try with_reducible rfl
              simp only [Act.put, List.setIfInBounds_toArray, List.set_cons_zero, List.set_cons_succ]
              refine wpAnyH_ready (rs := [12]) (by kernel_rfl) (by simp) ?_
              refine AllReadyH.cons rfl (fun K hK => ?_) ?_
              rw [if_pos (by rfl)]
              refine wp_alloc_new 25 rfl (some 10) rfl _ (zeroEp _) ?_
              intro g10 w6 hg9 hN hbw
              simp only [Act.put, List.setIfInBounds_toArray, List.set_cons_zero, List.set_cons_succ]
              have Kg10 := Lib.hid hN
              have Hg10 := Lib.hid (Nat.le_trans hS.size hg9)
              replace HD9 := Lib.hid (HD9.out.bw hbw)
              replace Kg9 := Lib.hid (Kg9.out.bw hbw)
              clear hN
              refine hK.out _ _ (hS.trans hbw) (fun hS => ?_)
              clear hK K
              clear hbw hg9
              refine wpAnyH_ready (rs := [13]) (by kernel_rfl) (by simp) ?_
              refine AllReadyH.cons rfl (fun K hK => ?_) ?_
              rw [if_pos (by rfl)]
              refine wp_store_row0 43 _ _ rfl rfl g9 (ptV Q.h Q.is Q.pr D9) rfl rfl 43 #[.bool false, .bool false, .bool false, .int .i64 0, .int .i64 0, .slice none 0 0, .slice none 0 0, .slice none 0 0] Kg9.out (by kernel_rfl) rfl (HD9.out.one _ _ _) ?_
              replace HD9 := Lib.hid (HD9.out.row HBIG.out Kg9.out (by decide) (ptV Q.h Q.is Q.pr D9))
              replace Kg10 := Lib.hid (Kg10.out.row_other (g' := g9) (Blk.ne Kg10.out Kg9.out (by decide)) (ptV Q.h Q.is Q.pr D9))
              replace Kg9 := Lib.hid (Kg9.out.row (ptV Q.h Q.is Q.pr D9))
              refine hK.out _ _ (Bw.setRow hS Hg9.out (ptV Q.h Q.is Q.pr D9)) (fun hS => ?_)
              clear hK K
              refine wpAnyH_ready (rs := [14]) (by kernel_rfl) (by simp) ?_
              refine AllReadyH.cons rfl (fun K hK => ?_) ?_
              rw [if_pos (by rfl)]
              refine wp_store_row0 25 _ _ rfl rfl g10 (eV X) rfl rfl 25 #[.int .i64 0, .int .i64 0, .int .i64 0, .int .i64 0, .int .i64 0, .int .i64 0, .int .i64 0, .int .i64 0, .int .i64 0, .int .i64 0, .int .i64 0, .int .i64 0, .int .i64 0, .int .i64 0, .int .i64 0, .int .i64 0, .int .i64 0, .int .i64 0, .int .i64 0] Kg10.out (by kernel_rfl) rfl (by simp [Value.oneCell', eV]) ?_
              replace HD9 := Lib.hid (HD9.out.row HBIG.out Kg10.out (by decide) (eV X))
              replace Kg9 := Lib.hid (Kg9.out.row_other (g' := g10) (Blk.ne Kg9.out Kg10.out (by decide)) (eV X))
              replace Kg10 := Lib.hid (Kg10.out.row (eV X))
              refine hK.out _ _ (Bw.setRow hS Hg10.out (eV X)) (fun hS => ?_)
              clear hK K
              refine take1 (i := 15) (some 11) rfl rfl (by kernel_rfl) (by kernel_rfl) (by kernel_rfl) (fun _ _ _ _ h => h) rfl hS ?_
              apply Exists.intro
              apply And.intro
              · intro W9 hW9; have y0 := hW9.cell' d0; have y1 := hW9.cell' d1; have y2 := hW9.cell' d2; go_simp; try with_reducible rfl
              simp only [Act.put, List.setIfInBounds_toArray, List.set_cons_zero, List.set_cons_succ]
              refine take1 (i := 16) (some 12) rfl rfl (by kernel_rfl) (by kernel_rfl) (by kernel_rfl) (fun _ _ _ _ h => h) rfl hS ?_
              apply Exists.intro
              apply And.intro
              · intro W9 hW9; have y0 := hW9.cell' d0; have y1 := hW9.cell' d1; have y2 := hW9.cell' d2; go_simp; try with_reducible rfl
              simp only [Act.put, List.setIfInBounds_toArray, List.set_cons_zero, List.set_cons_succ]
              refine wpAnyH_done (by kernel_rfl) ?_ _
              rotate_left
              exact AllReadyH.nil
              exact AllReadyH.nil
              exact AllReadyH.nil
              refine AllReadyH.cons rfl (fun K hK => ?_) ?_
              rw [if_pos (by rfl)]
              refine wp_alloc_new 25 rfl (some 10) rfl _ (zeroEp _) ?_
              intro g10 w6 hg9 hN hbw
              simp only [Act.put, List.setIfInBounds_toArray, List.set_cons_zero, List.set_cons_succ]
              have Kg10 := Lib.hid hN
              have Hg10 := Lib.hid (Nat.le_trans hS.size hg9)
              replace Kg9 := Lib.hid (Kg9.out.bw hbw)
              clear hN
              refine hK.out _ _ (hS.trans hbw) (fun hS => ?_)
              clear hK K
              clear hbw hg9
              refine wpAnyH_ready (rs := [5]) (by kernel_rfl) (by simp) ?_
              refine AllReadyH.cons rfl (fun K hK => ?_) ?_
              go_simp
              go_wp2_with (go_at_call 20; (with_reducible refine Calls.mono (AD.out _ hS) ?_); rintro e1 w13 ⟨⟨D9, rfl, hd9⟩, hb13⟩)
              have HD9 := Lib.hid (show Dat3 w13 D9 Q.Z from hd9)
              clear hd9
              replace Kg9 := Lib.hid (Kg9.out.bw hb13)
              replace Kg10 := Lib.hid (Kg10.out.bw hb13)
              refine hK.out _ _ (hS.trans hb13) (fun hS => ?_)
              clear hK K
              clear hb13
              refine take1 (i := 6) (some 62) rfl rfl (by kernel_rfl) (by kernel_rfl) (by kernel_rfl) (fun _ _ _ _ h => h) rfl hS ?_
              apply Exists.intro
              apply And.intro
              · intro W9 hW9; have y0 := hW9.cell' d0; have y1 := hW9.cell' d1; have y2 := hW9.cell' d2; go_simp; try with_reducible rfl
              simp only [Act.put, List.setIfInBounds_toArray, List.set_cons_zero, List.set_cons_succ]
              refine take1 (i := 7) (some 69) rfl rfl (by kernel_rfl) (by kernel_rfl) (by kernel_rfl) (fun _ _ _ _ h => h) rfl hS ?_
              apply Exists.intro
              apply And.intro
              · intro W9 hW9; have y0 := hW9.cell' d0; have y1 := hW9.cell' d1; have y2 := hW9.cell' d2; go_simp; try with_reducible rfl
              simp only [Act.put, List.setIfInBounds_toArray, List.set_cons_zero, List.set_cons_succ]
              refine take1 (i := 8) (some 70) rfl rfl (by kernel_rfl) (by kernel_rfl) (by kernel_rfl) (fun _ _ _ _ h => h) rfl hS ?_
              apply Exists.intro
              apply And.intro
              · intro W9 hW9; have y0 := hW9.cell' d0; have y1 := hW9.cell' d1; have y2 := hW9.cell' d2; go_simp; try with_reducible rfl
              simp only [Act.put, List.setIfInBounds_toArray, List.set_cons_zero, List.set_cons_succ]
              refine take1 (i := 9) (some 71) rfl rfl (by kernel_rfl) (by kernel_rfl) (by kernel_rfl) (fun _ _ _ _ h => h) rfl hS ?_
              apply Exists.intro
              apply And.intro
              · intro W9 hW9; have y0 := hW9.cell' d0; have y1 := hW9.cell' d1; have y2 := hW9.cell' d2; go_simp; try with_reducible rfl
              simp only [Act.put, List.setIfInBounds_toArray, List.set_cons_zero, List.set_cons_succ]
              refine take1 (i := 10) (some 72) rfl rfl (by kernel_rfl) (by kernel_rfl) (by kernel_rfl) (fun _ _ _ _ h => h) rfl hS ?_
              apply Exists.intro
              apply And.intro
              · intro W9 hW9; have y0 := hW9.cell' d0; have y1 := hW9.cell' d1; have y2 := hW9.cell' d2; go_simp; try with_reducible rfl
              simp only [Act.put, List.setIfInBounds_toArray, List.set_cons_zero, List.set_cons_succ]
              refine wpAnyH_ready (rs := [13]) (by kernel_rfl) (by simp) ?_
              refine AllReadyH.cons rfl (fun K hK => ?_) ?_
              rw [if_pos (by rfl)]
              refine wp_store_row0 43 _ _ rfl rfl g9 (ptV Q.h Q.is Q.pr D9) rfl rfl 43 #[.bool false, .bool false, .bool false, .int .i64 0, .int .i64 0, .slice none 0 0, .slice none 0 0, .slice none 0 0] Kg9.out (by kernel_rfl) rfl (HD9.out.one _ _ _) ?_
              replace HD9 := Lib.hid (HD9.out.row HBIG.out Kg9.out (by decide) (ptV Q.h Q.is Q.pr D9))
              replace Kg10 := Lib.hid (Kg10.out.row_other (g' := g9) (Blk.ne Kg10.out Kg9.out (by decide)) (ptV Q.h Q.is Q.pr D9))
              replace Kg9 := Lib.hid (Kg9.out.row (ptV Q.h Q.is Q.pr D9))
              refine hK.out _ _ (Bw.setRow hS Hg9.out (ptV Q.h Q.is Q.pr D9)) (fun hS => ?_)
              clear hK K
              refine wpAnyH_ready (rs := [14]) (by kernel_rfl) (by simp) ?_
              refine AllReadyH.cons rfl (fun K hK => ?_) ?_
              rw [if_pos (by rfl)]
              refine wp_store_row0 25 _ _ rfl rfl g10 (eV X) rfl rfl 25 #[.int .i64 0, .int .i64 0, .int .i64 0, .int .i64 0, .int .i64 0, .int .i64 0, .int .i64 0, .int .i64 0, .int .i64 0, .int .i64 0, .int .i64 0, .int .i64 0, .int .i64 0, .int .i64 0, .int .i64 0, .int .i64 0, .int .i64 0, .int .i64 0, .int .i64 0] Kg10.out (by kernel_rfl) rfl (by simp [Value.oneCell', eV]) ?_
              replace HD9 := Lib.hid (HD9.out.row HBIG.out Kg10.out (by decide) (eV X))
              replace Kg9 := Lib.hid (Kg9.out.row_other (g' := g10) (Blk.ne Kg9.out Kg10.out (by decide)) (eV X))
              replace Kg10 := Lib.hid (Kg10.out.row (eV X))
              refine hK.out _ _ (Bw.setRow hS Hg10.out (eV X)) (fun hS => ?_)
              clear hK K
              refine take1 (i := 15) (some 11) rfl rfl (by kernel_rfl) (by kernel_rfl) (by kernel_rfl) (fun _ _ _ _ h => h) rfl hS ?_
              apply Exists.intro
              apply And.intro
              · intro W9 hW9; have y0 := hW9.cell' d0; have y1 := hW9.cell' d1; have y2 := hW9.cell' d2; go_simp; try with_reducible rfl
              simp only [Act.put, List.setIfInBounds_toArray, List.set_cons_zero, List.set_cons_succ]
              refine take1 (i := 16) (some 12) rfl rfl (by kernel_rfl) (by kernel_rfl) (by kernel_rfl) (fun _ _ _ _ h => h) rfl hS ?_
              apply Exists.intro
              apply And.intro
              · intro W9 hW9; have y0 := hW9.cell' d0; have y1 := hW9.cell' d1; have y2 := hW9.cell' d2; go_simp; try with_reducible rfl
              simp only [Act.put, List.setIfInBounds_toArray, List.set_cons_zero, List.set_cons_succ]
              refine wpAnyH_done (by kernel_rfl) ?_ _
              rotate_left
              exact AllReadyH.nil
              exact AllReadyH.nil
              exact AllReadyH.nil
              exact AllReadyH.nil
              refine AllReadyH.cons rfl (fun K hK => ?_) ?_
              rw [if_pos (by rfl)]
              refine wp_alloc_new 25 rfl (some 10) rfl _ (zeroEp _) ?_
              intro g10 w6 hg9 hN hbw
              simp only [Act.put, List.setIfInBounds_toArray, List.set_cons_zero, List.set_cons_succ]
              have Kg10 := Lib.hid hN
              have Hg10 := Lib.hid (Nat.le_trans hS.size hg9)
              clear hN
              refine hK.out _ _ (hS.trans hbw) (fun hS => ?_)
              clear hK K
              clear hbw hg9
              refine wpAnyH_ready (rs := [5, 11]) (by kernel_rfl) (by simp) ?_
              refine AllReadyH.cons rfl (fun K hK => ?_) ?_
              go_simp
              go_wp2_with (go_at_call 20; (with_reducible refine Calls.mono (AD.out _ hS) ?_); rintro e1 w13 ⟨⟨D9, rfl, hd9⟩, hb13⟩)
              have HD9 := Lib.hid (show Dat3 w13 D9 Q.Z from hd9)
              clear hd9
              replace Kg10 := Lib.hid (Kg10.out.bw hb13)
              refine hK.out _ _ (hS.trans hb13) (fun hS => ?_)
              clear hK K
              clear hb13
              refine take1 (i := 6) (some 62) rfl rfl (by kernel_rfl) (by kernel_rfl) (by kernel_rfl) (fun _ _ _ _ h => h) rfl hS ?_
              apply Exists.intro
              apply And.intro
              · intro W9 hW9; have y0 := hW9.cell' d0; have y1 := hW9.cell' d1; have y2 := hW9.cell' d2; go_simp; try with_reducible rfl
              simp only [Act.put, List.setIfInBounds_toArray, List.set_cons_zero, List.set_cons_succ]
              refine take1 (i := 7) (some 69) rfl rfl (by kernel_rfl) (by kernel_rfl) (by kernel_rfl) (fun _ _ _ _ h => h) rfl hS ?_
              apply Exists.intro
              apply And.intro
              · intro W9 hW9; have y0 := hW9.cell' d0; have y1 := hW9.cell' d1; have y2 := hW9.cell' d2; go_simp; try with_reducible rfl
              simp only [Act.put, List.setIfInBounds_toArray, List.set_cons_zero, List.set_cons_succ]
              refine take1 (i := 8) (some 70) rfl rfl (by kernel_rfl) (by kernel_rfl) (by kernel_rfl) (fun _ _ _ _ h => h) rfl hS ?_
              apply Exists.intro
              apply And.intro
              · intro W9 hW9; have y0 := hW9.cell' d0; have y1 := hW9.cell' d1; have y2 := hW9.cell' d2; go_simp; try with_reducible rfl
              simp only [Act.put, List.setIfInBounds_toArray, List.set_cons_zero, List.set_cons_succ]
              refine take1 (i := 9) (some 71) rfl rfl (by kernel_rfl) (by kernel_rfl) (by kernel_rfl) (fun _ _ _ _ h => h) rfl hS ?_
              apply Exists.intro
              apply And.intro
              · intro W9 hW9; have y0 := hW9.cell' d0; have y1 := hW9.cell' d1; have y2 := hW9.cell' d2; go_simp; try with_reducible rfl
              simp only [Act.put, List.setIfInBounds_toArray, List.set_cons_zero, List.set_cons_succ]
              refine take1 (i := 10) (some 72) rfl rfl (by kernel_rfl) (by kernel_rfl) (by kernel_rfl) (fun _ _ _ _ h => h) rfl hS ?_
              apply Exists.intro
              apply And.intro
              · intro W9 hW9; have y0 := hW9.cell' d0; have y1 := hW9.cell' d1; have y2 := hW9.cell' d2; go_simp; try with_reducible rfl
              simp only [Act.put, List.setIfInBounds_toArray, List.set_cons_zero, List.set_cons_succ]
              refine wpAnyH_ready (rs := [11]) (by kernel_rfl) (by simp) ?_
              refine AllReadyH.cons rfl (fun K hK => ?_) ?_
              rw [if_pos (by rfl)]
              refine wp_alloc_new 43 rfl (some 9) rfl _ (zeroPt _) ?_
              intro g9 w5 hg9 hN hbw
              simp only [Act.put, List.setIfInBounds_toArray, List.set_cons_zero, List.set_cons_succ]
              have Kg9 := Lib.hid hN
              have Hg9 := Lib.hid (Nat.le_trans hS.size hg9)
              replace HD9 := Lib.hid (HD9.out.bw hbw)
              replace Kg10 := Lib.hid (Kg10.out.bw hbw)
              clear hN
              refine hK.out _ _ (hS.trans hbw) (fun hS => ?_)
              clear hK K
              clear hbw hg9
              refine wpAnyH_ready (rs := [13]) (by kernel_rfl) (by simp) ?_
              refine AllReadyH.cons rfl (fun K hK => ?_) ?_
              rw [if_pos (by rfl)]
              refine wp_store_row0 43 _ _ rfl rfl g9 (ptV Q.h Q.is Q.pr D9) rfl rfl 43 #[.bool false, .bool false, .bool false, .int .i64 0, .int .i64 0, .slice none 0 0, .slice none 0 0, .slice none 0 0] Kg9.out (by kernel_rfl) rfl (HD9.out.one _ _ _) ?_
              replace HD9 := Lib.hid (HD9.out.row HBIG.out Kg9.out (by decide) (ptV Q.h Q.is Q.pr D9))
              replace Kg10 := Lib.hid (Kg10.out.row_other (g' := g9) (Blk.ne Kg10.out Kg9.out (by decide)) (ptV Q.h Q.is Q.pr D9))
              replace Kg9 := Lib.hid (Kg9.out.row (ptV Q.h Q.is Q.pr D9))
              refine hK.out _ _ (Bw.setRow hS Hg9.out (ptV Q.h Q.is Q.pr D9)) (fun hS => ?_)
              clear hK K
              refine wpAnyH_ready (rs := [14]) (by kernel_rfl) (by simp) ?_
              refine AllReadyH.cons rfl (fun K hK => ?_) ?_
              rw [if_pos (by rfl)]
              refine wp_store_row0 25 _ _ rfl rfl g10 (eV X) rfl rfl 25 #[.int .i64 0, .int .i64 0, .int .i64 0, .int .i64 0, .int .i64 0, .int .i64 0, .int .i64 0, .int .i64 0, .int .i64 0, .int .i64 0, .int .i64 0, .int .i64 0, .int .i64 0, .int .i64 0, .int .i64 0, .int .i64 0, .int .i64 0, .int .i64 0, .int .i64 0] Kg10.out (by kernel_rfl) rfl (by simp [Value.oneCell', eV]) ?_
              replace HD9 := Lib.hid (HD9.out.row HBIG.out Kg10.out (by decide) (eV X))
              replace Kg9 := Lib.hid (Kg9.out.row_other (g' := g10) (Blk.ne Kg9.out Kg10.out (by decide)) (eV X))
              replace Kg10 := Lib.hid (Kg10.out.row (eV X))
              refine hK.out _ _ (Bw.setRow hS Hg10.out (eV X)) (fun hS => ?_)
              clear hK K
              refine take1 (i := 15) (some 11) rfl rfl (by kernel_rfl) (by kernel_rfl) (by kernel_rfl) (fun _ _ _ _ h => h) rfl hS ?_
              apply Exists.intro
              apply And.intro
              · intro W9 hW9; have y0 := hW9.cell' d0; have y1 := hW9.cell' d1; have y2 := hW9.cell' d2; go_simp; try with_reducible rfl
              simp only [Act.put, List.setIfInBounds_toArray, List.set_cons_zero, List.set_cons_succ]
              refine take1 (i := 16) (some 12) rfl rfl (by kernel_rfl) (by kernel_rfl) (by kernel_rfl) (fun _ _ _ _ h => h) rfl hS ?_
              apply Exists.intro
              apply And.intro
              · intro W9 hW9; have y0 := hW9.cell' d0; have y1 := hW9.cell' d1; have y2 := hW9.cell' d2; go_simp; try with_reducible rfl
              simp only [Act.put, List.setIfInBounds_toArray, List.set_cons_zero, List.set_cons_succ]
              refine wpAnyH_done (by kernel_rfl) ?_ _
              rotate_left
              exact AllReadyH.nil
              exact AllReadyH.nil
              exact AllReadyH.nil
              refine AllReadyH.cons rfl (fun K hK => ?_) ?_
              rw [if_pos (by rfl)]
              refine wp_alloc_new 43 rfl (some 9) rfl _ (zeroPt _) ?_
              intro g9 w5 hg9 hN hbw
              simp only [Act.put, List.setIfInBounds_toArray, List.set_cons_zero, List.set_cons_succ]
              have Kg9 := Lib.hid hN
              have Hg9 := Lib.hid (Nat.le_trans hS.size hg9)
              replace Kg10 := Lib.hid (Kg10.out.bw hbw)
              clear hN
              refine hK.out _ _ (hS.trans hbw) (fun hS => ?_)
              clear hK K
              clear hbw hg9
              refine wpAnyH_ready (rs := [5]) (by kernel_rfl) (by simp) ?_
              refine AllReadyH.cons rfl (fun K hK => ?_) ?_
              go_simp
              go_wp2_with (go_at_call 20; (with_reducible refine Calls.mono (AD.out _ hS) ?_); rintro e1 w13 ⟨⟨D9, rfl, hd9⟩, hb13⟩)
              have HD9 := Lib.hid (show Dat3 w13 D9 Q.Z from hd9)
              clear hd9
              replace Kg9 := Lib.hid (Kg9.out.bw hb13)
              replace Kg10 := Lib.hid (Kg10.out.bw hb13)
              refine hK.out _ _ (hS.trans hb13) (fun hS => ?_)
              clear hK K
              clear hb13
              refine take1 (i := 6) (some 62) rfl rfl (by kernel_rfl) (by kernel_rfl) (by kernel_rfl) (fun _ _ _ _ h => h) rfl hS ?_
              apply Exists.intro
              apply And.intro
              · intro W9 hW9; have y0 := hW9.cell' d0; have y1 := hW9.cell' d1; have y2 := hW9.cell' d2; go_simp; try with_reducible rfl
              simp only [Act.put, List.setIfInBounds_toArray, List.set_cons_zero, List.set_cons_succ]
              refine take1 (i := 7) (some 69) rfl rfl (by kernel_rfl) (by kernel_rfl) (by kernel_rfl) (fun _ _ _ _ h => h) rfl hS ?_
              apply Exists.intro
              apply And.intro
              · intro W9 hW9; have y0 := hW9.cell' d0; have y1 := hW9.cell' d1; have y2 := hW9.cell' d2; go_simp; try with_reducible rfl
              simp only [Act.put, List.setIfInBounds_toArray, List.set_cons_zero, List.set_cons_succ]
              refine take1 (i := 8) (some 70) rfl rfl (by kernel_rfl) (by kernel_rfl) (by kernel_rfl) (fun _ _ _ _ h => h) rfl hS ?_
              apply Exists.intro
              apply And.intro
              · intro W9 hW9; have y0 := hW9.cell' d0; have y1 := hW9.cell' d1; have y2 := hW9.cell' d2; go_simp; try with_reducible rfl
              simp only [Act.put, List.setIfInBounds_toArray, List.set_cons_zero, List.set_cons_succ]
              refine take1 (i := 9) (some 71) rfl rfl (by kernel_rfl) (by kernel_rfl) (by kernel_rfl) (fun _ _ _ _ h => h) rfl hS ?_
              apply Exists.intro
              apply And.intro
              · intro W9 hW9; have y0 := hW9.cell' d0; have y1 := hW9.cell' d1; have y2 := hW9.cell' d2; go_simp; try with_reducible rfl
              simp only [Act.put, List.setIfInBounds_toArray, List.set_cons_zero, List.set_cons_succ]
              refine take1 (i := 10) (some 72) rfl rfl (by kernel_rfl) (by kernel_rfl) (by kernel_rfl) (fun _ _ _ _ h => h) rfl hS ?_
              apply Exists.intro
              apply And.intro
              · intro W9 hW9; have y0 := hW9.cell' d0; have y1 := hW9.cell' d1; have y2 := hW9.cell' d2; go_simp; try with_reducible rfl
              simp only [Act.put, List.setIfInBounds_toArray, List.set_cons_zero, List.set_cons_succ]
              refine wpAnyH_ready (rs := [13]) (by kernel_rfl) (by simp) ?_
              refine AllReadyH.cons rfl (fun K hK => ?_) ?_
              rw [if_pos (by rfl)]
              refine wp_store_row0 43 _ _ rfl rfl g9 (ptV Q.h Q.is Q.pr D9) rfl rfl 43 #[.bool false, .bool false, .bool false, .int .i64 0, .int .i64 0, .slice none 0 0, .slice none 0 0, .slice none 0 0] Kg9.out (by kernel_rfl) rfl (HD9.out.one _ _ _) ?_
              replace HD9 := Lib.hid (HD9.out.row HBIG.out Kg9.out (by decide) (ptV Q.h Q.is Q.pr D9))
              replace Kg10 := Lib.hid (Kg10.out.row_other (g' := g9) (Blk.ne Kg10.out Kg9.out (by decide)) (ptV Q.h Q.is Q.pr D9))
              replace Kg9 := Lib.hid (Kg9.out.row (ptV Q.h Q.is Q.pr D9))
              refine hK.out _ _ (Bw.setRow hS Hg9.out (ptV Q.h Q.is Q.pr D9)) (fun hS => ?_)
              clear hK K
              refine wpAnyH_ready (rs := [14]) (by kernel_rfl) (by simp) ?_
              refine AllReadyH.cons rfl (fun K hK => ?_) ?_
              rw [if_pos (by rfl)]
              refine wp_store_row0 25 _ _ rfl rfl g10 (eV X) rfl rfl 25 #[.int .i64 0, .int .i64 0, .int .i64 0, .int .i64 0, .int .i64 0, .int .i64 0, .int .i64 0, .int .i64 0, .int .i64 0, .int .i64 0, .int .i64 0, .int .i64 0, .int .i64 0, .int .i64 0, .int .i64 0, .int .i64 0, .int .i64 0, .int .i64 0, .int .i64 0] Kg10.out (by kernel_rfl) rfl (by simp [Value.oneCell', eV]) ?_
              replace HD9 := Lib.hid (HD9.out.row HBIG.out Kg10.out (by decide) (eV X))
              replace Kg9 := Lib.hid (Kg9.out.row_other (g' := g10) (Blk.ne Kg9.out Kg10.out (by decide)) (eV X))
              replace Kg10 := Lib.hid (Kg10.out.row (eV X))
              refine hK.out _ _ (Bw.setRow hS Hg10.out (eV X)) (fun hS => ?_)
              clear hK K
              refine take1 (i := 15) (some 11) rfl rfl (by kernel_rfl) (by kernel_rfl) (by kernel_rfl) (fun _ _ _ _ h => h) rfl hS ?_
              apply Exists.intro
              apply And.intro
              · intro W9 hW9; have y0 := hW9.cell' d0; have y1 := hW9.cell' d1; have y2 := hW9.cell' d2; go_simp; try with_reducible rfl
              simp only [Act.put, List.setIfInBounds_toArray, List.set_cons_zero, List.set_cons_succ]
              refine take1 (i := 16) (some 12) rfl rfl (by kernel_rfl) (by kernel_rfl) (by kernel_rfl) (fun _ _ _ _ h => h) rfl hS ?_
              apply Exists.intro
              apply And.intro
              · intro W9 hW9; have y0 := hW9.cell' d0; have y1 := hW9.cell' d1; have y2 := hW9.cell' d2; go_simp; try with_reducible rfl
              simp only [Act.put, List.setIfInBounds_toArray, List.set_cons_zero, List.set_cons_succ]
              refine wpAnyH_done (by kernel_rfl) ?_ _
              rotate_left
              exact AllReadyH.nil
              exact AllReadyH.nil
              exact AllReadyH.nil
              exact AllReadyH.nil
              exact AllReadyH.nil
              all_goals
                go_wp2
                go_meet
                exact ⟨g9, g10, D9, by have := Hg9.out; have := KM.out.lt; omega, rfl, rfl, rfl, rfl, rfl, Lib.hid hS, Kg9, Kg10, HD9⟩
            case rest =>
              obtain ⟨g9, g10, D9, hg9, rfl, rfl, rfl, rfl, rfl, HWB, Kg9, Kg10, HD9⟩ := hcut
              replace HDA := Lib.hid (HDA.out.bw HWB.out)
              replace HDB := Lib.hid (HDB.out.bw HWB.out)
              replace KN := Lib.hid (KN.out.bw HWB.out)
              replace KM := Lib.hid (KM.out.bw HWB.out)
              obtain ⟨d0, d1, d2⟩ : wc.cell? ⟨bl, of_ + i * 3, none⟩ = some (.int .i64 t) ∧ wc.cell? ⟨bl, of_ + i * 3 + 1, none⟩ = some (.int .i64 k) ∧ wc.cell? ⟨bl, of_ + i * 3 + 2, none⟩ = some (.slice af LN cf) := ⟨HWB.out.cell' d0, HWB.out.cell' d1, HWB.out.cell' d2⟩
              obtain ⟨wv, hwv⟩ : ∃ wv, wv = wc := ⟨_, rfl⟩
              subst hwv
              go_upto_region 13 with fail
              go_cut [13, 14, 15, 16, 113] from 56 (fun s9 s10 s11 s12 sz wc => ∃ g13 g14 D13, g7 < g13 ∧ s9 = .pointer (some ⟨g13, 0, none⟩) ∧ s10 = .pointer (some ⟨g14, 0, none⟩) ∧ s11 = .bool dn ∧ s12 = .int .i64 er ∧ sz = undef ∧ Hid (Bw wb wc) ∧ Hid (Bw wv wc) ∧ Hid (Blk wc g13 43 (ptV Q.h Q.is Q.pr D13)) ∧ Hid (Blk wc g14 25 (eV X)) ∧ Hid (Dat3 wc D13 Q.Z))
              case first =>
                refine wp_region_held_drew (S := Bw wv) (by kernel_rfl) (Bw.drew (Bw.refl _)) (fun hS => ?_)
                generalize World.drew _ = wd at hS ⊢
                refine take1 (i := 0) (some 74) rfl rfl (by kernel_rfl) (by kernel_rfl) (by kernel_rfl) (fun _ _ _ _ h => h) rfl hS ?_
                refine Exists.intro (.agg (ptV P.h P.is P.pr Db)) ?_
                apply And.intro
                · intro W9 hW9; have y0 := hW9.cell' d0; have y1 := hW9.cell' d1; have y2 := hW9.cell' d2; exact run_load_row 43 _ rfl g7 rfl 43 (ptV P.h P.is P.pr Db) _ (KM.out.bw hW9) Try.underlying43 rfl (by kernel_rfl)
                simp only [Act.put, List.setIfInBounds_toArray, List.set_cons_zero, List.set_cons_succ]
                refine take1 (i := 1) (some 75) rfl rfl (by kernel_rfl) (by kernel_rfl) (by kernel_rfl) (fun _ _ _ _ h => h) rfl hS ?_
                apply Exists.intro
                apply And.intro
                · intro W9 hW9; have y0 := hW9.cell' d0; have y1 := hW9.cell' d1; have y2 := hW9.cell' d2; go_simp; try with_reducible rfl
                simp only [Act.put, List.setIfInBounds_toArray, List.set_cons_zero, List.set_cons_succ]
                refine take1 (i := 2) (some 76) rfl rfl (by kernel_rfl) (by kernel_rfl) (by kernel_rfl) (fun _ _ _ _ h => h) rfl hS ?_
                apply Exists.intro
                apply And.intro
                · intro W9 hW9; have y0 := hW9.cell' d0; have y1 := hW9.cell' d1; have y2 := hW9.cell' d2; go_simp; try with_reducible rfl
                simp only [Act.put, List.setIfInBounds_toArray, List.set_cons_zero, List.set_cons_succ]
                refine take1 (i := 3) (some 77) rfl rfl (by kernel_rfl) (by kernel_rfl) (by kernel_rfl) (fun _ _ _ _ h => h) rfl hS ?_
                apply Exists.intro
                apply And.intro
                · intro W9 hW9; have y0 := hW9.cell' d0; have y1 := hW9.cell' d1; have y2 := hW9.cell' d2; go_simp; try with_reducible rfl
                simp only [Act.put, List.setIfInBounds_toArray, List.set_cons_zero, List.set_cons_succ]
                refine take1 (i := 4) (some 78) rfl rfl (by kernel_rfl) (by kernel_rfl) (by kernel_rfl) (fun _ _ _ _ h => h) rfl hS ?_
                refine Exists.intro (.agg #[.int .i64 t, .int .i64 k, .slice af LN cf]) ?_
                apply And.intro
                · intro W9 hW9; have y0 := hW9.cell' d0; have y1 := hW9.cell' d1; have y2 := hW9.cell' d2; go_simp; (try go_bits); (try with_reducible rfl); (try trivial)
                simp only [Act.put, List.setIfInBounds_toArray, List.set_cons_zero, List.set_cons_succ]
                refine wpAnyH_ready (rs := [5, 11, 12]) (by kernel_rfl) (by simp) ?_
                refine AllReadyH.cons rfl (fun K hK => ?_) ?_
                go_simp
                go_wp2_with (go_at_call 21; (with_reducible refine Calls.mono (RA.out _ (HWB.out.trans hS)) ?_); rintro e1 w13 ⟨⟨D13, rfl, hd9⟩, hb13⟩)
                have HD13 := Lib.hid (show Dat3 w13 D13 Q.Z from hd9)
                clear hd9
                refine hK.out _ _ (hS.trans hb13) (fun hS => ?_)
                clear hK K
                clear hb13
                refine take1 (i := 6) (some 73) rfl rfl (by kernel_rfl) (by kernel_rfl) (by kernel_rfl) (fun _ _ _ _ h => h) rfl hS ?_
                apply Exists.intro
                apply And.intro
                · intro W9 hW9; have y0 := hW9.cell' d0; have y1 := hW9.cell' d1; have y2 := hW9.cell' d2; go_simp; try with_reducible rfl
                simp only [Act.put, List.setIfInBounds_toArray, List.set_cons_zero, List.set_cons_succ]
                refine take1 (i := 7) (some 80) rfl rfl (by kernel_rfl) (by kernel_rfl) (by kernel_rfl) (fun _ _ _ _ h => h) rfl hS ?_
                apply Exists.intro
                apply And.intro
                · intro W9 hW9; have y0 := hW9.cell' d0; have y1 := hW9.cell' d1; have y2 := hW9.cell' d2; go_simp; try with_reducible rfl
                simp only [Act.put, List.setIfInBounds_toArray, List.set_cons_zero, List.set_cons_succ]
                refine take1 (i := 8) (some 81) rfl rfl (by kernel_rfl) (by kernel_rfl) (by kernel_rfl) (fun _ _ _ _ h => h) rfl hS ?_
                apply Exists.intro
                apply And.intro
                · intro W9 hW9; have y0 := hW9.cell' d0; have y1 := hW9.cell' d1; have y2 := hW9.cell' d2; go_simp; try with_reducible rfl
                simp only [Act.put, List.setIfInBounds_toArray, List.set_cons_zero, List.set_cons_succ]
                refine take1 (i := 9) (some 82) rfl rfl (by kernel_rfl) (by kernel_rfl) (by kernel_rfl) (fun _ _ _ _ h => h) rfl hS ?_
                apply Exists.intro
                apply And.intro
                · intro W9 hW9; have y0 := hW9.cell' d0; have y1 := hW9.cell' d1; have y2 := hW9.cell' d2; go_simp; try with_reducible rfl
                simp only [Act.put, List.setIfInBounds_toArray, List.set_cons_zero, List.set_cons_succ]
                refine take1 (i := 10) (some 83) rfl rfl (by kernel_rfl) (by kernel_rfl) (by kernel_rfl) (fun _ _ _ _ h => h) rfl hS ?_
                apply Exists.intro
                apply And.intro
                · intro W9 hW9; have y0 := hW9.cell' d0; have y1 := hW9.cell' d1; have y2 := hW9.cell' d2; go_simp; try with_reducible rfl
                simp only [Act.put, List.setIfInBounds_toArray, List.set_cons_zero, List.set_cons_succ]
                refine wpAnyH_ready (rs := [11, 12]) (by kernel_rfl) (by simp) ?_
                refine AllReadyH.cons rfl (fun K hK => ?_) ?_
                rw [if_pos (by rfl)]
                refine wp_alloc_new 43 rfl (some 13) rfl _ (zeroPt _) ?_
                intro g13 w5 hg9 hN hbw
                simp only [Act.put, List.setIfInBounds_toArray, List.set_cons_zero, List.set_cons_succ]
                have Kg13 := Lib.hid hN
                have Hg13 := Lib.hid (Nat.le_trans hS.size hg9)
                replace HD13 := Lib.hid (HD13.out.bw hbw)
                clear hN
                refine hK.out _ _ (hS.trans hbw) (fun hS => ?_)
                clear hK K
                clear hbw hg9
                refine wpAnyH_ready (rs := [12]) (by kernel_rfl) (by simp) ?_
                refine AllReadyH.cons rfl (fun K hK => ?_) ?_
                rw [if_pos (by rfl)]
                refine wp_alloc_new 25 rfl (some 14) rfl _ (zeroEp _) ?_
                intro g14 w6 hg9 hN hbw
                simp only [Act.put, List.setIfInBounds_toArray, List.set_cons_zero, List.set_cons_succ]
                have Kg14 := Lib.hid hN
                have Hg14 := Lib.hid (Nat.le_trans hS.size hg9)
                replace HD13 := Lib.hid (HD13.out.bw hbw)
                replace Kg13 := Lib.hid (Kg13.out.bw hbw)
                clear hN
                refine hK.out _ _ (hS.trans hbw) (fun hS => ?_)
                clear hK K
                clear hbw hg9
                refine wpAnyH_ready (rs := [13]) (by kernel_rfl) (by simp) ?_
                refine AllReadyH.cons rfl (fun K hK => ?_) ?_
                rw [if_pos (by rfl)]
                refine wp_store_row0 43 _ _ rfl rfl g13 (ptV Q.h Q.is Q.pr D13) rfl rfl 43 #[.bool false, .bool false, .bool false, .int .i64 0, .int .i64 0, .slice none 0 0, .slice none 0 0, .slice none 0 0] Kg13.out (by kernel_rfl) rfl (HD13.out.one _ _ _) ?_
                replace HD13 := Lib.hid (HD13.out.row HBIG.out Kg13.out (by decide) (ptV Q.h Q.is Q.pr D13))
                replace Kg14 := Lib.hid (Kg14.out.row_other (g' := g13) (Blk.ne Kg14.out Kg13.out (by decide)) (ptV Q.h Q.is Q.pr D13))
                replace Kg13 := Lib.hid (Kg13.out.row (ptV Q.h Q.is Q.pr D13))
                refine hK.out _ _ (Bw.setRow hS Hg13.out (ptV Q.h Q.is Q.pr D13)) (fun hS => ?_)
                clear hK K
                refine wpAnyH_ready (rs := [14]) (by kernel_rfl) (by simp) ?_
                refine AllReadyH.cons rfl (fun K hK => ?_) ?_
                rw [if_pos (by rfl)]
                refine wp_store_row0 25 _ _ rfl rfl g14 (eV X) rfl rfl 25 #[.int .i64 0, .int .i64 0, .int .i64 0, .int .i64 0, .int .i64 0, .int .i64 0, .int .i64 0, .int .i64 0, .int .i64 0, .int .i64 0, .int .i64 0, .int .i64 0, .int .i64 0, .int .i64 0, .int .i64 0, .int .i64 0, .int .i64 0, .int .i64 0, .int .i64 0] Kg14.out (by kernel_rfl) rfl (by simp [Value.oneCell', eV]) ?_
                replace HD13 := Lib.hid (HD13.out.row HBIG.out Kg14.out (by decide) (eV X))
                replace Kg13 := Lib.hid (Kg13.out.row_other (g' := g14) (Blk.ne Kg13.out Kg14.out (by decide)) (eV X))
                replace Kg14 := Lib.hid (Kg14.out.row (eV X))
                refine hK.out _ _ (Bw.setRow hS Hg14.out (eV X)) (fun hS => ?_)
                clear hK K
                refine take1 (i := 15) (some 15) rfl rfl (by kernel_rfl) (by kernel_rfl) (by kernel_rfl) (fun _ _ _ _ h => h) rfl hS ?_
                apply Exists.intro
                apply And.intro
                · intro W9 hW9; have y0 := hW9.cell' d0; have y1 := hW9.cell' d1; have y2 := hW9.cell' d2; go_simp; try with_reducible rfl
                simp only [Act.put, List.setIfInBounds_toArray, List.set_cons_zero, List.set_cons_succ]
                refine take1 (i := 16) (some 16) rfl rfl (by kernel_rfl) (by kernel_rfl) (by kernel_rfl) (fun _ _ _ _ h => h) rfl hS ?_
                apply Exists.intro
                apply And.intro
                · intro W9 hW9; have y0 := hW9.cell' d0; have y1 := hW9.cell' d1; have y2 := hW9.cell' d2; go_simp; try with_reducible rfl
                simp only [Act.put, List.setIfInBounds_toArray, List.set_cons_zero, List.set_cons_succ]
                refine wpAnyH_done (by kernel_rfl) ?_ _
                rotate_left
                exact AllReadyH.nil
                exact AllReadyH.nil
                exact AllReadyH.nil
                refine AllReadyH.cons rfl (fun K hK => ?_) ?_
                rw [if_pos (by rfl)]
                refine wp_alloc_new 25 rfl (some 14) rfl _ (zeroEp _) ?_
                intro g14 w6 hg9 hN hbw
                simp only [Act.put, List.setIfInBounds_toArray, List.set_cons_zero, List.set_cons_succ]
                have Kg14 := Lib.hid hN
                have Hg14 := Lib.hid (Nat.le_trans hS.size hg9)
                replace HD13 := Lib.hid (HD13.out.bw hbw)
                clear hN
                refine hK.out _ _ (hS.trans hbw) (fun hS => ?_)
                clear hK K
                clear hbw hg9
                refine wpAnyH_ready (rs := [11]) (by kernel_rfl) (by simp) ?_
                refine AllReadyH.cons rfl (fun K hK => ?_) ?_
                rw [if_pos (by rfl)]
                refine wp_alloc_new 43 rfl (some 13) rfl _ (zeroPt _) ?_
                intro g13 w5 hg9 hN hbw
                simp only [Act.put, List.setIfInBounds_toArray, List.set_cons_zero, List.set_cons_succ]
                have Kg13 := Lib.hid hN
                have Hg13 := Lib.hid (Nat.le_trans hS.size hg9)
                replace HD13 := Lib.hid (HD13.out.bw hbw)
                replace Kg14 := Lib.hid (Kg14.out.bw hbw)
                clear hN
                refine hK.out _ _ (hS.trans hbw) (fun hS => ?_)
                clear hK K
                clear hbw hg9
                refine wpAnyH_ready (rs := [13]) (by kernel_rfl) (by simp) ?_
                refine AllReadyH.cons rfl (fun K hK => ?_) ?_
                rw [if_pos (by rfl)]
                refine wp_store_row0 43 _ _ rfl rfl g13 (ptV Q.h Q.is Q.pr D13) rfl rfl 43 #[.bool false, .bool false, .bool false, .int .i64 0, .int .i64 0, .slice none 0 0, .slice none 0 0, .slice none 0 0] Kg13.out (by kernel_rfl) rfl (HD13.out.one _ _ _) ?_
                replace HD13 := Lib.hid (HD13.out.row HBIG.out Kg13.out (by decide) (ptV Q.h Q.is Q.pr D13))
                replace Kg14 := Lib.hid (Kg14.out.row_other (g' := g13) (Blk.ne Kg14.out Kg13.out (by decide)) (ptV Q.h Q.is Q.pr D13))
                replace Kg13 := Lib.hid (Kg13.out.row (ptV Q.h Q.is Q.pr D13))
                refine hK.out _ _ (Bw.setRow hS Hg13.out (ptV Q.h Q.is Q.pr D13)) (fun hS => ?_)
                clear hK K
                refine wpAnyH_ready (rs := [14]) (by kernel_rfl) (by simp) ?_
                refine AllReadyH.cons rfl (fun K hK => ?_) ?_
                rw [if_pos (by rfl)]
                refine wp_store_row0 25 _ _ rfl rfl g14 (eV X) rfl rfl 25 #[.int .i64 0, .int .i64 0, .int .i64 0, .int .i64 0, .int .i64 0, .int .i64 0, .int .i64 0, .int .i64 0, .int .i64 0, .int .i64 0, .int .i64 0, .int .i64 0, .int .i64 0, .int .i64 0, .int .i64 0, .int .i64 0, .int .i64 0, .int .i64 0, .int .i64 0] Kg14.out (by kernel_rfl) rfl (by simp [Value.oneCell', eV]) ?_
                replace HD13 := Lib.hid (HD13.out.row HBIG.out Kg14.out (by decide) (eV X))
                replace Kg13 := Lib.hid (Kg13.out.row_other (g' := g14) (Blk.ne Kg13.out Kg14.out (by decide)) (eV X))
                replace Kg14 := Lib.hid (Kg14.out.row (eV X))
                refine hK.out _ _ (Bw.setRow hS Hg14.out (eV X)) (fun hS => ?_)
                clear hK K
                refine take1 (i := 15) (some 15) rfl rfl (by kernel_rfl) (by kernel_rfl) (by kernel_rfl) (fun _ _ _ _ h => h) rfl hS ?_
                apply Exists.intro
                apply And.intro
                · intro W9 hW9; have y0 := hW9.cell' d0; have y1 := hW9.cell' d1; have y2 := hW9.cell' d2; go_simp; try with_reducible rfl
                simp only [Act.put, List.setIfInBounds_toArray, List.set_cons_zero, List.set_cons_succ]
                refine take1 (i := 16) (some 16) rfl rfl (by kernel_rfl) (by kernel_rfl) (by kernel_rfl) (fun _ _ _ _ h => h) rfl hS ?_
                apply Exists.intro
                apply And.intro
                · intro W9 hW9; have y0 := hW9.cell' d0; have y1 := hW9.cell' d1; have y2 := hW9.cell' d2; go_simp; try with_reducible rfl
                simp only [Act.put, List.setIfInBounds_toArray, List.set_cons_zero, List.set_cons_succ]
                refine wpAnyH_done (by kernel_rfl) ?_ _
                rotate_left
                exact AllReadyH.nil
                exact AllReadyH.nil
                exact AllReadyH.nil
                exact AllReadyH.nil
                refine AllReadyH.cons rfl (fun K hK => ?_) ?_
                rw [if_pos (by rfl)]
                refine wp_alloc_new 43 rfl (some 13) rfl _ (zeroPt _) ?_
                intro g13 w5 hg9 hN hbw
                simp only [Act.put, List.setIfInBounds_toArray, List.set_cons_zero, List.set_cons_succ]
                have Kg13 := Lib.hid hN
                have Hg13 := Lib.hid (Nat.le_trans hS.size hg9)
                clear hN
                refine hK.out _ _ (hS.trans hbw) (fun hS => ?_)
                clear hK K
                clear hbw hg9
                refine wpAnyH_ready (rs := [5, 12]) (by kernel_rfl) (by simp) ?_
                refine AllReadyH.cons rfl (fun K hK => ?_) ?_
                go_simp
                go_wp2_with (go_at_call 21; (with_reducible refine Calls.mono (RA.out _ (HWB.out.trans hS)) ?_); rintro e1 w13 ⟨⟨D13, rfl, hd9⟩, hb13⟩)
                have HD13 := Lib.hid (show Dat3 w13 D13 Q.Z from hd9)
                clear hd9
                replace Kg13 := Lib.hid (Kg13.out.bw hb13)
                refine hK.out _ _ (hS.trans hb13) (fun hS => ?_)
                clear hK K
                clear hb13
                refine take1 (i := 6) (some 73) rfl rfl (by kernel_rfl) (by kernel_rfl) (by kernel_rfl) (fun _ _ _ _ h => h) rfl hS ?_
                apply Exists.intro
                apply And.intro
                · intro W9 hW9; have y0 := hW9.cell' d0; have y1 := hW9.cell' d1; have y2 := hW9.cell' d2; go_simp; try with_reducible rfl
                simp only [Act.put, List.setIfInBounds_toArray, List.set_cons_zero, List.set_cons_succ]
                refine take1 (i := 7) (some 80) rfl rfl (by kernel_rfl) (by kernel_rfl) (by kernel_rfl) (fun _ _ _ _ h => h) rfl hS ?_
                apply Exists.intro
                apply And.intro
                · intro W9 hW9; have y0 := hW9.cell' d0; have y1 := hW9.cell' d1; have y2 := hW9.cell' d2; go_simp; try with_reducible rfl
                simp only [Act.put, List.setIfInBounds_toArray, List.set_cons_zero, List.set_cons_succ]
                refine take1 (i := 8) (some 81) rfl rfl (by kernel_rfl) (by kernel_rfl) (by kernel_rfl) (fun _ _ _ _ h => h) rfl hS ?_
                apply Exists.intro
                apply And.intro
                · intro W9 hW9; have y0 := hW9.cell' d0; have y1 := hW9.cell' d1; have y2 := hW9.cell' d2; go_simp; try with_reducible rfl
                simp only [Act.put, List.setIfInBounds_toArray, List.set_cons_zero, List.set_cons_succ]
                refine take1 (i := 9) (some 82) rfl rfl (by kernel_rfl) (by kernel_rfl) (by kernel_rfl) (fun _ _ _ _ h => h) rfl hS ?_
                apply Exists.intro
                apply And.intro
                · intro W9 hW9; have y0 := hW9.cell' d0; have y1 := hW9.cell' d1; have y2 := hW9.cell' d2; go_simp; try with_reducible rfl
                simp only [Act.put, List.setIfInBounds_toArray, List.set_cons_zero, List.set_cons_succ]
                refine take1 (i := 10) (some 83) rfl rfl (by kernel_rfl) (by kernel_rfl) (by kernel_rfl) (fun _ _ _ _ h => h) rfl hS ?_
                apply Exists.intro
                apply And.intro
                · intro W9 hW9; have y0 := hW9.cell' d0; have y1 := hW9.cell' d1; have y2 := hW9.cell' d2; go_simp; try with_reducible rfl
                simp only [Act.put, List.setIfInBounds_toArray, List.set_cons_zero, List.set_cons_succ]
                refine wpAnyH_ready (rs := [12]) (by kernel_rfl) (by simp) ?_
                refine AllReadyH.cons rfl (fun K hK => ?_) ?_
                rw [if_pos (by rfl)]
                refine wp_alloc_new 25 rfl (some 14) rfl _ (zeroEp _) ?_
                intro g14 w6 hg9 hN hbw
                simp only [Act.put, List.setIfInBounds_toArray, List.set_cons_zero, List.set_cons_succ]
                have Kg14 := Lib.hid hN
                have Hg14 := Lib.hid (Nat.le_trans hS.size hg9)
                replace HD13 := Lib.hid (HD13.out.bw hbw)
                replace Kg13 := Lib.hid (Kg13.out.bw hbw)
                clear hN
                refine hK.out _ _ (hS.trans hbw) (fun hS => ?_)
                clear hK K
                clear hbw hg9
                refine wpAnyH_ready (rs := [13]) (by kernel_rfl) (by simp) ?_
                refine AllReadyH.cons rfl (fun K hK => ?_) ?_
                rw [if_pos (by rfl)]
                refine wp_store_row0 43 _ _ rfl rfl g13 (ptV Q.h Q.is Q.pr D13) rfl rfl 43 #[.bool false, .bool false, .bool false, .int .i64 0, .int .i64 0, .slice none 0 0, .slice none 0 0, .slice none 0 0] Kg13.out (by kernel_rfl) rfl (HD13.out.one _ _ _) ?_
                replace HD13 := Lib.hid (HD13.out.row HBIG.out Kg13.out (by decide) (ptV Q.h Q.is Q.pr D13))
                replace Kg14 := Lib.hid (Kg14.out.row_other (g' := g13) (Blk.ne Kg14.out Kg13.out (by decide)) (ptV Q.h Q.is Q.pr D13))
                replace Kg13 := Lib.hid (Kg13.out.row (ptV Q.h Q.is Q.pr D13))
                refine hK.out _ _ (Bw.setRow hS Hg13.out (ptV Q.h Q.is Q.pr D13)) (fun hS => ?_)
                clear hK K
                refine wpAnyH_ready (rs := [14]) (by kernel_rfl) (by simp) ?_
                refine AllReadyH.cons rfl (fun K hK => ?_) ?_
                rw [if_pos (by rfl)]
                refine wp_store_row0 25 _ _ rfl rfl g14 (eV X) rfl rfl 25 #[.int .i64 0, .int .i64 0, .int .i64 0, .int .i64 0, .int .i64 0, .int .i64 0, .int .i64 0, .int .i64 0, .int .i64 0, .int .i64 0, .int .i64 0, .int .i64 0, .int .i64 0, .int .i64 0, .int .i64 0, .int .i64 0, .int .i64 0, .int .i64 0, .int .i64 0] Kg14.out (by kernel_rfl) rfl (by simp [Value.oneCell', eV]) ?_
                replace HD13 := Lib.hid (HD13.out.row HBIG.out Kg14.out (by decide) (eV X))
                replace Kg13 := Lib.hid (Kg13.out.row_other (g' := g14) (Blk.ne Kg13.out Kg14.out (by decide)) (eV X))
                replace Kg14 := Lib.hid (Kg14.out.row (eV X))
                refine hK.out _ _ (Bw.setRow hS Hg14.out (eV X)) (fun hS => ?_)
                clear hK K
                refine take1 (i := 15) (some 15) rfl rfl (by kernel_rfl) (by kernel_rfl) (by kernel_rfl) (fun _ _ _ _ h => h) rfl hS ?_
                apply Exists.intro
                apply And.intro
                · intro W9 hW9; have y0 := hW9.cell' d0; have y1 := hW9.cell' d1; have y2 := hW9.cell' d2; go_simp; try with_reducible rfl
                simp only [Act.put, List.setIfInBounds_toArray, List.set_cons_zero, List.set_cons_succ]
                refine take1 (i := 16) (some 16) rfl rfl (by kernel_rfl) (by kernel_rfl) (by kernel_rfl) (fun _ _ _ _ h => h) rfl hS ?_
                apply Exists.intro
                apply And.intro
                · intro W9 hW9; have y0 := hW9.cell' d0; have y1 := hW9.cell' d1; have y2 := hW9.cell' d2; go_simp; try with_reducible rfl
                simp only [Act.put, List.setIfInBounds_toArray, List.set_cons_zero, List.set_cons_succ]
                refine wpAnyH_done (by kernel_rfl) ?_ _
                rotate_left
                exact AllReadyH.nil
                exact AllReadyH.nil
                exact AllReadyH.nil
                refine AllReadyH.cons rfl (fun K hK => ?_) ?_
                rw [if_pos (by rfl)]
                refine wp_alloc_new 25 rfl (some 14) rfl _ (zeroEp _) ?_
                intro g14 w6 hg9 hN hbw
                simp only [Act.put, List.setIfInBounds_toArray, List.set_cons_zero, List.set_cons_succ]
                have Kg14 := Lib.hid hN
                have Hg14 := Lib.hid (Nat.le_trans hS.size hg9)
                replace Kg13 := Lib.hid (Kg13.out.bw hbw)
                clear hN
                refine hK.out _ _ (hS.trans hbw) (fun hS => ?_)
                clear hK K
                clear hbw hg9
                refine wpAnyH_ready (rs := [5]) (by kernel_rfl) (by simp) ?_
                refine AllReadyH.cons rfl (fun K hK => ?_) ?_
                go_simp
                go_wp2_with (go_at_call 21; (with_reducible refine Calls.mono (RA.out _ (HWB.out.trans hS)) ?_); rintro e1 w13 ⟨⟨D13, rfl, hd9⟩, hb13⟩)
                have HD13 := Lib.hid (show Dat3 w13 D13 Q.Z from hd9)
                clear hd9
                replace Kg13 := Lib.hid (Kg13.out.bw hb13)
                replace Kg14 := Lib.hid (Kg14.out.bw hb13)
                refine hK.out _ _ (hS.trans hb13) (fun hS => ?_)
                clear hK K
                clear hb13
                refine take1 (i := 6) (some 73) rfl rfl (by kernel_rfl) (by kernel_rfl) (by kernel_rfl) (fun _ _ _ _ h => h) rfl hS ?_
                apply Exists.intro
                apply And.intro
                · intro W9 hW9; have y0 := hW9.cell' d0; have y1 := hW9.cell' d1; have y2 := hW9.cell' d2; go_simp; try with_reducible rfl
                simp only [Act.put, List.setIfInBounds_toArray, List.set_cons_zero, List.set_cons_succ]
                refine take1 (i := 7) (some 80) rfl rfl (by kernel_rfl) (by kernel_rfl) (by kernel_rfl) (fun _ _ _ _ h => h) rfl hS ?_
                apply Exists.intro
                apply And.intro
                · intro W9 hW9; have y0 := hW9.cell' d0; have y1 := hW9.cell' d1; have y2 := hW9.cell' d2; go_simp; try with_reducible rfl
                simp only [Act.put, List.setIfInBounds_toArray, List.set_cons_zero, List.set_cons_succ]
                refine take1 (i := 8) (some 81) rfl rfl (by kernel_rfl) (by kernel_rfl) (by kernel_rfl) (fun _ _ _ _ h => h) rfl hS ?_
                apply Exists.intro
                apply And.intro
                · intro W9 hW9; have y0 := hW9.cell' d0; have y1 := hW9.cell' d1; have y2 := hW9.cell' d2; go_simp; try with_reducible rfl
                simp only [Act.put, List.setIfInBounds_toArray, List.set_cons_zero, List.set_cons_succ]
                refine take1 (i := 9) (some 82) rfl rfl (by kernel_rfl) (by kernel_rfl) (by kernel_rfl) (fun _ _ _ _ h => h) rfl hS ?_
                apply Exists.intro
                apply And.intro
                · intro W9 hW9; have y0 := hW9.cell' d0; have y1 := hW9.cell' d1; have y2 := hW9.cell' d2; go_simp; try with_reducible rfl
                simp only [Act.put, List.setIfInBounds_toArray, List.set_cons_zero, List.set_cons_succ]
                refine take1 (i := 10) (some 83) rfl rfl (by kernel_rfl) (by kernel_rfl) (by kernel_rfl) (fun _ _ _ _ h => h) rfl hS ?_
                apply Exists.intro
                apply And.intro
                · intro W9 hW9; have y0 := hW9.cell' d0; have y1 := hW9.cell' d1; have y2 := hW9.cell' d2; go_simp; try with_reducible rfl
                simp only [Act.put, List.setIfInBounds_toArray, List.set_cons_zero, List.set_cons_succ]
                refine wpAnyH_ready (rs := [13]) (by kernel_rfl) (by simp) ?_
                refine AllReadyH.cons rfl (fun K hK => ?_) ?_
                rw [if_pos (by rfl)]
                refine wp_store_row0 43 _ _ rfl rfl g13 (ptV Q.h Q.is Q.pr D13) rfl rfl 43 #[.bool false, .bool false, .bool false, .int .i64 0, .int .i64 0, .slice none 0 0, .slice none 0 0, .slice none 0 0] Kg13.out (by kernel_rfl) rfl (HD13.out.one _ _ _) ?_
                replace HD13 := Lib.hid (HD13.out.row HBIG.out Kg13.out (by decide) (ptV Q.h Q.is Q.pr D13))
                replace Kg14 := Lib.hid (Kg14.out.row_other (g' := g13) (Blk.ne Kg14.out Kg13.out (by decide)) (ptV Q.h Q.is Q.pr D13))
                replace Kg13 := Lib.hid (Kg13.out.row (ptV Q.h Q.is Q.pr D13))
                refine hK.out _ _ (Bw.setRow hS Hg13.out (ptV Q.h Q.is Q.pr D13)) (fun hS => ?_)
                clear hK K
                refine wpAnyH_ready (rs := [14]) (by kernel_rfl) (by simp) ?_
                refine AllReadyH.cons rfl (fun K hK => ?_) ?_
                rw [if_pos (by rfl)]
                refine wp_store_row0 25 _ _ rfl rfl g14 (eV X) rfl rfl 25 #[.int .i64 0, .int .i64 0, .int .i64 0, .int .i64 0, .int .i64 0, .int .i64 0, .int .i64 0, .int .i64 0, .int .i64 0, .int .i64 0, .int .i64 0, .int .i64 0, .int .i64 0, .int .i64 0, .int .i64 0, .int .i64 0, .int .i64 0, .int .i64 0, .int .i64 0] Kg14.out (by kernel_rfl) rfl (by simp [Value.oneCell', eV]) ?_
                replace HD13 := Lib.hid (HD13.out.row HBIG.out Kg14.out (by decide) (eV X))
                replace Kg13 := Lib.hid (Kg13.out.row_other (g' := g14) (Blk.ne Kg13.out Kg14.out (by decide)) (eV X))
                replace Kg14 := Lib.hid (Kg14.out.row (eV X))
                refine hK.out _ _ (Bw.setRow hS Hg14.out (eV X)) (fun hS => ?_)
                clear hK K
                refine take1 (i := 15) (some 15) rfl rfl (by kernel_rfl) (by kernel_rfl) (by kernel_rfl) (fun _ _ _ _ h => h) rfl hS ?_
                apply Exists.intro
                apply And.intro
                · intro W9 hW9; have y0 := hW9.cell' d0; have y1 := hW9.cell' d1; have y2 := hW9.cell' d2; go_simp; try with_reducible rfl
                simp only [Act.put, List.setIfInBounds_toArray, List.set_cons_zero, List.set_cons_succ]
                refine take1 (i := 16) (some 16) rfl rfl (by kernel_rfl) (by kernel_rfl) (by kernel_rfl) (fun _ _ _ _ h => h) rfl hS ?_
                apply Exists.intro
                apply And.intro
                · intro W9 hW9; have y0 := hW9.cell' d0; have y1 := hW9.cell' d1; have y2 := hW9.cell' d2; go_simp; try with_reducible rfl
                simp only [Act.put, List.setIfInBounds_toArray, List.set_cons_zero, List.set_cons_succ]
                refine wpAnyH_done (by kernel_rfl) ?_ _
                rotate_left
                exact AllReadyH.nil
                exact AllReadyH.nil
                exact AllReadyH.nil
                exact AllReadyH.nil
                refine AllReadyH.cons rfl (fun K hK => ?_) ?_
                rw [if_pos (by rfl)]
                refine wp_alloc_new 25 rfl (some 14) rfl _ (zeroEp _) ?_
                intro g14 w6 hg9 hN hbw
                simp only [Act.put, List.setIfInBounds_toArray, List.set_cons_zero, List.set_cons_succ]
                have Kg14 := Lib.hid hN
                have Hg14 := Lib.hid (Nat.le_trans hS.size hg9)
                clear hN
                refine hK.out _ _ (hS.trans hbw) (fun hS => ?_)
                clear hK K
                clear hbw hg9
                refine wpAnyH_ready (rs := [5, 11]) (by kernel_rfl) (by simp) ?_
                refine AllReadyH.cons rfl (fun K hK => ?_) ?_
                go_simp
                go_wp2_with (go_at_call 21; (with_reducible refine Calls.mono (RA.out _ (HWB.out.trans hS)) ?_); rintro e1 w13 ⟨⟨D13, rfl, hd9⟩, hb13⟩)
                have HD13 := Lib.hid (show Dat3 w13 D13 Q.Z from hd9)
                clear hd9
                replace Kg14 := Lib.hid (Kg14.out.bw hb13)
                refine hK.out _ _ (hS.trans hb13) (fun hS => ?_)
                clear hK K
                clear hb13
                refine take1 (i := 6) (some 73) rfl rfl (by kernel_rfl) (by kernel_rfl) (by kernel_rfl) (fun _ _ _ _ h => h) rfl hS ?_
                apply Exists.intro
                apply And.intro
                · intro W9 hW9; have y0 := hW9.cell' d0; have y1 := hW9.cell' d1; have y2 := hW9.cell' d2; go_simp; try with_reducible rfl
                simp only [Act.put, List.setIfInBounds_toArray, List.set_cons_zero, List.set_cons_succ]
                refine take1 (i := 7) (some 80) rfl rfl (by kernel_rfl) (by kernel_rfl) (by kernel_rfl) (fun _ _ _ _ h => h) rfl hS ?_
                apply Exists.intro
                apply And.intro
                · intro W9 hW9; have y0 := hW9.cell' d0; have y1 := hW9.cell' d1; have y2 := hW9.cell' d2; go_simp; try with_reducible rfl
                simp only [Act.put, List.setIfInBounds_toArray, List.set_cons_zero, List.set_cons_succ]
                refine take1 (i := 8) (some 81) rfl rfl (by kernel_rfl) (by kernel_rfl) (by kernel_rfl) (fun _ _ _ _ h => h) rfl hS ?_
                apply Exists.intro
                apply And.intro
                · intro W9 hW9; have y0 := hW9.cell' d0; have y1 := hW9.cell' d1; have y2 := hW9.cell' d2; go_simp; try with_reducible rfl
                simp only [Act.put, List.setIfInBounds_toArray, List.set_cons_zero, List.set_cons_succ]
                refine take1 (i := 9) (some 82) rfl rfl (by kernel_rfl) (by kernel_rfl) (by kernel_rfl) (fun _ _ _ _ h => h) rfl hS ?_
                apply Exists.intro
                apply And.intro
                · intro W9 hW9; have y0 := hW9.cell' d0; have y1 := hW9.cell' d1; have y2 := hW9.cell' d2; go_simp; try with_reducible rfl
                simp only [Act.put, List.setIfInBounds_toArray, List.set_cons_zero, List.set_cons_succ]
                refine take1 (i := 10) (some 83) rfl rfl (by kernel_rfl) (by kernel_rfl) (by kernel_rfl) (fun _ _ _ _ h => h) rfl hS ?_
                apply Exists.intro
                apply And.intro
                · intro W9 hW9; have y0 := hW9.cell' d0; have y1 := hW9.cell' d1; have y2 := hW9.cell' d2; go_simp; try with_reducible rfl
                simp only [Act.put, List.setIfInBounds_toArray, List.set_cons_zero, List.set_cons_succ]
                refine wpAnyH_ready (rs := [11]) (by kernel_rfl) (by simp) ?_
                refine AllReadyH.cons rfl (fun K hK => ?_) ?_
                rw [if_pos (by rfl)]
                refine wp_alloc_new 43 rfl (some 13) rfl _ (zeroPt _) ?_
                intro g13 w5 hg9 hN hbw
                simp only [Act.put, List.setIfInBounds_toArray, List.set_cons_zero, List.set_cons_succ]
                have Kg13 := Lib.hid hN
                have Hg13 := Lib.hid (Nat.le_trans hS.size hg9)
                replace HD13 := Lib.hid (HD13.out.bw hbw)
                replace Kg14 := Lib.hid (Kg14.out.bw hbw)
                clear hN
                refine hK.out _ _ (hS.trans hbw) (fun hS => ?_)
                clear hK K
                clear hbw hg9
                refine wpAnyH_ready (rs := [13]) (by kernel_rfl) (by simp) ?_
                refine AllReadyH.cons rfl (fun K hK => ?_) ?_
                rw [if_pos (by rfl)]
                refine wp_store_row0 43 _ _ rfl rfl g13 (ptV Q.h Q.is Q.pr D13) rfl rfl 43 #[.bool false, .bool false, .bool false, .int .i64 0, .int .i64 0, .slice none 0 0, .slice none 0 0, .slice none 0 0] Kg13.out (by kernel_rfl) rfl (HD13.out.one _ _ _) ?_
                replace HD13 := Lib.hid (HD13.out.row HBIG.out Kg13.out (by decide) (ptV Q.h Q.is Q.pr D13))
                replace Kg14 := Lib.hid (Kg14.out.row_other (g' := g13) (Blk.ne Kg14.out Kg13.out (by decide)) (ptV Q.h Q.is Q.pr D13))
                replace Kg13 := Lib.hid (Kg13.out.row (ptV Q.h Q.is Q.pr D13))
                refine hK.out _ _ (Bw.setRow hS Hg13.out (ptV Q.h Q.is Q.pr D13)) (fun hS => ?_)
                clear hK K
                refine wpAnyH_ready (rs := [14]) (by kernel_rfl) (by simp) ?_
                refine AllReadyH.cons rfl (fun K hK => ?_) ?_
                rw [if_pos (by rfl)]
                refine wp_store_row0 25 _ _ rfl rfl g14 (eV X) rfl rfl 25 #[.int .i64 0, .int .i64 0, .int .i64 0, .int .i64 0, .int .i64 0, .int .i64 0, .int .i64 0, .int .i64 0, .int .i64 0, .int .i64 0, .int .i64 0, .int .i64 0, .int .i64 0, .int .i64 0, .int .i64 0, .int .i64 0, .int .i64 0, .int .i64 0, .int .i64 0] Kg14.out (by kernel_rfl) rfl (by simp [Value.oneCell', eV]) ?_
                replace HD13 := Lib.hid (HD13.out.row HBIG.out Kg14.out (by decide) (eV X))
                replace Kg13 := Lib.hid (Kg13.out.row_other (g' := g14) (Blk.ne Kg13.out Kg14.out (by decide)) (eV X))
                replace Kg14 := Lib.hid (Kg14.out.row (eV X))
                refine hK.out _ _ (Bw.setRow hS Hg14.out (eV X)) (fun hS => ?_)
                clear hK K
                refine take1 (i := 15) (some 15) rfl rfl (by kernel_rfl) (by kernel_rfl) (by kernel_rfl) (fun _ _ _ _ h => h) rfl hS ?_
                apply Exists.intro
                apply And.intro
                · intro W9 hW9; have y0 := hW9.cell' d0; have y1 := hW9.cell' d1; have y2 := hW9.cell' d2; go_simp; try with_reducible rfl
                simp only [Act.put, List.setIfInBounds_toArray, List.set_cons_zero, List.set_cons_succ]
                refine take1 (i := 16) (some 16) rfl rfl (by kernel_rfl) (by kernel_rfl) (by kernel_rfl) (fun _ _ _ _ h => h) rfl hS ?_
                apply Exists.intro
                apply And.intro
                · intro W9 hW9; have y0 := hW9.cell' d0; have y1 := hW9.cell' d1; have y2 := hW9.cell' d2; go_simp; try with_reducible rfl
                simp only [Act.put, List.setIfInBounds_toArray, List.set_cons_zero, List.set_cons_succ]
                refine wpAnyH_done (by kernel_rfl) ?_ _
                rotate_left
                exact AllReadyH.nil
                exact AllReadyH.nil
                exact AllReadyH.nil
                refine AllReadyH.cons rfl (fun K hK => ?_) ?_
                rw [if_pos (by rfl)]
                refine wp_alloc_new 43 rfl (some 13) rfl _ (zeroPt _) ?_
                intro g13 w5 hg9 hN hbw
                simp only [Act.put, List.setIfInBounds_toArray, List.set_cons_zero, List.set_cons_succ]
                have Kg13 := Lib.hid hN
                have Hg13 := Lib.hid (Nat.le_trans hS.size hg9)
                replace Kg14 := Lib.hid (Kg14.out.bw hbw)
                clear hN
                refine hK.out _ _ (hS.trans hbw) (fun hS => ?_)
                clear hK K
                clear hbw hg9
                refine wpAnyH_ready (rs := [5]) (by kernel_rfl) (by simp) ?_
                refine AllReadyH.cons rfl (fun K hK => ?_) ?_
                go_simp
                go_wp2_with (go_at_call 21; (with_reducible refine Calls.mono (RA.out _ (HWB.out.trans hS)) ?_); rintro e1 w13 ⟨⟨D13, rfl, hd9⟩, hb13⟩)
                have HD13 := Lib.hid (show Dat3 w13 D13 Q.Z from hd9)
                clear hd9
                replace Kg13 := Lib.hid (Kg13.out.bw hb13)
                replace Kg14 := Lib.hid (Kg14.out.bw hb13)
                refine hK.out _ _ (hS.trans hb13) (fun hS => ?_)
                clear hK K
                clear hb13
                refine take1 (i := 6) (some 73) rfl rfl (by kernel_rfl) (by kernel_rfl) (by kernel_rfl) (fun _ _ _ _ h => h) rfl hS ?_
                apply Exists.intro
                apply And.intro
                · intro W9 hW9; have y0 := hW9.cell' d0; have y1 := hW9.cell' d1; have y2 := hW9.cell' d2; go_simp; try with_reducible rfl
                simp only [Act.put, List.setIfInBounds_toArray, List.set_cons_zero, List.set_cons_succ]
                refine take1 (i := 7) (some 80) rfl rfl (by kernel_rfl) (by kernel_rfl) (by kernel_rfl) (fun _ _ _ _ h => h) rfl hS ?_
                apply Exists.intro
                apply And.intro
                · intro W9 hW9; have y0 := hW9.cell' d0; have y1 := hW9.cell' d1; have y2 := hW9.cell' d2; go_simp; try with_reducible rfl
                simp only [Act.put, List.setIfInBounds_toArray, List.set_cons_zero, List.set_cons_succ]
                refine take1 (i := 8) (some 81) rfl rfl (by kernel_rfl) (by kernel_rfl) (by kernel_rfl) (fun _ _ _ _ h => h) rfl hS ?_
                apply Exists.intro
                apply And.intro
                · intro W9 hW9; have y0 := hW9.cell' d0; have y1 := hW9.cell' d1; have y2 := hW9.cell' d2; go_simp; try with_reducible rfl
                simp only [Act.put, List.setIfInBounds_toArray, List.set_cons_zero, List.set_cons_succ]
                refine take1 (i := 9) (some 82) rfl rfl (by kernel_rfl) (by kernel_rfl) (by kernel_rfl) (fun _ _ _ _ h => h) rfl hS ?_
                apply Exists.intro
                apply And.intro
                · intro W9 hW9; have y0 := hW9.cell' d0; have y1 := hW9.cell' d1; have y2 := hW9.cell' d2; go_simp; try with_reducible rfl
                simp only [Act.put, List.setIfInBounds_toArray, List.set_cons_zero, List.set_cons_succ]
                refine take1 (i := 10) (some 83) rfl rfl (by kernel_rfl) (by kernel_rfl) (by kernel_rfl) (fun _ _ _ _ h => h) rfl hS ?_
                apply Exists.intro
                apply And.intro
                · intro W9 hW9; have y0 := hW9.cell' d0; have y1 := hW9.cell' d1; have y2 := hW9.cell' d2; go_simp; try with_reducible rfl
                simp only [Act.put, List.setIfInBounds_toArray, List.set_cons_zero, List.set_cons_succ]
                refine wpAnyH_ready (rs := [13]) (by kernel_rfl) (by simp) ?_
                refine AllReadyH.cons rfl (fun K hK => ?_) ?_
                rw [if_pos (by rfl)]
                refine wp_store_row0 43 _ _ rfl rfl g13 (ptV Q.h Q.is Q.pr D13) rfl rfl 43 #[.bool false, .bool false, .bool false, .int .i64 0, .int .i64 0, .slice none 0 0, .slice none 0 0, .slice none 0 0] Kg13.out (by kernel_rfl) rfl (HD13.out.one _ _ _) ?_
                replace HD13 := Lib.hid (HD13.out.row HBIG.out Kg13.out (by decide) (ptV Q.h Q.is Q.pr D13))
                replace Kg14 := Lib.hid (Kg14.out.row_other (g' := g13) (Blk.ne Kg14.out Kg13.out (by decide)) (ptV Q.h Q.is Q.pr D13))
                replace Kg13 := Lib.hid (Kg13.out.row (ptV Q.h Q.is Q.pr D13))
                refine hK.out _ _ (Bw.setRow hS Hg13.out (ptV Q.h Q.is Q.pr D13)) (fun hS => ?_)
                clear hK K
                refine wpAnyH_ready (rs := [14]) (by kernel_rfl) (by simp) ?_
                refine AllReadyH.cons rfl (fun K hK => ?_) ?_
                rw [if_pos (by rfl)]
                refine wp_store_row0 25 _ _ rfl rfl g14 (eV X) rfl rfl 25 #[.int .i64 0, .int .i64 0, .int .i64 0, .int .i64 0, .int .i64 0, .int .i64 0, .int .i64 0, .int .i64 0, .int .i64 0, .int .i64 0, .int .i64 0, .int .i64 0, .int .i64 0, .int .i64 0, .int .i64 0, .int .i64 0, .int .i64 0, .int .i64 0, .int .i64 0] Kg14.out (by kernel_rfl) rfl (by simp [Value.oneCell', eV]) ?_
                replace HD13 := Lib.hid (HD13.out.row HBIG.out Kg14.out (by decide) (eV X))
                replace Kg13 := Lib.hid (Kg13.out.row_other (g' := g14) (Blk.ne Kg13.out Kg14.out (by decide)) (eV X))
                replace Kg14 := Lib.hid (Kg14.out.row (eV X))
                refine hK.out _ _ (Bw.setRow hS Hg14.out (eV X)) (fun hS => ?_)
                clear hK K
                refine take1 (i := 15) (some 15) rfl rfl (by kernel_rfl) (by kernel_rfl) (by kernel_rfl) (fun _ _ _ _ h => h) rfl hS ?_
                apply Exists.intro
                apply And.intro
                · intro W9 hW9; have y0 := hW9.cell' d0; have y1 := hW9.cell' d1; have y2 := hW9.cell' d2; go_simp; try with_reducible rfl
                simp only [Act.put, List.setIfInBounds_toArray, List.set_cons_zero, List.set_cons_succ]
                refine take1 (i := 16) (some 16) rfl rfl (by kernel_rfl) (by kernel_rfl) (by kernel_rfl) (fun _ _ _ _ h => h) rfl hS ?_
                apply Exists.intro
                apply And.intro
                · intro W9 hW9; have y0 := hW9.cell' d0; have y1 := hW9.cell' d1; have y2 := hW9.cell' d2; go_simp; try with_reducible rfl
                simp only [Act.put, List.setIfInBounds_toArray, List.set_cons_zero, List.set_cons_succ]
                refine wpAnyH_done (by kernel_rfl) ?_ _
                rotate_left
                exact AllReadyH.nil
                exact AllReadyH.nil
                exact AllReadyH.nil
                exact AllReadyH.nil
                exact AllReadyH.nil
                all_goals
                  go_wp2
                  go_meet
                  exact ⟨g13, g14, D13, by have := Hg13.out; have := KM.out.lt; omega, rfl, rfl, rfl, rfl, rfl, Lib.hid (HWB.out.trans hS), Lib.hid hS, Kg13, Kg14, HD13⟩
              case rest =>
                obtain ⟨g13, g14, D13, hg13, rfl, rfl, rfl, rfl, rfl, HWX, HVX, Kg13, Kg14, HD13⟩ := hcut
                have hb9 := HVX.out
                replace HDA := Lib.hid (HDA.out.bw hb9)
                replace HDB := Lib.hid (HDB.out.bw hb9)
                replace KN := Lib.hid (KN.out.bw hb9)
                replace KM := Lib.hid (KM.out.bw hb9)
                replace Kg9 := Lib.hid (Kg9.out.bw hb9)
                replace Kg10 := Lib.hid (Kg10.out.bw hb9)
                replace HD9 := Lib.hid (HD9.out.bw hb9)
                replace HWB := HWX
                clear hb9 HWX HVX d0 d1 d2 AD RA
                have HLE := Lib.hid (show g7 < g9 ∧ g7 < g13 from ⟨hg9, hg13⟩)
                have SPA := Lib.hid (fun W (q : Bw wc W) => sameParts_any Q.h Q.is Q.pr D9 D13 Q.Z W (fun j hj => (HD9.out j hj).1.mono q) (fun j hj => (HD13.out j hj).1.mono q))
                have SPB := Lib.hid (fun W (q : Bw wc W) => sameParts_any P.h P.is P.pr Da Db P.Z W (fun j hj => (HDA.out j hj).1.mono q) (fun j hj => (HDB.out j hj).1.mono q))
                have hq1 := fun W => eqE_self X W
                have hq2 := fun W op x y => eqE_guard X X op x y W
                have HSZ : Hid ((Try.prog.info? 25).map (·.size) = some (eV X).size) := Lib.hid (by kernel_rfl)
                generalize eV X = A at *
                have hbb : (dn != dn) = false := by simp
                have hbe : (er != er) = false := by simp
                have HWC := Lib.hid (Bw.refl wc)
                go_upto_region 16 with (first | ((with_reducible refine at_load 43 (.tmp 9) ?_); refine wpList_load_roww 43 _ rfl g9 rfl 43 (ptV Q.h Q.is Q.pr D9) (0, 0) _ Kg9.out Try.underlying43 rfl (by kernel_rfl) (by rfl) ?_) | ((with_reducible refine at_load 43 (.tmp 13) ?_); refine wpList_load_roww 43 _ rfl g13 rfl 43 (ptV Q.h Q.is Q.pr D13) (0, 0) _ Kg13.out Try.underlying43 rfl (by kernel_rfl) (by rfl) ?_) | ((with_reducible refine at_load 25 (.tmp 10) ?_); refine wpList_load_roww 25 _ rfl g10 rfl 25 A (0, 0) _ Kg10.out Try.underlying25 rfl HSZ.out (by rfl) ?_) | ((with_reducible refine at_load 25 (.tmp 14) ?_); refine wpList_load_roww 25 _ rfl g14 rfl 25 A (0, 0) _ Kg14.out Try.underlying25 rfl HSZ.out (by rfl) ?_) | ((with_reducible refine at_load 43 (.tmp 5) ?_); refine wpList_load_roww 43 _ rfl g5 rfl 43 (ptV P.h P.is P.pr Da) (0, 0) _ KN.out Try.underlying43 rfl (by kernel_rfl) (by rfl) ?_) | ((with_reducible refine at_load 43 (.tmp 7) ?_); refine wpList_load_roww 43 _ rfl g7 rfl 43 (ptV P.h P.is P.pr Db) (0, 0) _ KM.out Try.underlying43 rfl (by kernel_rfl) (by rfl) ?_) | (go_at_call 22; (first | (with_reducible refine Calls.mono (SPA.out _ HWC.out) ?_) | (with_reducible refine Calls.mono (SPB.out _ HWC.out) ?_)); rintro e1 s1 ⟨rfl, hb9⟩; replace HWC := Lib.hid (HWC.out.trans hb9); replace KN := Lib.hid (KN.out.bw hb9); replace KM := Lib.hid (KM.out.bw hb9); replace Kg9 := Lib.hid (Kg9.out.bw hb9); replace Kg10 := Lib.hid (Kg10.out.bw hb9); replace Kg13 := Lib.hid (Kg13.out.bw hb9); replace Kg14 := Lib.hid (Kg14.out.bw hb9); replace HWB := Lib.hid (HWB.out.trans hb9); clear hb9))
                replace HDA := Lib.hid (HDA.out.bw HWC.out)
                replace HDB := Lib.hid (HDB.out.bw HWC.out)
                replace HD9 := Lib.hid (HD9.out.bw HWC.out)
                replace HD13 := Lib.hid (HD13.out.bw HWC.out)
                clear SPA SPB hq1 hq2 HWC
                by_cases q0 : er = 0
                · have q0b : (er == 0) = true := by simpa using q0
                  clear q0
                  go_upto_region 17 with fail
                  refine wp_region_held_drew (S := fun W => Bw w W ∧ Blk W g9 43 (ptV Q.h Q.is Q.pr D9) ∧ Blk W g13 43 (ptV Q.h Q.is Q.pr D13)) (by kernel_rfl) ⟨Bw.drew (HBW.out.trans HWB.out), Kg9.out.bw (Bw.drew (Bw.refl _)), Kg13.out.bw (Bw.drew (Bw.refl _))⟩ (fun hS => ?_)
                  replace KN := Lib.hid (KN.out.bw (Bw.drew (Bw.refl _)))
                  replace KM := Lib.hid (KM.out.bw (Bw.drew (Bw.refl _)))
                  replace HD9 := Lib.hid (HD9.out.bw (Bw.drew (Bw.refl _)))
                  replace HD13 := Lib.hid (HD13.out.bw (Bw.drew (Bw.refl _)))
                  generalize World.drew _ = wd at hS KN KM HD9 HD13 ⊢
                  refine take1 (i := 0) (some 111) rfl rfl (by kernel_rfl) (by kernel_rfl) (by kernel_rfl) (fun _ _ _ _ h => h) rfl hS ?_
                  refine Exists.intro (.agg (ptV Q.h Q.is Q.pr D9)) ?_
                  apply And.intro
                  · intro W9 hW9; skip; exact run_load_row 43 _ rfl g9 rfl 43 (ptV Q.h Q.is Q.pr D9) _ hW9.2.1 Try.underlying43 rfl (by kernel_rfl)
                  simp only [Act.put, List.setIfInBounds_toArray, List.set_cons_zero, List.set_cons_succ]
                  refine take1 (i := 1) (some 112) rfl rfl (by kernel_rfl) (by kernel_rfl) (by kernel_rfl) (fun _ _ _ _ h => h) rfl hS ?_
                  refine Exists.intro (.agg (ptV Q.h Q.is Q.pr D13)) ?_
                  apply And.intro
                  · intro W9 hW9; skip; exact run_load_row 43 _ rfl g13 rfl 43 (ptV Q.h Q.is Q.pr D13) _ hW9.2.2 Try.underlying43 rfl (by kernel_rfl)
                  simp only [Act.put, List.setIfInBounds_toArray, List.set_cons_zero, List.set_cons_succ]
                  refine wpAnyH_ready (rs := [2]) (by kernel_rfl) (by simp) ?_
                  refine AllReadyH.cons rfl (fun K hK => ?_) ?_
                  rw [if_pos (by rfl)]
                  refine wp_store_row0 43 _ _ rfl rfl g5 (ptV Q.h Q.is Q.pr D9) rfl rfl 43 (ptV P.h P.is P.pr Da) KN.out (by kernel_rfl) rfl (HD9.out.one _ _ _) ?_
                  replace HD9 := Lib.hid (HD9.out.row HBIG.out KN.out (show ((ptV P.h P.is P.pr Da)).size ≤ 19 from (by decide : 8 ≤ 19)) (ptV Q.h Q.is Q.pr D9))
                  replace HD13 := Lib.hid (HD13.out.row HBIG.out KN.out (show ((ptV P.h P.is P.pr Da)).size ≤ 19 from (by decide : 8 ≤ 19)) (ptV Q.h Q.is Q.pr D9))
                  replace KM := Lib.hid (KM.out.row_other (g' := g5) (by have := H7.out; omega) (ptV Q.h Q.is Q.pr D9))
                  replace KN := Lib.hid (KN.out.row (ptV Q.h Q.is Q.pr D9))
                  refine hK.out _ _ ⟨Bw.setRow hS.1 (by have := H7.out; have := H5.out; have := HG.out; omega) (ptV Q.h Q.is Q.pr D9), hS.2.1.row_other (by have := HLE.out; have := H7.out; omega) (ptV Q.h Q.is Q.pr D9), hS.2.2.row_other (by have := HLE.out; have := H7.out; omega) (ptV Q.h Q.is Q.pr D9)⟩ (fun hS => ?_)
                  clear hK K
                  refine wpAnyH_ready (rs := [3]) (by kernel_rfl) (by simp) ?_
                  refine AllReadyH.cons rfl (fun K hK => ?_) ?_
                  rw [if_pos (by rfl)]
                  refine wp_store_row0 43 _ _ rfl rfl g7 (ptV Q.h Q.is Q.pr D13) rfl rfl 43 (ptV P.h P.is P.pr Db) KM.out (by kernel_rfl) rfl (HD13.out.one _ _ _) ?_
                  replace HD9 := Lib.hid (HD9.out.row HBIG.out KM.out (show ((ptV P.h P.is P.pr Db)).size ≤ 19 from (by decide : 8 ≤ 19)) (ptV Q.h Q.is Q.pr D13))
                  replace HD13 := Lib.hid (HD13.out.row HBIG.out KM.out (show ((ptV P.h P.is P.pr Db)).size ≤ 19 from (by decide : 8 ≤ 19)) (ptV Q.h Q.is Q.pr D13))
                  replace KN := Lib.hid (KN.out.row_other (g' := g7) (by have := H7.out; omega) (ptV Q.h Q.is Q.pr D13))
                  replace KM := Lib.hid (KM.out.row (ptV Q.h Q.is Q.pr D13))
                  refine hK.out _ _ ⟨Bw.setRow hS.1 (by have := H7.out; have := H5.out; have := HG.out; omega) (ptV Q.h Q.is Q.pr D13), hS.2.1.row_other (by have := HLE.out; have := H7.out; omega) (ptV Q.h Q.is Q.pr D13), hS.2.2.row_other (by have := HLE.out; have := H7.out; omega) (ptV Q.h Q.is Q.pr D13)⟩ (fun hS => ?_)
                  clear hK K
                  refine wpAnyH_done (by kernel_rfl) ?_ _
                  rotate_left
                  exact AllReadyH.nil
                  exact AllReadyH.nil
                  go_wp2
                  go_roundg (m - (i + 1))
                  case measure => omega
                  case rel => exact ⟨i + 1, by omega, by omega, by go_num, Lib.hid hS.1, Q, D9, D13, KN, KM, HD9, HD13⟩
                · have q0b : (er == 0) = false := by simpa using q0
                  clear q0
                  go_wp2
                  go_roundg (m - (i + 1))
                  case measure => omega
                  case rel => exact ⟨i + 1, by omega, by omega, by go_num, Lib.hid (HBW.out.trans HWB.out), P, Da, Db, KN, KM, HDA, HDB⟩
          · obtain rfl : i = m := by omega
            have hiz : ¬ (i : Int) < i := by omega
            go_wp2_with (go_at_call 16; (with_reducible refine Calls.mono (AW.out _) ?_); rintro e2 w2 ⟨rfl, hb2⟩)
            go_ret
            exact ⟨rfl, HBW.out.trans hb2⟩
end Go.Proofs.Sky
