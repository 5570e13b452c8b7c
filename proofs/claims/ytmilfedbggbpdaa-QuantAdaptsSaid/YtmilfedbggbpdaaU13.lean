/-
  lemmas for the theorems of this claim. No conditions beyond those written in the statements.
-/
import Derived.Test.YtmilfedbggbpdaaT13
set_option linter.unusedVariables false
set_option linter.unusedSimpArgs false
set_option linter.unnecessarySimpa false
namespace Go.Proofs.Sky
open Go Go.RowKit
set_option maxHeartbeats 1000000
theorem Counts_any (b s : Int) (ps : List (Int × Int)) (v : Value) (w : World) (hv : RdS w v ps) :
    Calls Try.prog 21 #[v, .agg #[.int .i64 b, .int .i64 s]] w fun e w' => CntS w.heap.size b s ps e w' ∧ Bw w w' := by
  have HQ := Lib.hid (fun w v hv => Quantise_any b s ps v w hv)
  have HV := Lib.hid hv
  obtain ⟨a0, c0, rfl⟩ := hv.form
  clear hv
  by_cases he : errQ b s ps = 0
  · obtain ⟨q1, q2⟩ := q_ok he
    have hG : 2 ≤ b ∧ b ≤ 8 ∧ 0 ≤ s ∧ s ≤ 30 := by
      by_cases h : 2 ≤ b ∧ b ≤ 8 ∧ 0 ≤ s ∧ s ≤ 30
      · exact h
      · rw [errQ_bad ps h] at he; cases he
    have hl := (errS_zero ((errQ_good ps hG).symm.trans he)).1
    have HE := Lib.hid (show errQ b s ps = 0 ∧ cntL b s ps = cntTo (gq b) (lvS b s ps) from ⟨he, by unfold cntL; rw [if_pos he]⟩)
    have ⟨g1, g2⟩ := gq_bd b hG.1 hG.2.1
    have HB := Lib.hid (lvS_bd b s hG.1 hG.2.1 ps)
    have hlen := lvS_len b s ps
    unfold QuantS at HQ
    rw [he, q1, q2] at HQ
    clear he q1 q2
    obtain ⟨h1, h2, h3, h4⟩ := hG
    obtain ⟨N, hN⟩ : ∃ N : Nat, 2 * gq b + 1 = N := ⟨(2 * gq b + 1).toNat, by omega⟩
    have hmk := make39 _ N hN (by omega)
    have hN1 : 2 * gq b + 1 ≤ N := by omega
    have hN2 : (N : Int) ≤ 2 * gq b + 1 := by omega
    have HNN := Lib.hid hN; clear hN
    generalize lvS b s ps = ls at HQ HE HB hlen
    obtain ⟨n, hn⟩ : ∃ n, n = ls.length := ⟨_, rfl⟩
    have hnb : n ≤ 1048576 := by omega
    clear hlen hl
    go_enter Try.func21, Try.ntmps21
    go_wp2_with (first | (go_at_call 17; refine (HQ.out _ _ (HV.out.mono (by repeat (first | exact Bw.refl _ | assumption | refine Bw.alloc ?_ _ | refine Bw.drew ?_ | refine Bw.trans ?_ (by assumption) | refine Bw.setCell ?_ (by simp; try omega) _)))).mono ?_; rintro e w1 ⟨⟨v', rfl, hr, _⟩, hb⟩; obtain ⟨a1, c1, rfl⟩ := hr.form; have HR := Lib.hid hr; clear hr; obtain ⟨hcc, hff⟩ := Bw.cells hb; have hsz := Bw.size hb; have hz0 : w.heap.size < w1.heap.size := by (try simp at hsz); omega) | (go_at_call 38; refine (greatest_any b s h1 h2 _).mono ?_; rintro e w2 ⟨rfl, hb2⟩; obtain ⟨hcc2, hff2⟩ := Bw.cells hb2; have hsz2 := Bw.size hb2; have hz12 : w1.heap.size < w2.heap.size := by simp at hsz2; omega))
    have hbw2 : Bw w w2 := (by repeat (first | exact Bw.refl _ | assumption | refine Bw.alloc ?_ _ | refine Bw.drew ?_ | refine Bw.trans ?_ (by assumption) | refine Bw.setCell ?_ (by simp; try omega) _))
    have HBW := Lib.hid hbw2; clear hbw2
    have k6 : w2.cell? ⟨w1.heap.size, 0, none⟩ = some (.slice a1 ls.length c1) := by simp [*, go_sem]
    have hz1 : w1.heap.size < w2.heap.size := by simp at hsz2; omega
    have hR2 := HR.out.mono (show Bw w1 w2 from Bw.trans (Bw.alloc (Bw.refl _) _) hb2)
    have HR2 := Lib.hid hR2; clear hR2 HR
    have HO : Hid ((w2.alloc (.cells (madeCells #[.int .i64 0] N) 3)).ownsRow w.heap.size 3 1 (.slice (some ⟨w2.heap.size, 0, none⟩) N N) N ((cntTo (gq b) (ls.take 0)).map (Value.int .i64))) := by
      refine Lib.hid ?_
      have h := (World.ownsRow_lit (base := w.heap.size) (e := 3) (size := 1) w2 (madeCells #[Value.int IntKind.i64 0] N) N (by omega) (by unfold maxLen; omega) (by simp [madeCells]))
      rw [toList_madeCells_one] at h
      simpa [cntTo, HNN.out] using h
    rw [← hn] at k6 HR2 ⊢
    have HN := Lib.hid hn; clear hn
    clear hcc hff hcc2 hff2 hmk HQ HV
    go_loopg [32] n (fun gg s10 wr => ∃ k : Nat, k ≤ n ∧ n - k ≤ gg ∧ s10 = .int .i64 k ∧ Hid (Bw w wr) ∧ Hid (Bw w2 wr) ∧ w2.heap.size < wr.heap.size ∧ Hid (wr.ownsRow w.heap.size 3 1 (.slice (some ⟨w2.heap.size, 0, none⟩) N N) N ((cntTo (gq b) (ls.take k)).map (Value.int .i64))))
    case atStart => exact ⟨0, Nat.zero_le _, by omega, rfl, Bw.alloc HBW.out _, Bw.alloc (Bw.refl _) _, by simp, HO.out⟩
    case round =>
      obtain ⟨k, hk, hg, rfl, hbw, hbw2, hsr, hown⟩ := hrel
      have k7 : wr.cell? ⟨w1.heap.size, 0, none⟩ = some (.slice a1 n c1) := (hbw2.out.cells.1 _ _ hz1).trans k6
      by_cases hlt : k < n
      · have hltz : (k : Int) < (n : Int) := by omega
        have hq := HN.out
        obtain ⟨_, a2, c2, ha, hr4⟩ := HR2.out
        simp only [Value.slice.injEq] at ha
        obtain ⟨rfl, hz9, rfl⟩ := ha
        clear hz9
        obtain ⟨bb, off, rfl, hbb, hc⟩ := hr4.resolve_left (by intro h; rw [h] at hq; simp at hq; omega)
        obtain ⟨d1, d2⟩ := hc k (by omega)
        rw [← hbw2.out.cells.1 _ _ hbb] at d1 d2
        have hm := HB.out _ (getD_mem ls k (0, 0) (by omega))
        have HS := Lib.hid (congrArg (cntTo (gq b)) (take_snoc' ls k (0, 0) (by omega)))
        generalize hx : ls.getD k (0, 0) = x at d1 d2 hm HS
        clear hx hc hr4 hq
        obtain ⟨x1, x2⟩ := x
        obtain ⟨⟨i1, i2⟩, i3, i4⟩ := hm
        have hs := HS.out
        rw [cntTo_snoc] at hs
        have HS2 := Lib.hid hs; clear hs HS
        have hb0 := cntTo_bd (gq b) (ls.take k)
        have hl0 := cntTo_len (gq b) (ls.take k)
        have htk : ((ls.take k).length : Int) ≤ k := by have := List.length_take_le k ls; omega
        have hb1 := bump_bd _ (x1 + gq b) _ hb0
        have hl1 := bump_len (cntTo (gq b) (ls.take k)) (x1 + gq b)
        obtain ⟨C, hC0, hC1, hC2⟩ : ∃ C : Nat → List Int, C 0 = cntTo (gq b) (ls.take k) ∧ C 1 = bump (C 0) (x1 + gq b) ∧ C 2 = bump (C 1) (x2 + gq b) :=
          ⟨fun j => if j = 0 then cntTo (gq b) (ls.take k) else if j = 1 then bump (cntTo (gq b) (ls.take k)) (x1 + gq b) else bump (bump (cntTo (gq b) (ls.take k)) (x1 + gq b)) (x2 + gq b), rfl, rfl, rfl⟩
        have hown' := hown.out
        rw [← hC0] at hown' hb0 hl0 hb1 hl1 HS2
        rw [← hC1] at hb1 hl1 HS2
        rw [← hC2] at HS2
        have HC0 := Lib.hid hown'; clear hown'
        have HCC := Lib.hid (And.intro hC1 hC2); clear hC0 hC1 hC2
        have ⟨u1, u2⟩ := hb0 (x1 + gq b).toNat
        have ⟨u3, u4⟩ := hb1 (x2 + gq b).toNat
        clear hb0 hb1
        have i0 : ∀ w, (Instr.index 65 (.agg #[.int .i64 x1, .int .i64 x2]) (.int .i64 0)).run Try.prog w = .ok (.int .i64 x1) w := fun _ => by kernel_rfl
        have i1' : ∀ w, (Instr.index 65 (.agg #[.int .i64 x1, .int .i64 x2]) (.int .i64 1)).run Try.prog w = .ok (.int .i64 x2) w := fun _ => by kernel_rfl
        have hbbr : bb < wr.heap.size := by omega
        go_wp2_with (go_at_call 41; refine (parts_any _ _ _).mono ?_; rintro e w3 ⟨rfl, hb3⟩)
        have b3 : Bw wr w3 := Bw.trans (Bw.alloc (Bw.refl _) _) hb3
        have bq : Bw w w3 := Bw.trans hbw.out b3
        have bq2 : Bw w2 w3 := Bw.trans hbw2.out b3
        have hs3 : w2.heap.size < w3.heap.size := by have := hb3.size; simp at this; omega
        have HC3 := Lib.hid (own_bw HC0.out b3)
        have HBQ := Lib.hid (And.intro bq bq2)
        clear bq bq2 b3 hb3 d1 d2 k7
        go_loopg [13, 38] 2 (fun g2 _ s38 wi => ∃ j : Nat, j ≤ 2 ∧ 2 - j ≤ g2 ∧ s38 = .int .i64 j ∧ Hid (Bw w wi) ∧ Hid (Bw w2 wi) ∧ w2.heap.size < wi.heap.size ∧ Hid (wi.ownsRow w.heap.size 3 1 (.slice (some ⟨w2.heap.size, 0, none⟩) N N) N ((C j).map (Value.int .i64))))
        case atStart => exact ⟨0, by omega, by omega, rfl, HBQ.out.1, HBQ.out.2, hs3, HC3.out⟩
        case round =>
          obtain ⟨j, hj, hg2, rfl, hbi, hbi2, hsi, hCj⟩ := hrel
          obtain rfl | rfl | rfl : j = 0 ∨ j = 1 ∨ j = 2 := by omega
          · have s1 : wr.cell? ⟨w2.heap.size, (x1 + gq b).toNat, none⟩ = some (.int .i64 ((C 0).getD (x1 + gq b).toNat 0)) := by
              rw [hCj.out.cellAt _ (by omega), List.getElem?_map, List.getElem?_eq_getElem (by omega), List.getD_eq_getElem?_getD, List.getElem?_eq_getElem (by omega)]; rfl
            have y1 := hCj.out.frozenAt (x1 + gq b).toNat
            have o1 := (hCj.out.stored (x1 + gq b).toNat (.int .i64 ((C 0).getD (x1 + gq b).toNat 0 + 1))).1
            rw [map_bump, ← HCC.out.1] at o1
            have O1 := Lib.hid o1; clear o1
            generalize (C 0).getD (x1 + gq b).toNat 0 = z1 at s1 u1 u2 O1
            go_wp2
            go_roundg 1
            case measure => omega
            case rel =>
              have bi := hbi.out
              have bi2 := hbi2.out
              exact ⟨1, by omega, by omega, rfl, Bw.setCell bi (by simp; omega) _, Bw.setCell bi2 (by simp) _, by simp; omega, O1.out⟩
          · have s1 : wr.cell? ⟨w2.heap.size, (x2 + gq b).toNat, none⟩ = some (.int .i64 ((C 1).getD (x2 + gq b).toNat 0)) := by
              rw [hCj.out.cellAt _ (by omega), List.getElem?_map, List.getElem?_eq_getElem (by omega), List.getD_eq_getElem?_getD, List.getElem?_eq_getElem (by omega)]; rfl
            have y1 := hCj.out.frozenAt (x2 + gq b).toNat
            have o1 := (hCj.out.stored (x2 + gq b).toNat (.int .i64 ((C 1).getD (x2 + gq b).toNat 0 + 1))).1
            rw [map_bump, ← HCC.out.2] at o1
            have O1 := Lib.hid o1; clear o1
            generalize (C 1).getD (x2 + gq b).toNat 0 = z1 at s1 u3 u4 O1
            go_wp2
            go_roundg 0
            case measure => omega
            case rel =>
              have bi := hbi.out
              have bi2 := hbi2.out
              exact ⟨2, by omega, by omega, rfl, Bw.setCell bi (by simp; omega) _, Bw.setCell bi2 (by simp) _, by simp; omega, O1.out⟩
          · go_wp2
            go_roundg (n - (k + 1))
            case measure => omega
            case rel => exact ⟨k + 1, by omega, by omega, by go_num, hbi.out, hbi2.out, hsi, by rw [HS2.out]; exact hCj.out⟩
      · have hltz : ¬ (k : Int) < (n : Int) := by omega
        have : k = n := by omega
        subst this
        go_wp2
        go_ret2
        have ho := hown.out
        rw [List.take_of_length_le (by have := HN.out; omega)] at ho
        have hl0 := cntTo_len (gq b) ls
        have hN' : N = (cntTo (gq b) ls).length := by omega
        subst hN'
        exact ⟨⟨_, by rw [HE.out.1]; rfl, by rw [HE.out.2]; exact own_rdI ho (by omega), Fresh.at (by omega)⟩, hbw.out⟩
  · have HE := Lib.hid (show cntL b s ps = [] by unfold cntL; rw [if_neg he])
    have hne : (errQ b s ps != 0) = true := by simpa using he
    obtain ⟨q1, q2⟩ := q_err he
    unfold QuantS at HQ
    rw [q1, q2] at HQ
    clear he q1 q2
    go_enter Try.func21, Try.ntmps21
    go_wp2_with (go_at_call 17; refine (HQ.out _ _ (HV.out.mono (by repeat (first | exact Bw.refl _ | assumption | refine Bw.alloc ?_ _ | refine Bw.drew ?_ | refine Bw.trans ?_ (by assumption) | refine Bw.setCell ?_ (by simp; try omega) _)))).mono ?_; rintro e w1 ⟨⟨v', rfl, hr, _⟩, hb⟩; obtain ⟨a1, c1, rfl⟩ := hr.form; clear hr; obtain ⟨hcc, hff⟩ := Bw.cells hb; have hsz := Bw.size hb)
    go_ret2
    exact ⟨⟨.slice none 0 0, rfl, by rw [HE.out]; exact RdI.nil _, Fresh.nil _ _ _⟩, (by repeat (first | exact Bw.refl _ | assumption | refine Bw.alloc ?_ _ | refine Bw.drew ?_ | refine Bw.trans ?_ (by assumption) | refine Bw.setCell ?_ (by simp; try omega) _))⟩
end Go.Proofs.Sky
