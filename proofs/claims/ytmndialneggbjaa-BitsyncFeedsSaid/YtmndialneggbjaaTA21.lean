/-
  lemmas for the theorems of this claim. No conditions beyond those written in the statements.
-/
import Derived.Test.YtmndialneggbjaaQA21
import Derived.BigRegion
set_option linter.unusedVariables false
set_option linter.unusedSimpArgs false
set_option linter.unnecessarySimpa false
namespace Go.Proofs.Sky
open Go Go.RowKit Go.Shelf
set_option maxHeartbeats 4000000
set_option maxRecDepth 4000
theorem rInside_any (x y : Int) (w : World) : Calls Try.prog 34 #[.agg #[.int .i64 x, .int .i64 y]] w fun e w' => e = .returned (.bool (insP (x, y))) ∧ Bw w w' := by
  have HF := Lib.hid (show insP (x, y) = decide (-1048576 ≤ x ∧ x ≤ 1048576 ∧ -1048576 ≤ y ∧ y ≤ 1048576) from rfl)
  go_enter Try.func34, Try.ntmps34
  go_wp2
  all_goals (go_ret; refine ⟨ret_bool ?_, (by repeat (first | exact Bw.refl _ | assumption | refine Bw.alloc ?_ _ | refine Bw.drew ?_ | refine Bw.trans ?_ (by assumption) | refine Bw.setCell ?_ (by simp; try omega) _))⟩; rw [HF.out]; first | (rw [decide_eq_decide]; omega) | (symm; rw [decide_eq_true_iff]; omega) | (symm; rw [decide_eq_false_iff_not]; omega))
theorem rScalar2_any (a b c d : Int) (w : World) (h : (-33554432 ≤ a ∧ a ≤ 33554432) ∧ -33554432 ≤ b ∧ b ≤ 33554432) (h2 : (-33554432 ≤ c ∧ c ≤ 33554432) ∧ -33554432 ≤ d ∧ d ≤ 33554432) : Calls Try.prog 36 #[.agg #[.int .i64 a, .int .i64 b], .agg #[.int .i64 c, .int .i64 d]] w fun e w' => e = .returned (.int .i64 (scl (a, b) (c, d))) ∧ Bw w w' := by
  have HF := Lib.hid (show scl (a, b) (c, d) = a * c + b * d from rfl)
  obtain ⟨⟨a1, a2⟩, a3, a4⟩ := h
  obtain ⟨⟨b1, b2⟩, b3, b4⟩ := h2
  have ⟨m1, m2⟩ := mul_bd3 a c 33554432 33554432 (by omega) (by omega) (by omega) (by omega)
  have ⟨m3, m4⟩ := mul_bd3 b d 33554432 33554432 (by omega) (by omega) (by omega) (by omega)
  go_enter Try.func36, Try.ntmps36
  go_wp2
  go_ret
  exact ⟨ret_int HF.out.symm, (by repeat (first | exact Bw.refl _ | assumption | refine Bw.alloc ?_ _ | refine Bw.drew ?_ | refine Bw.trans ?_ (by assumption) | refine Bw.setCell ?_ (by simp; try omega) _))⟩
theorem rValues_range (a : Option Addr) (n c : Nat) (p at_ : Int) (w : World) (h : p < 1 ∨ 20 < p ∨ at_ < 0 ∨ p ≤ at_) :
    Calls Try.prog 11 #[.slice a n c, .int .i64 p, .int .i64 at_] w fun e w' => VaP w.heap.size [] 2 e w' ∧ Bw w w' := by
  by_cases h1 : p < 1
  · clear h
    go_enter Try.func11, Try.ntmps11
    go_wp2
    refine bodyPost_ret (v := .tuple #[.slice none 0 0, .int .i64 2]) ?_ rfl ⟨vaP_nil _ _ _, Bw.refl w⟩
    simp [results, Try.results11, go_sem]
  by_cases h2 : 20 < p
  · clear h
    go_enter Try.func11, Try.ntmps11
    go_wp2
    refine bodyPost_ret (v := .tuple #[.slice none 0 0, .int .i64 2]) ?_ rfl ⟨vaP_nil _ _ _, Bw.refl w⟩
    simp [results, Try.results11, go_sem]
  by_cases h3 : at_ < 0
  · clear h
    go_enter Try.func11, Try.ntmps11
    go_wp2
    refine bodyPost_ret (v := .tuple #[.slice none 0 0, .int .i64 2]) ?_ rfl ⟨vaP_nil _ _ _, Bw.refl w⟩
    simp [results, Try.results11, go_sem]
  · have h4 : p ≤ at_ := by omega
    clear h
    go_enter Try.func11, Try.ntmps11
    go_wp2
    refine bodyPost_ret (v := .tuple #[.slice none 0 0, .int .i64 2]) ?_ rfl ⟨vaP_nil _ _ _, Bw.refl w⟩
    simp [results, Try.results11, go_sem]
theorem rValues_long (a : Option Addr) (n c : Nat) (p at_ : Int) (w : World) (h1 : 1 ≤ p) (h2 : p ≤ 20) (h3 : 0 ≤ at_) (h4 : at_ < p) (hl : 10000 < n) :
    Calls Try.prog 11 #[.slice a n c, .int .i64 p, .int .i64 at_] w fun e w' => VaP w.heap.size [] 4 e w' ∧ Bw w w' := by
  have q1 : ¬ p < 1 := by omega
  have q2 : ¬ 20 < p := by omega
  have q3 : ¬ at_ < 0 := by omega
  have q4 : ¬ p ≤ at_ := by omega
  have q5 : (10000 : Int) < n := by omega
  go_enter Try.func11, Try.ntmps11
  go_wp2
  refine bodyPost_ret (v := .tuple #[.slice none 0 0, .int .i64 4]) ?_ rfl ⟨vaP_nil _ _ _, Bw.refl w⟩
  simp [results, Try.results11, go_sem]
theorem all_of_getD (l : List (Int × Int)) (h : ∀ i, i < l.length → insP (l.getD i (0, 0)) = true) : l.all insP = true := by
  rw [List.all_eq_true]
  intro a ha
  obtain ⟨i, hi, rfl⟩ := List.mem_iff_getElem.1 ha
  have := h i hi
  rw [List.getD_eq_getElem?_getD, List.getElem?_eq_getElem hi] at this
  exact this
theorem sumP_next (l : List (Int × Int)) (k c : Nat) (h : k + c < l.length) : sumP ((l.drop k).take (c + 1)) = ((sumP ((l.drop k).take c)).1 + (l.getD (k + c) (0, 0)).1, (sumP ((l.drop k).take c)).2 + (l.getD (k + c) (0, 0)).2) := by
  have h1 : c < (l.drop k).length := by rw [List.length_drop]; omega
  rw [List.take_add_one, List.getElem?_eq_getElem h1]
  simp only [Option.toList_some]
  rw [sumP_snoc, List.getElem_drop, List.getD_eq_getElem?_getD, List.getElem?_eq_getElem h]
  rfl
theorem rValues_main (l : List (Int × Int)) (v : Value) (p at_ : Nat) (w : World) (hv : RdS w v l) (h1 : 1 ≤ p) (h2 : p ≤ 20) (h4 : at_ < p) (hl : l.length ≤ 10000) (VR : List (Int × Int) × Int)
    (hB : l.all insP = false → VR = ([], 2)) (hG : l.all insP = true → VR = (valsL l p at_, if valsL l p at_ = [] then 16 else 0)) :
    Calls Try.prog 11 #[v, .int .i64 p, .int .i64 at_] w fun e w' => VaP w.heap.size VR.1 VR.2 e w' ∧ Bw w w' := by
  have HV := Lib.hid hv
  obtain ⟨ad, cap, rfl⟩ := hv.form
  clear hv
  have HBAD := Lib.hid hB
  have HGOOD := Lib.hid hG
  clear hB hG
  obtain ⟨m, hm⟩ : ∃ m, m = l.length := ⟨_, rfl⟩
  rw [← hm] at HV hl ⊢
  have HM := Lib.hid hm
  clear hm
  have q1 : ¬ (p : Int) < 1 := by omega
  have q2 : ¬ (20 : Int) < p := by omega
  have q3 : ¬ (at_ : Int) < 0 := by omega
  have q4 : ¬ (p : Int) ≤ at_ := by omega
  have q5 : ¬ (10000 : Int) < m := by omega
  go_enter Try.func11, Try.ntmps11
  go_wp2
  go_loopg [8] 10000 (fun gg s8 wr => ∃ k : Nat, k ≤ m ∧ m - k ≤ gg ∧ s8 = .int .i64 k ∧ Hid (∀ i, i < k → insP (l.getD i (0, 0)) = true) ∧ Hid (Bw w wr))
  case atStart => exact ⟨0, Nat.zero_le _, by omega, rfl, Lib.hid (fun i h => by omega), Lib.hid (Bw.refl w)⟩
  case round =>
    obtain ⟨k, hk, hgg, rfl, HI, HW⟩ := hrel
    by_cases hlt : k < m
    · have hkz : (k : Int) < m := by omega
      obtain ⟨b1, o1, cc, hv1, hb1, hd1⟩ := HV.out.at (by have := HM.out; omega)
      injection hv1 with i1 i2 i3; subst i1; clear i2 i3 hb1
      have d1 := HW.out.cell' (hd1 k (by have := HM.out; omega)).1
      have d2 := HW.out.cell' (hd1 k (by have := HM.out; omega)).2
      clear hd1
      obtain ⟨P, hP⟩ : ∃ P, P = l.getD k (0, 0) := ⟨_, rfl⟩
      rw [← hP] at d1 d2
      have HP := Lib.hid hP
      clear hP
      obtain ⟨x, y⟩ := P
      simp only at d1 d2
      have RI := Lib.hid (fun W => rInside_any x y W)
      cases hq : insP (x, y) with
      | true =>
        rw [hq] at RI
        have HQ := Lib.hid hq
        clear hq
        go_wp2_with (go_at_call 34; (with_reducible refine Calls.mono (RI.out _) ?_); rintro e1 w1 ⟨rfl, hb1⟩; replace HW := Lib.hid (HW.out.trans hb1); clear hb1)
        go_roundg (m - (k + 1))
        case measure => omega
        case rel => exact ⟨k + 1, by omega, by omega, by go_num, Lib.hid (fun i h => by
          rcases Nat.lt_succ_iff_lt_or_eq.1 h with h' | rfl
          · exact HI.out i h'
          · rw [← HP.out]; exact HQ.out), HW⟩
      | false =>
        rw [hq] at RI
        have HBA := Lib.hid (HBAD.out (by
          rw [Bool.eq_false_iff]; intro hall
          have := List.all_eq_true.1 hall _ (getD_mem l k (0, 0) (by have := HM.out; omega))
          rw [← HP.out, hq] at this; cases this))
        clear hq
        go_wp2_with (go_at_call 34; (with_reducible refine Calls.mono (RI.out _) ?_); rintro e1 w1 ⟨rfl, hb1⟩; replace HW := Lib.hid (HW.out.trans hb1); clear hb1)
        refine bodyPost_ret (v := .tuple #[.slice none 0 0, .int .i64 2]) ?_ rfl ⟨by rw [HBA.out]; exact vaP_nil _ _ _, HW.out⟩
        simp [results, Try.results11, go_sem]
    · obtain rfl : m = k := by omega
      have hkz : ¬ (m : Int) < m := by omega
      have HALL := Lib.hid (all_of_getD l (by rw [← HM.out]; exact HI.out))
      have HVR := Lib.hid (HGOOD.out HALL.out)
      clear HBAD HGOOD HI
      obtain ⟨VV, hVV⟩ : ∃ VV, VV = valsL l p at_ := ⟨_, rfl⟩
      rw [← hVV] at HVR
      obtain ⟨N, hN⟩ : ∃ N, N = (m - at_) / p := ⟨_, rfl⟩
      have HVV := Lib.hid (show VV = (List.range N).map (bitV l p at_) by rw [hVV, hN, HM.out]; rfl)
      have hNm : N ≤ 10000 := by rw [hN]; exact Nat.le_trans (Nat.div_le_self _ _) (by omega)
      have HJN := Lib.hid (show ∀ j, j < N ↔ at_ + j * p + p ≤ m from fun j => by
        rw [hN, ← Nat.succ_le_iff, Nat.le_div_iff_mul_le (by omega), Nat.succ_mul]
        omega)
      clear hVV hN
      go_wp2
      obtain ⟨wa, rfl⟩ : ∃ wa, wa = wr := ⟨_, rfl⟩
      obtain ⟨BB, hBB⟩ : ∃ BB, wa.heap.size = BB := ⟨_, rfl⟩
      have HB := Lib.hid hBB
      clear hBB
      go_loopg [9, 10] 10000 (fun gg s9 s10 wx => ∃ j k : Nat, j ≤ N ∧ N - j ≤ gg ∧ s10 = .int .i64 k ∧ Hid (k = at_ + j * p) ∧ k ≤ m + 20 ∧ Hid (Bw wa wx) ∧ Hid (wx.ownsRow BB 34 2 s9 ((List.range j).map (bitV l p at_)).length (flat ((List.range j).map (bitV l p at_)))))
      case atStart => exact ⟨0, at_, Nat.zero_le _, by omega, rfl, Lib.hid (by simp), by omega, Lib.hid (Bw.refl _), Lib.hid (World.ownsRow_nil _ _ _ _)⟩
      case round =>
        obtain ⟨j, k, hj, hgg, rfl, HK, hk2, HX, O1⟩ := hrel
        obtain ⟨wx, rfl⟩ : ∃ wx, wx = wr := ⟨_, rfl⟩
        by_cases hlt2 : k + p ≤ m
        · have hkz2 : (k : Int) + p ≤ m := by omega
          have HJ := Lib.hid ((HJN.out j).2 (by rw [← HK.out]; exact hlt2))
          go_upto_region 15 with fail
          have BX := Lib.hid (Blk.new wx 34 #[.int .i64 0, .int .i64 0])
          have hba := Bw.alloc (Bw.refl wx) (.cells #[.int .i64 0, .int .i64 0] 34)
          have HE := Lib.hid hba
          obtain ⟨g1, hg1⟩ : ∃ g1, wx.heap.size = g1 := ⟨_, rfl⟩
          have hgx : wa.heap.size ≤ g1 := by rw [← hg1]; exact HX.out.size
          rw [hg1] at BX ⊢
          have HG1 := Lib.hid hg1
          clear hg1 hba
          generalize wx.alloc _ = u1 at BX HE ⊢
          have HGX := Lib.hid hgx
          clear hgx
          go_wp2
          go_loopg [12] 20 (fun gg s12 w3 => ∃ c : Nat, c ≤ p ∧ p - c ≤ gg ∧ s12 = .int .i64 ((k + c : Nat) : Int) ∧ Hid (Bw wx w3) ∧ Hid (Blk w3 g1 34 #[.int .i64 (sumP ((l.drop k).take c)).1, .int .i64 (sumP ((l.drop k).take c)).2]))
          case atStart => exact ⟨0, Nat.zero_le _, by omega, by go_num, HE, BX⟩
          case round =>
            clear BX HE
            obtain ⟨c, hc, hgg3, rfl, HE, BX⟩ := hrel
            obtain ⟨w3, rfl⟩ : ∃ w3, w3 = wr := ⟨_, rfl⟩
            by_cases hlt3 : c < p
            · have hkz3 : (k : Int) + c < k + p := by omega
              obtain ⟨b1, o1, cc, hv1, hb1, hd1⟩ := HV.out.at (by have := HM.out; omega)
              injection hv1 with i1 i2 i3; subst i1; clear i2 i3 hb1
              have d1 := (HW.out.trans (HX.out.trans HE.out)).cell' (hd1 (k + c) (by have := HM.out; omega)).1
              have d2 := (HW.out.trans (HX.out.trans HE.out)).cell' (hd1 (k + c) (by have := HM.out; omega)).2
              clear hd1
              have HS := Lib.hid (sumP_next l k c (by have := HM.out; omega))
              have hsb := sumP_bd ((l.drop k).take c) (fun a ha => (List.all_eq_true.1 HALL.out) a (List.mem_of_mem_drop (List.mem_of_mem_take ha)))
              have hlen : ((l.drop k).take c).length ≤ 20 := by rw [List.length_take]; omega
              have hpb := (insP_iff _).1 ((List.all_eq_true.1 HALL.out) _ (getD_mem l (k + c) (0, 0) (by have := HM.out; omega)))
              generalize sumP ((l.drop k).take c) = S at *
              generalize l.getD (k + c) (0, 0) = P at *
              generalize ((l.drop k).take c).length = ln at *
              obtain ⟨x, y⟩ := P
              obtain ⟨sx, sy⟩ := S
              simp only at d1 d2 hsb hpb BX
              have c1 := BX.out.cell (j := 0) rfl
              have c2 := BX.out.cell (j := 1) rfl
              have z1 := BX.out.frozen 0
              have z2 := BX.out.frozen 1
              have hsx : -20971520 ≤ sx ∧ sx ≤ 20971520 ∧ -20971520 ≤ sy ∧ sy ≤ 20971520 := by omega
              have hkc : (k : Int) + c < m := by omega
              clear hsb hlen
              go_wp2
              go_region
              have HB2 := Lib.hid (((BX.out.set 0 (.int .i64 (sx + x))).set 1 (.int .i64 (sy + y))).bw (Bw.drew (Bw.refl _)))
              have HE2 := Lib.hid (Bw.drew (Bw.setCell (Bw.setCell HE.out (p := ⟨g1, 0, none⟩) (by have := HG1.out; simp; omega) (.int .i64 (sx + x))) (p := ⟨g1, 1, none⟩) (by have := HG1.out; simp; omega) (.int .i64 (sy + y))))
              go_wp2
              go_roundg (p - (c + 1))
              case measure => omega
              case rel => exact ⟨c + 1, by omega, by omega, by go_num, HE2, Lib.hid (by rw [HS.out]; simpa using HB2.out)⟩
            · obtain rfl : p = c := by omega
              have hkz3 : ¬ (k : Int) + p < k + p := by omega
              have HT := Lib.hid (show (List.range (j + 1)).map (bitV l p at_) = (List.range j).map (bitV l p at_) ++ [sumP ((l.drop k).take p)] by
                rw [List.range_succ, List.map_append, HK.out]; rfl)
              have HLN := Lib.hid (show ((List.range j).map (bitV l p at_)).length = j by rw [List.length_map, List.length_range])
              generalize (List.range j).map (bitV l p at_) = l1 at O1 HT HLN
              generalize sumP ((l.drop k).take p) = S at *
              obtain ⟨sx, sy⟩ := S
              simp only at BX
              have c1 := BX.out.cell (j := 0) rfl
              have c2 := BX.out.cell (j := 1) rfl
              replace O1 := Lib.hid (own_bw O1.out HE.out)
              replace HX := Lib.hid (HX.out.trans HE.out)
              clear HE BX
              go_wp2_with (at_builtin; have hba := Bw.alloc (Bw.refl w3) (.cells #[.int .i64 sx, .int .i64 sy] 34); have NB := Lib.hid (Blk.new w3 34 #[.int .i64 sx, .int .i64 sy]); replace O1 := Lib.hid (own_bw O1.out hba); replace HX := Lib.hid (HX.out.trans hba); clear hba c1 c2; refine wpList_append_pair_beside rfl (.tmp 79) (.tmp 81) _ rfl BB 34 Try.underlying22 infoSam _ l1 sx sy rfl O1.out _ rfl (NB.out.cell rfl) (NB.out.cell rfl) (by have := HLN.out; omega) (by have := HX.out.size; have := HB.out; omega) (World.ownsRow_nil _ BB 3 1) (fun g h1 h2 => by cases h2) ?_; intro v8 w8 hown hgr hot hap; replace HX := Lib.hid (Bw.grownN HB.out HX.out O1.out hgr); replace O1 := Lib.hid hown; clear hown hgr hot hap NB)
              go_roundg (N - (j + 1))
              case measure => have := HJ.out; omega
              case rel => exact ⟨j + 1, k + p, by have := HJ.out; omega, by have := HJ.out; omega, by go_num, Lib.hid (by rw [HK.out, Nat.succ_mul]; omega), by omega, HX, Lib.hid (by rw [HT.out]; exact O1.out)⟩
        · have hkz2 : ¬ (k : Int) + p ≤ m := by omega
          obtain rfl : N = j := by
            rcases Nat.lt_or_ge j N with h | h
            · exact absurd ((HJN.out j).1 h) (by rw [← HK.out]; exact hlt2)
            · omega
          rw [← HVV.out] at O1
          have hb1 := own_rdS2 O1.out (by rw [HVV.out, List.length_map, List.length_range]; omega)
          have HFR := Lib.hid (hb1.2.mono (show w.heap.size ≤ BB by rw [← HB.out]; exact HW.out.size))
          have hr := hb1.1
          obtain ⟨aV, cV, rfl⟩ := hr.form
          have HLV := Lib.hid (show VV.length = N by rw [HVV.out, List.length_map, List.length_range])
          rw [HLV.out] at hr HFR ⊢
          have HR := Lib.hid hr
          clear hb1 hr O1
          by_cases hN0 : N = 0
          · have HEV := Lib.hid (show VR = ([], 16) by
              have e : VV = [] := List.length_eq_zero_iff.1 (by rw [HLV.out]; exact hN0)
              rw [HVR.out, if_pos e, e])
            have hNz : (N : Int) = 0 := by omega
            go_wp2
            refine bodyPost_ret (v := .tuple #[.slice none 0 0, .int .i64 16]) ?_ rfl ⟨by rw [HEV.out]; exact vaP_nil _ _ _, HW.out.trans HX.out⟩
            simp [results, Try.results11, go_sem]
          · have HEV := Lib.hid (show VR = (VV, 0) by
              rw [HVR.out, if_neg (fun e => hN0 (by rw [← HLV.out, e]; rfl))])
            have hNz : ¬ (N : Int) = 0 := by omega
            go_wp2
            refine bodyPost_ret (v := .tuple #[.slice aV N cV, .int .i64 0]) ?_ rfl ⟨by rw [HEV.out]; exact ⟨_, rfl, HR.out, HFR.out⟩, HW.out.trans HX.out⟩
            simp [results, Try.results11, go_sem]
theorem rValues_any (l : List (Int × Int)) (v : Value) (p at_ : Int) (w : World) (hv : RdS w v l) :
    Calls Try.prog 11 #[v, .int .i64 p, .int .i64 at_] w fun e w' => VaP w.heap.size (valR l p at_).1 (valR l p at_).2 e w' ∧ Bw w w' := by
  obtain ⟨a, cap, rfl⟩ := hv.form
  by_cases h : p < 1 ∨ 20 < p ∨ at_ < 0 ∨ p ≤ at_
  · have e : valR l p at_ = ([], 2) := by unfold valR; rw [if_pos h]
    rw [e]; exact rValues_range _ _ _ p at_ w h
  by_cases hl : 10000 < l.length
  · have e : valR l p at_ = ([], 4) := by unfold valR; rw [if_neg h, if_pos hl]
    rw [e]; exact rValues_long _ _ _ p at_ w (by omega) (by omega) (by omega) (by omega) hl
  · obtain ⟨P, rfl⟩ := Int.eq_ofNat_of_zero_le (show 0 ≤ p by omega)
    obtain ⟨A, rfl⟩ := Int.eq_ofNat_of_zero_le (show 0 ≤ at_ by omega)
    refine rValues_main l _ P A w hv (by omega) (by omega) (by omega) (by omega) _ (fun ho => by unfold valR; rw [if_neg h, if_neg hl, if_pos ho]) (fun ho => ?_)
    unfold valR; rw [if_neg h, if_neg hl, if_neg (by rw [ho]; simp)]; simp only [Int.toNat_natCast]; split
    · rename_i h9; rw [h9]
    · rfl
end Go.Proofs.Sky
