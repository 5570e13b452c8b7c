/-
  lemmas for the theorems of this claim. No conditions beyond those written in the statements.
-/
import Derived.Test.YtpmopobjlpfdaaaDoorI40
import Derived.Test.YtpmopobjlpfdaaaDoorSD40
import Derived.Test.YtpmopobjlpfdaaaDoorOE40
import Derived.Shelf.Spec.SlicesInsert
set_option linter.unusedVariables false
set_option linter.unusedSimpArgs false
set_option linter.unnecessarySimpa false
namespace Go.Proofs.Sky
open Go Go.RowKit Go.Shelf
attribute [local go_sem] Oper.semAt_some
set_option maxHeartbeats 4000000
set_option maxRecDepth 8000
/-! chapter 40: rows of hints, copies -/
theorem own_memS {w : World} {base : Nat} {v : Value} {hs : List (Nat → Int)} (h : w.ownsRow base 23 6 v hs.length (flatH hs)) (h0 : 0 < hs.length) : ∃ g c rest, v = .slice (some ⟨g, 0, none⟩) hs.length c ∧ base ≤ g ∧ hs.length ≤ c ∧ c ≤ maxLen ∧ hs.length * 6 + rest.length = c * 6 ∧ MemH w g hs rest := by
  rcases h.2 with ⟨_, h2⟩ | ⟨g, cap, cur, rfl, hg, hh, hc, hcm, hsz, ht⟩
  · omega
  · refine ⟨g, cap, cur.toList.drop (hs.length * 6), rfl, hg, hc, hcm, ?_, ?_⟩
    · have : hs.length * 6 ≤ cap * 6 := Nat.mul_le_mul_right 6 hc
      have h8 : cur.toList.length = cap * 6 := by simpa using hsz
      rw [List.length_drop, h8]; omega
    · unfold MemH Blk
      rw [← ht, List.take_append_drop, Array.toArray_toList]
      exact hh
theorem memH_own {w : World} {base g c : Nat} {hs : List (Nat → Int)} {rest : List Value} (h : MemH w g hs rest) (hg : base ≤ g) (hc : hs.length ≤ c) (hcm : c ≤ maxLen) (hsz : hs.length * 6 + rest.length = c * 6) : w.ownsRow base 23 6 (.slice (some ⟨g, 0, none⟩) hs.length c) hs.length (flatH hs) := by
  refine ⟨flatH_len hs, .inr ⟨g, c, (flatH hs ++ rest).toArray, rfl, hg, h, hc, hcm, ?_, ?_⟩⟩
  · rw [List.size_toArray, List.length_append, flatH_len, hsz]
  · show List.take (hs.length * 6) (flatH hs ++ rest) = flatH hs
    rw [List.take_append_of_le_length (by rw [flatH_len]; exact Nat.le_refl _), List.take_of_length_le (by rw [flatH_len]; exact Nat.le_refl _)]
theorem MemH.many {w : World} {g : Nat} {hs : List (Nat → Int)} {rest : List Value} (h : MemH w g hs rest) {o : Nat} (ys : List (Nat → Int)) (ho : o + ys.length ≤ hs.length) : MemH (w.setCells g (o * 6) (flatH ys)) g (hs.take o ++ ys ++ hs.drop (o + ys.length)) rest := by
  have h9 := blk_sets (flatH ys) (o * 6) w _ h
  rw [putLL_eq _ _ _ (by rw [List.length_append, flatH_len, flatH_len]; omega)] at h9
  unfold MemH
  rw [flatH_append, flatH_append, flatH_take, flatH_drop, show (o + ys.length) * 6 = o * 6 + ys.length * 6 by omega]
  rw [flatH_len, List.take_append_of_le_length (by rw [flatH_len]; omega), List.drop_append_of_le_length (by rw [flatH_len]; omega)] at h9
  rw [List.append_assoc _ _ rest]
  exact h9
theorem MemH.sub {w : World} {g : Nat} {hs : List (Nat → Int)} {rest : List Value} (h : MemH w g hs rest) (o k : Nat) : w.rangeAt g (o * 6) (flatH ((hs.drop o).take k)) := fun j u hu => by
  rw [flatH_take, flatH_drop, List.getElem?_take] at hu
  split at hu
  · rw [List.getElem?_drop] at hu
    have hj := (List.getElem?_eq_some_iff.1 hu).1
    refine Blk.cell h ?_
    rw [List.getElem?_toArray, List.getElem?_append_left hj]
    exact hu
  · cases hu
theorem run_copy_hn (w : World) (dT sT ty : TypeId) (b o dLen dCap : Nat) (b2 o2 sLen sCap : Nat) (cs : List Value)
    (hu : Tryd.prog.underlying dT = some (.slice 23)) (hn : cs.length = Nat.min sLen dLen * 6)
    (hsrc : w.rangeAt b2 o2 cs) (hc : w.there b o cs.length) (h1 : ∀ v ∈ cs, v.oneCell' = true) :
    (Builtin.copy_ #[dT, sT] ty #[.slice (some ⟨b, o, none⟩) dLen dCap, .slice (some ⟨b2, o2, none⟩) sLen sCap]).run Tryd.prog w = .ok (goInt (Nat.min sLen dLen)) (w.setCells b o cs) := by
  have hl := run_loadCells_list (P := Tryd.prog) w ⟨b2, o2, none⟩ cs (fun j v hv => by rw [Addr.add_mid]; exact hsrc j v hv)
  have hst := run_storeCells_cells (P := Tryd.prog) b o cs 0 w (by simpa using fun j hj => (hc j hj).1) (by simpa using fun j hj => (hc j hj).2) h1
  obtain ⟨i, hi, hzz⟩ := Option.map_eq_some_iff.1 infoHn
  simp only [Prod.mk.injEq] at hzz
  have hi6 : i.size = 6 := hzz.2.1
  simp [Builtin.copy_, run_underlying hu, Builtin.lenOf, Builtin.firstCells, sizeOf, typeInfo, hi, hi6, ← hn, hl, hst]
theorem run_copy_zero (w : World) (dT sT ty : TypeId) (d : Option Addr) (dLen dCap : Nat) (s : Addr) (sLen sCap : Nat) (hd : dLen = 0)
    (hu : Tryd.prog.underlying dT = some (.slice 23)) :
    (Builtin.copy_ #[dT, sT] ty #[.slice d dLen dCap, .slice (some s) sLen sCap]).run Tryd.prog w = .ok (goInt 0) w := by
  subst hd
  have hl := run_loadCells_list (P := Tryd.prog) w s [] (fun j v hv => by simp at hv)
  obtain ⟨i, hi, hzz⟩ := Option.map_eq_some_iff.1 infoHn
  simp only [Prod.mk.injEq] at hzz
  have hi6 : i.size = 6 := hzz.2.1
  simp only [List.length_nil] at hl
  cases d with
  | none => simp [Builtin.copy_, run_underlying hu, Builtin.lenOf, Builtin.firstCells, sizeOf, typeInfo, hi, hi6, hl]
  | some a => simp [Builtin.copy_, run_underlying hu, Builtin.lenOf, Builtin.firstCells, sizeOf, typeInfo, hi, hi6, hl, storeCells]
/-- what copy and store leave is the insertion -/
theorem ins_copy (c : List (Nat → Int)) (z x : Nat → Int) (a : Nat) (ha : a ≤ c.length) : (((c ++ [z]).take (a + 1) ++ ((c ++ [z]).drop a).take (c.length - a) ++ (c ++ [z]).drop (a + 1 + (((c ++ [z]).drop a).take (c.length - a)).length)).set a x) = c.take a ++ x :: c.drop a := by
  have h1 : ((c ++ [z]).drop a).take (c.length - a) = c.drop a := by
    rw [List.drop_append_of_le_length ha, List.take_append_of_le_length (by rw [List.length_drop]; exact Nat.le_refl _), List.take_of_length_le (by rw [List.length_drop]; exact Nat.le_refl _)]
  rw [h1, List.length_drop, show (c ++ [z]).drop (a + 1 + (c.length - a)) = [] from List.drop_eq_nil_of_le (by rw [List.length_append, List.length_singleton]; omega), List.append_nil]
  obtain ⟨y, hy⟩ : ∃ y, (c ++ [z])[a]? = some y := ⟨_, List.getElem?_eq_getElem (by rw [List.length_append, List.length_singleton]; omega)⟩
  rw [List.take_add_one, hy, List.take_append_of_le_length ha, List.append_assoc, List.set_append_right _ _ (by rw [List.length_take]; omega), List.length_take, show a - min a c.length = 0 by omega]
  rfl
theorem ins_end (c : List (Nat → Int)) (z x : Nat → Int) : (c ++ [z]).set c.length x = c.take c.length ++ x :: c.drop c.length := by
  rw [List.set_append_right _ _ (Nat.le_refl _), Nat.sub_self, List.take_length, List.drop_length]
  rfl
end Go.Proofs.Sky

namespace Go.Proofs.Sky
open Go Go.RowKit Go.Shelf
attribute [local go_sem] Oper.semAt_some
set_option maxHeartbeats 4000000
set_option maxRecDepth 8000
/-! chapter 40: the reference, Order -/
def zH : Nat → Int := fun _ => 0
def stepH (c : List (Nat → Int)) (x : Nat → Int) : List (Nat → Int) := if x 1 = -1 then c else insR c x
def chosenH (hs : List (Nat → Int)) (k : Nat) : List (Nat → Int) := (hs.take k).foldl stepH []
theorem stepH_len (c : List (Nat → Int)) (x : Nat → Int) : (stepH c x).length ≤ c.length + 1 := by
  unfold stepH
  split
  · omega
  · rw [insR_len]; exact Nat.le_refl _
theorem chosen_succ {hs : List (Nat → Int)} {k : Nat} (hk : k < hs.length) : chosenH hs (k + 1) = stepH (chosenH hs k) (at0 hs k) := by
  unfold chosenH
  rw [List.take_add_one, at0_some hk, List.foldl_append]; rfl
theorem chosen_len (hs : List (Nat → Int)) : ∀ k, k ≤ hs.length → (chosenH hs k).length ≤ k
  | 0, _ => Nat.le_refl _
  | k + 1, h => by
    rw [chosen_succ (by omega)]
    have := stepH_len (chosenH hs k) (at0 hs k)
    have := chosen_len hs k (by omega)
    omega
theorem chosen_all (hs : List (Nat → Int)) : chosenH hs hs.length = ordL hs := by
  unfold chosenH ordL
  rw [List.take_length]; rfl
theorem rOrder_any (hs : List (Nat → Int)) (v : Value) (w : World) (hv : RdH w v hs) (hl : hs.length ≤ 1000) :
   Calls Tryd.prog 22 #[v] w fun e w' => OrdQ w.heap.size hs e w' ∧ Bw w w' := by
  obtain ⟨_, a, cap, rfl, h4⟩ := hv
  have H4 := Lib.hid h4
  clear h4
  have BF := Lib.hid (fun x y W => before40_any x y W)
  have HCH := Lib.hid (fun k (h : k < hs.length) => chosen_succ h)
  have HCL := Lib.hid (fun k (h : k ≤ hs.length) => chosen_len hs k h)
  have HCA := Lib.hid (chosen_all hs)
  have HC0 := Lib.hid (show chosenH hs 0 = [] from rfl)
  obtain ⟨n, hn⟩ : ∃ n, hs.length = n := ⟨_, rfl⟩
  have HN := Lib.hid hn
  rw [hn] at hl HCH HCL HCA ⊢
  clear hn
  obtain ⟨C, hC⟩ : ∃ C, chosenH hs = C := ⟨_, rfl⟩
  rw [hC] at HCH HCL HCA HC0
  clear hC
  obtain ⟨BB, hBB⟩ : ∃ BB, w.heap.size = BB := ⟨_, rfl⟩
  have HBB := Lib.hid hBB
  clear hBB
  go_enter Tryd.func22, Tryd.ntmps22
  go_wp2
  go_loopg [3, 4] n (fun gg s3 s4 wr => ∃ k : Nat, k ≤ n ∧ n - k ≤ gg ∧ s4 = .int .i64 (k : Int) ∧ Hid (Bw w wr) ∧ Hid (wr.ownsRow BB 23 6 s3 (C k).length (flatH (C k))))
  case atStart => exact ⟨0, by omega, by omega, rfl, Lib.hid (Bw.refl _), Lib.hid (by rw [HC0.out]; exact World.ownsRow_nil _ _ _ _)⟩
  case round =>
    obtain ⟨k, hkn, hgg, rfl, HWr, O1⟩ := hrel
    obtain ⟨wb, rfl⟩ : ∃ wb, wb = wr := ⟨_, rfl⟩
    obtain ⟨a3, c3, rfl⟩ := own_form2 O1.out
    have hml := HCL.out k hkn
    by_cases hlt : k < n
    · have hltz : (k : Int) < (n : Int) := by omega
      have hwk : IntKind.i64.wrap ((k : Int) + 1) = (k : Int) + 1 := by rw [IntKind.wrap_i64]; omega
      have hq := HN.out
      obtain ⟨b, off, rfl, hb, hc⟩ := H4.out.resolve_left (by intro h; rw [h] at hq; simp at hq; omega)
      have R0 := Lib.hid (show w.rangeAt b (off + k * 6) (hnc (at0 hs k)) from hc k _ (at0_some (by omega)))
      have HNX := Lib.hid (HCH.out k hlt)
      clear hc hq H4 HCH HCL HCA HC0
      have HCM := Lib.hid (show (C k).length = (C k).length from rfl)
      obtain ⟨c, hcc⟩ : ∃ c, C k = c := ⟨_, rfl⟩
      have HCK := Lib.hid hcc
      rw [hcc] at O1 HNX hml HCM ⊢
      clear hcc
      obtain ⟨m, hm⟩ : ∃ m, c.length = m := ⟨_, rfl⟩
      replace HCM := Lib.hid hm
      have hm3 : m ≤ 1000 := by omega
      rw [hm] at hml ⊢
      clear hm
      generalize at0 hs k = x at R0 HNX
      have d1 : wb.cell? ⟨b, off + k * 6 + 1, none⟩ = some (.int .i64 (x 1)) := HWr.out.cell' (R0.out 1 _ (hnc_at x 1 (by decide)))
      by_cases hx : x 1 = -1
      · have HEQ := Lib.hid (show C (k + 1) = c by rw [HNX.out]; exact if_pos hx)
        have hxb : (x 1 == -1) = true := by simpa using hx
        rw [hx] at d1
        clear hx hxb
        go_wp2
        go_roundg (n - (k + 1))
        case measure => omega
        case rel => exact ⟨k + 1, by omega, Nat.le_refl _, by go_num, HWr, Lib.hid (by rw [HEQ.out, HCM.out]; have h9 := O1.out; rw [HCM.out] at h9; exact h9)⟩
      · have HEQ := Lib.hid (show C (k + 1) = insR c x by rw [HNX.out]; exact if_neg hx)
        have hxb : (x 1 == -1) = false := by simpa using hx
        generalize x 1 = x1 at d1 hx hxb
        go_upto_region 6 with fail
        clear d1 hx hxb HNX
        go_wp2
        go_loopg [5] n (fun g2 s5 wz => ∃ J : Nat, J ≤ m ∧ J ≤ g2 ∧ s5 = .int .i64 (J : Int) ∧ Hid (Bw wb wz) ∧ Hid (insAt c x J = insAt c x c.length))
        case atStart => exact ⟨m, Nat.le_refl _, by omega, rfl, Lib.hid (Bw.refl _), Lib.hid (by rw [HCM.out])⟩
        case round =>
          obtain ⟨J, hJm, hg2, rfl, HWz, HAJ⟩ := hrel
          obtain ⟨wz, rfl⟩ : ∃ wz, wz = wr := ⟨_, rfl⟩
          by_cases hJ : 0 < J
          · have hJz : (0 : Int) < (J : Int) := by omega
            obtain ⟨Q, hQ⟩ : ∃ Q, J = Q + 1 := ⟨J - 1, by omega⟩
            have hwq : IntKind.i64.wrap ((J : Int) - 1) = (Q : Int) := by rw [IntKind.wrap_i64]; omega
            have hQm : (Q : Int) < (m : Int) := by omega
            obtain ⟨g, c3', rest, e3, hgB, hM⟩ := (show ∃ g c' rest, Value.slice a3 m c3 = .slice (some ⟨g, 0, none⟩) m c' ∧ BB ≤ g ∧ MemH wb g c rest from by
              obtain ⟨g, c', rest, e, h1, _, h2⟩ := own_memH O1.out (by rw [HCM.out]; omega)
              rw [HCM.out] at e
              exact ⟨g, c', rest, e, h1, h2⟩)
            injection e3 with e4 _ e5
            subst e4 e5
            have RX := Lib.hid (show wz.rangeAt b (off + k * 6) (hnc x) from fun j u hu => HWz.out.cell' (HWr.out.cell' (R0.out j u hu)))
            have RY := Lib.hid (show wz.rangeAt g (Q * 6) (hnc (at0 c Q)) from (hM.bw HWz.out).rg (at0_some (by have := HCM.out; omega)))
            have HST := Lib.hid (show insAt c x J = if befH x (at0 c Q) then insAt c x Q else J by rw [hQ]; rfl)
            have HQJ := Lib.hid hQ
            clear hM hQ
            generalize at0 c Q = y at RY HST
            have BC := Lib.hid (fun W => BF.out x y W)
            obtain ⟨bb, hbb⟩ : ∃ bb, befH x y = bb := ⟨_, rfl⟩
            rw [hbb] at BC HST
            clear hbb
            go_upto_region 7 with fail
            refine wp_region_quiet_ext (by kernel_rfl) (by kernel_rfl) ?_
            (repeat (go_big_quiet_step (fail)))
            go_big_quiet_want
            refine quiet_load40 (.agg (hnV x)) (some 28) rfl (fun W hW => ?_) ?_
            · obtain ⟨p, rfl⟩ := hW
              exact run_load_hn (.tmp 27) rfl b (off + k * 6) (by simp [Act.eval, Act.put]) (rg_bw9 RX.out p.b)
            simp only [Act.put, List.setIfInBounds_toArray, List.set_cons_zero, List.set_cons_succ]
            go_big_quiet_on
            (repeat (go_big_quiet_step (fail)))
            go_big_quiet_want
            refine quiet_load40 (.agg (hnV y)) (some 33) rfl (fun W hW => ?_) ?_
            · obtain ⟨p, rfl⟩ := hW
              exact run_load_hn (.tmp 32) rfl g (Q * 6) (by simp [Act.eval, Act.put]) (rg_bw9 RY.out p.b)
            simp only [Act.put, List.setIfInBounds_toArray, List.set_cons_zero, List.set_cons_succ]
            go_big_quiet_on
            (repeat (go_big_quiet_step ((go_at_call 42; with_reducible exact Calls.ext_of (BC.out _)))))
            refine wpQuiet_nil ?_
            rintro wq ⟨⟨_, hbq⟩, rfl⟩
            replace HWz := Lib.hid (HWz.out.trans hbq)
            clear hbq RX RY BC
            cases bb with
            | true =>
              have HA2 := Lib.hid (show insAt c x Q = insAt c x c.length from HST.out.symm.trans HAJ.out)
              go_wp2
              go_roundg Q
              case measure => have := HQJ.out; omega
              case rel => exact ⟨Q, by have := HQJ.out; omega, Nat.le_refl _, rfl, HWz, HA2⟩
            | false =>
              have HAI := Lib.hid (show insAt c x c.length = J from HAJ.out.symm.trans HST.out)
              obtain ⟨A, rfl⟩ : ∃ A, A = J := ⟨_, rfl⟩
              obtain ⟨wz, rfl⟩ : ∃ wz, wz = wq := ⟨_, rfl⟩
              clear HAJ HST HQJ hwq hQm hJz hJ hg2
              have hAm : A ≤ m := hJm
              clear hJm
              have HWA := Lib.hid (HWr.out.trans HWz.out)
              replace O1 := Lib.hid (own_bw O1.out HWz.out)
              clear HWz HWr
              have KZ := Lib.hid (Blk.new wz 23 #[.int .i64 0, .int .i64 0, .int .i64 0, .int .i64 0, .int .i64 0, .int .i64 0])
              go_upto_region 10 with (at_builtin; have hba := Bw.alloc (Bw.refl wz) (.cells #[.int .i64 0, .int .i64 0, .int .i64 0, .int .i64 0, .int .i64 0, .int .i64 0] 23); replace O1 := Lib.hid (own_bw O1.out hba); replace HWA := Lib.hid (HWA.out.trans hba); clear hba; refine wpList_append_hns rfl (.tmp 38) (.tmp 40) _ rfl BB Tryd.underlying36 _ c [zH] (by rw [HCM.out]; rfl) O1.out wz.heap.size 0 1 rfl (rg_oneH (blk_rgH (cs := hnc zH) KZ.out)) (by rw [HCM.out]; simp only [List.length_singleton]; omega) (by have := HWA.out.size; have := HBB.out; simp only [World.size_alloc] at *; omega) ?_; intro v8 w8 hown hgr hni; replace HWA := Lib.hid (bw_grownN HBB.out HWA.out O1.out hgr); replace O1 := Lib.hid hown; clear hown hgr hni KZ)
              obtain ⟨g8, c8, rest8, rfl, hg8, hc8, hcm8, hsz8, hM8⟩ := own_memS O1.out (by rw [List.length_append, List.length_singleton]; omega)
              have HZL := Lib.hid (show (c ++ [zH]).length = m + 1 by rw [List.length_append, List.length_singleton, HCM.out])
              have HM8 := Lib.hid hM8
              rw [HZL.out] at hc8 hsz8 ⊢
              have HSZ := Lib.hid hsz8
              unfold maxLen at hcm8
              have HG8 := Lib.hid (show w.heap.size ≤ g8 by rw [HBB.out]; exact hg8)
              have HGB := Lib.hid hg8
              clear hM8 hsz8 O1 hg8
              have HINS := Lib.hid (show c.take A ++ x :: c.drop A = insR c x by unfold insR; rw [HAI.out])
              have hwa : IntKind.i64.wrap ((A : Int) + 1) = (A : Int) + 1 := by rw [IntKind.wrap_i64]; omega
              have hta : ((A : Int) + 1).toNat = A + 1 := by omega
              have hi1 : (A : Int) ≤ (m : Int) + 1 := by omega
              have hi2 : (A : Int) + 1 ≤ (m : Int) + 1 := by omega
              have hi3 : (0 : Int) ≤ (A : Int) + 1 := by omega
              have hi4 : (A : Int) ≤ (c8 : Int) := by omega
              have hi5 : (m : Int) + 1 ≤ (c8 : Int) := by omega
              have hi6 : (A : Int) < (m : Int) + 1 := by omega
              have hb4 : ¬ (c8 = A) := by omega
              have R8 := Lib.hid (fun W (h : Bw w W) => (show W.rangeAt b (off + k * 6) (hnc x) from fun j u hu => h.cell' (R0.out j u hu)))
              have mixed : Tryd.prog.follows .mixedOrders = true := by kernel_rfl
              have HMD := Lib.hid (show MemH w8.drew g8 (c ++ [zH]) rest8 from HM8.out)
              have HWD := Lib.hid (show Bw w w8.drew from HWA.out.drew)
              by_cases hce : c8 = A + 1
              · have hAm2 : A = m := by omega
                have hz0 : m + 1 - (A + 1) = 0 := by omega
                have hcp := fun ty => run_copy_zero w8.drew 36 36 ty (some ⟨g8, 0, none⟩) (m + 1 - (A + 1)) (c8 - (A + 1)) ⟨g8, A * 6, none⟩ (m + 1 - A) (c8 - A) hz0 Tryd.underlying36
                have HL9 := Lib.hid (show (c ++ [zH]).set A x = insR c x by rw [← HINS.out, hAm2, ← HCM.out]; exact ins_end c zH x)
                obtain ⟨L9, HM9, HL9, HLL⟩ : ∃ L9, Hid (MemH w8.drew g8 L9 rest8) ∧ Hid (L9.set A x = insR c x) ∧ Hid (L9.length = m + 1) := ⟨_, HMD, HL9, HZL⟩
                have HW9 := Lib.hid HWD.out
                clear HMD HWD HM8 HWA HZL HINS hz0 hAm2
                go_region_law_o (refine step_copy_runI rfl _ _ 36 36 rfl _ _ (by simp [Act.eval, Act.put, hce]) (by simp [Act.eval, Act.put, hce]) (hcp _) ?_)
                clear hcp
                generalize w8.drew = w9 at HM9 HW9 ⊢
                have HTH := Lib.hid (HM9.out.there (k := A) (by rw [HLL.out]; omega))
                have R9 := Lib.hid (show w9.rangeAt b (off + k * 6) (hnc x) from fun j u hu => HW9.out.cell' (R0.out j u hu))
                have HS9 := Lib.hid (HM9.out.set (k := A) (by rw [HLL.out]; omega) x)
                have HW10 := Lib.hid (bw_setCells4 HG8.out (hnc x) (A * 6) _ HW9.out)
                have HPX := Lib.hid (show (hnV x).all (·.oneCell') = true by simp [Value.oneCell', hnV])
                have hlA : (A : Int) < ((m + 1 : Nat) : Int) := by omega
                clear HM9 HW9
                go_wp2_with (first | ((with_reducible refine at_load 23 (.tmp 54) ?_); refine wpList_load_hn rfl (.tmp 54) rfl b (off + k * 6) (by simp [Act.eval, Act.put]) R9.out ?_) | ((with_reducible refine at_store 23 (.tmp 56) (.tmp 55) ?_); refine wpList_store_mid rfl 23 (.tmp 56) (.tmp 55) rfl g8 (A * 6) (hnV x) (by simp [Act.eval, Act.put]) rfl HTH.out (by kernel_rfl) HPX.out ?_))
                go_roundg (n - (k + 1))
                case measure => omega
                case rel => exact ⟨k + 1, by omega, Nat.le_refl _, by go_num, HW10, Lib.hid (by
                  have e : (L9.set A x).length = m + 1 := by rw [List.length_set]; exact HLL.out
                  have h9 := memH_own HS9.out HGB.out (by rw [e]; exact hc8) (by unfold maxLen; exact hcm8) (by rw [e]; exact HSZ.out)
                  rw [e] at h9
                  (try rw [hce] at h9)
                  rw [HEQ.out, ← HL9.out, e]
                  exact h9)⟩
              · have hcp : ∀ ty, (Builtin.copy_ #[36, 36] ty #[.slice (some ⟨g8, (A + 1) * 6, none⟩) (m + 1 - (A + 1)) (c8 - (A + 1)), .slice (some ⟨g8, A * 6, none⟩) (m + 1 - A) (c8 - A)]).run Tryd.prog w8.drew = .ok (goInt (Nat.min (m + 1 - A) (m + 1 - (A + 1)))) (w8.drew.setCells g8 ((A + 1) * 6) (flatH (((c ++ [zH]).drop A).take (m - A)))) := fun ty =>
                  run_copy_hn w8.drew _ _ ty g8 ((A + 1) * 6) _ _ g8 (A * 6) _ _ _ Tryd.underlying36 (by rw [flatH_len, List.length_take, List.length_drop, HZL.out]; simp only [Nat.min_def]; split <;> split <;> omega)
                    (HMD.out.sub A (m - A)) (blk_there HMD.out (by rw [flatH_len, List.size_toArray, List.length_append, flatH_len, HZL.out, List.length_take, List.length_drop, HZL.out]; simp only [Nat.min_def]; split <;> omega)) (flatH_one' _)
                have HM9 := Lib.hid (HMD.out.many (o := A + 1) (((c ++ [zH]).drop A).take (m - A)) (by rw [HZL.out, List.length_take, List.length_drop, HZL.out]; simp only [Nat.min_def]; split <;> omega))
                have HW9 := Lib.hid (bw_setCells4 HG8.out (flatH (((c ++ [zH]).drop A).take (m - A))) ((A + 1) * 6) _ HWD.out)
                obtain ⟨w9, hw9⟩ : ∃ w9, w8.drew.setCells g8 ((A + 1) * 6) (flatH (((c ++ [zH]).drop A).take (m - A))) = w9 := ⟨_, rfl⟩
                rw [hw9] at HM9 HW9
                simp only [hw9] at hcp
                clear hw9 HMD HWD
                have HL9 := Lib.hid (show ((c ++ [zH]).take (A + 1) ++ ((c ++ [zH]).drop A).take (m - A) ++ (c ++ [zH]).drop (A + 1 + (((c ++ [zH]).drop A).take (m - A)).length)).set A x = insR c x by
                  have h9 := ins_copy c zH x A (by rw [HCM.out]; exact hAm)
                  rw [HCM.out] at h9
                  rw [h9]; exact HINS.out)
                have HLL := Lib.hid (show ((c ++ [zH]).take (A + 1) ++ ((c ++ [zH]).drop A).take (m - A) ++ (c ++ [zH]).drop (A + 1 + (((c ++ [zH]).drop A).take (m - A)).length)).length = m + 1 by
                  have h9 := congrArg List.length HL9.out
                  rw [List.length_set, insR_len, HCM.out] at h9
                  exact h9)
                obtain ⟨L9, HM9, HL9, HLL⟩ : ∃ L9, Hid (MemH w9 g8 L9 rest8) ∧ Hid (L9.set A x = insR c x) ∧ Hid (L9.length = m + 1) := ⟨_, HM9, HL9, HLL⟩
                clear HM8 HWA HZL HINS
                have hzc : ¬ (c8 = A + 1) := hce
                go_region_law_o (refine step_copy_runI rfl _ _ 36 36 rfl _ _ (by simp [Act.eval, Act.put]) (by simp [Act.eval, Act.put]) (hcp _) ?_)
                clear hcp
                have HTH := Lib.hid (HM9.out.there (k := A) (by rw [HLL.out]; omega))
                have R9 := Lib.hid (show w9.rangeAt b (off + k * 6) (hnc x) from fun j u hu => HW9.out.cell' (R0.out j u hu))
                have HS9 := Lib.hid (HM9.out.set (k := A) (by rw [HLL.out]; omega) x)
                have HW10 := Lib.hid (bw_setCells4 HG8.out (hnc x) (A * 6) _ HW9.out)
                have HPX := Lib.hid (show (hnV x).all (·.oneCell') = true by simp [Value.oneCell', hnV])
                have hlA : (A : Int) < ((m + 1 : Nat) : Int) := by omega
                clear HM9 HW9
                go_wp2_with (first | ((with_reducible refine at_load 23 (.tmp 54) ?_); refine wpList_load_hn rfl (.tmp 54) rfl b (off + k * 6) (by simp [Act.eval, Act.put]) R9.out ?_) | ((with_reducible refine at_store 23 (.tmp 56) (.tmp 55) ?_); refine wpList_store_mid rfl 23 (.tmp 56) (.tmp 55) rfl g8 (A * 6) (hnV x) (by simp [Act.eval, Act.put]) rfl HTH.out (by kernel_rfl) HPX.out ?_))
                go_roundg (n - (k + 1))
                case measure => omega
                case rel => exact ⟨k + 1, by omega, Nat.le_refl _, by go_num, HW10, Lib.hid (by
                  have e : (L9.set A x).length = m + 1 := by rw [List.length_set]; exact HLL.out
                  have h9 := memH_own HS9.out HGB.out (by rw [e]; exact hc8) (by unfold maxLen; exact hcm8) (by rw [e]; exact HSZ.out)
                  rw [e] at h9
                  (try rw [hce] at h9)
                  rw [HEQ.out, ← HL9.out, e]
                  exact h9)⟩
          · have hJz : ¬ (0 : Int) < (J : Int) := by omega
            have hJ0 : J = 0 := by omega
            go_upto_region 7 with fail
            refine wp_region_quiet_ext (by kernel_rfl) (by kernel_rfl) ?_
            (repeat (go_big_quiet_step (fail)))
            refine wpQuiet_nil ?_
            rintro wq ⟨⟨_, hbq⟩, rfl⟩
            replace HWz := Lib.hid (HWz.out.trans hbq)
            have HAI := Lib.hid (show insAt c x c.length = J from HAJ.out.symm.trans (by rw [hJ0]; rfl))
            obtain ⟨A, rfl⟩ : ∃ A, A = J := ⟨_, rfl⟩
            obtain ⟨wz, rfl⟩ : ∃ wz, wz = wq := ⟨_, rfl⟩
            clear HAJ hbq hJz hJ hJ0 hg2
            have hAm : A ≤ m := hJm
            clear hJm
            have HWA := Lib.hid (HWr.out.trans HWz.out)
            replace O1 := Lib.hid (own_bw O1.out HWz.out)
            clear HWz HWr
            have KZ := Lib.hid (Blk.new wz 23 #[.int .i64 0, .int .i64 0, .int .i64 0, .int .i64 0, .int .i64 0, .int .i64 0])
            go_upto_region 10 with (at_builtin; have hba := Bw.alloc (Bw.refl wz) (.cells #[.int .i64 0, .int .i64 0, .int .i64 0, .int .i64 0, .int .i64 0, .int .i64 0] 23); replace O1 := Lib.hid (own_bw O1.out hba); replace HWA := Lib.hid (HWA.out.trans hba); clear hba; refine wpList_append_hns rfl (.tmp 38) (.tmp 40) _ rfl BB Tryd.underlying36 _ c [zH] (by rw [HCM.out]; rfl) O1.out wz.heap.size 0 1 rfl (rg_oneH (blk_rgH (cs := hnc zH) KZ.out)) (by rw [HCM.out]; simp only [List.length_singleton]; omega) (by have := HWA.out.size; have := HBB.out; simp only [World.size_alloc] at *; omega) ?_; intro v8 w8 hown hgr hni; replace HWA := Lib.hid (bw_grownN HBB.out HWA.out O1.out hgr); replace O1 := Lib.hid hown; clear hown hgr hni KZ)
            obtain ⟨g8, c8, rest8, rfl, hg8, hc8, hcm8, hsz8, hM8⟩ := own_memS O1.out (by rw [List.length_append, List.length_singleton]; omega)
            have HZL := Lib.hid (show (c ++ [zH]).length = m + 1 by rw [List.length_append, List.length_singleton, HCM.out])
            have HM8 := Lib.hid hM8
            rw [HZL.out] at hc8 hsz8 ⊢
            have HSZ := Lib.hid hsz8
            unfold maxLen at hcm8
            have HG8 := Lib.hid (show w.heap.size ≤ g8 by rw [HBB.out]; exact hg8)
            have HGB := Lib.hid hg8
            clear hM8 hsz8 O1 hg8
            have HINS := Lib.hid (show c.take A ++ x :: c.drop A = insR c x by unfold insR; rw [HAI.out])
            have hwa : IntKind.i64.wrap ((A : Int) + 1) = (A : Int) + 1 := by rw [IntKind.wrap_i64]; omega
            have hta : ((A : Int) + 1).toNat = A + 1 := by omega
            have hi1 : (A : Int) ≤ (m : Int) + 1 := by omega
            have hi2 : (A : Int) + 1 ≤ (m : Int) + 1 := by omega
            have hi3 : (0 : Int) ≤ (A : Int) + 1 := by omega
            have hi4 : (A : Int) ≤ (c8 : Int) := by omega
            have hi5 : (m : Int) + 1 ≤ (c8 : Int) := by omega
            have hi6 : (A : Int) < (m : Int) + 1 := by omega
            have hb4 : ¬ (c8 = A) := by omega
            have R8 := Lib.hid (fun W (h : Bw w W) => (show W.rangeAt b (off + k * 6) (hnc x) from fun j u hu => h.cell' (R0.out j u hu)))
            have mixed : Tryd.prog.follows .mixedOrders = true := by kernel_rfl
            have HMD := Lib.hid (show MemH w8.drew g8 (c ++ [zH]) rest8 from HM8.out)
            have HWD := Lib.hid (show Bw w w8.drew from HWA.out.drew)
            by_cases hce : c8 = A + 1
            · have hAm2 : A = m := by omega
              have hz0 : m + 1 - (A + 1) = 0 := by omega
              have hcp := fun ty => run_copy_zero w8.drew 36 36 ty (some ⟨g8, 0, none⟩) (m + 1 - (A + 1)) (c8 - (A + 1)) ⟨g8, A * 6, none⟩ (m + 1 - A) (c8 - A) hz0 Tryd.underlying36
              have HL9 := Lib.hid (show (c ++ [zH]).set A x = insR c x by rw [← HINS.out, hAm2, ← HCM.out]; exact ins_end c zH x)
              obtain ⟨L9, HM9, HL9, HLL⟩ : ∃ L9, Hid (MemH w8.drew g8 L9 rest8) ∧ Hid (L9.set A x = insR c x) ∧ Hid (L9.length = m + 1) := ⟨_, HMD, HL9, HZL⟩
              have HW9 := Lib.hid HWD.out
              clear HMD HWD HM8 HWA HZL HINS hz0 hAm2
              go_region_law_o (refine step_copy_runI rfl _ _ 36 36 rfl _ _ (by simp [Act.eval, Act.put, hce]) (by simp [Act.eval, Act.put, hce]) (hcp _) ?_)
              clear hcp
              generalize w8.drew = w9 at HM9 HW9 ⊢
              have HTH := Lib.hid (HM9.out.there (k := A) (by rw [HLL.out]; omega))
              have R9 := Lib.hid (show w9.rangeAt b (off + k * 6) (hnc x) from fun j u hu => HW9.out.cell' (R0.out j u hu))
              have HS9 := Lib.hid (HM9.out.set (k := A) (by rw [HLL.out]; omega) x)
              have HW10 := Lib.hid (bw_setCells4 HG8.out (hnc x) (A * 6) _ HW9.out)
              have HPX := Lib.hid (show (hnV x).all (·.oneCell') = true by simp [Value.oneCell', hnV])
              have hlA : (A : Int) < ((m + 1 : Nat) : Int) := by omega
              clear HM9 HW9
              go_wp2_with (first | ((with_reducible refine at_load 23 (.tmp 54) ?_); refine wpList_load_hn rfl (.tmp 54) rfl b (off + k * 6) (by simp [Act.eval, Act.put]) R9.out ?_) | ((with_reducible refine at_store 23 (.tmp 56) (.tmp 55) ?_); refine wpList_store_mid rfl 23 (.tmp 56) (.tmp 55) rfl g8 (A * 6) (hnV x) (by simp [Act.eval, Act.put]) rfl HTH.out (by kernel_rfl) HPX.out ?_))
              go_roundg (n - (k + 1))
              case measure => omega
              case rel => exact ⟨k + 1, by omega, Nat.le_refl _, by go_num, HW10, Lib.hid (by
                have e : (L9.set A x).length = m + 1 := by rw [List.length_set]; exact HLL.out
                have h9 := memH_own HS9.out HGB.out (by rw [e]; exact hc8) (by unfold maxLen; exact hcm8) (by rw [e]; exact HSZ.out)
                rw [e] at h9
                (try rw [hce] at h9)
                rw [HEQ.out, ← HL9.out, e]
                exact h9)⟩
            · have hcp : ∀ ty, (Builtin.copy_ #[36, 36] ty #[.slice (some ⟨g8, (A + 1) * 6, none⟩) (m + 1 - (A + 1)) (c8 - (A + 1)), .slice (some ⟨g8, A * 6, none⟩) (m + 1 - A) (c8 - A)]).run Tryd.prog w8.drew = .ok (goInt (Nat.min (m + 1 - A) (m + 1 - (A + 1)))) (w8.drew.setCells g8 ((A + 1) * 6) (flatH (((c ++ [zH]).drop A).take (m - A)))) := fun ty =>
                run_copy_hn w8.drew _ _ ty g8 ((A + 1) * 6) _ _ g8 (A * 6) _ _ _ Tryd.underlying36 (by rw [flatH_len, List.length_take, List.length_drop, HZL.out]; simp only [Nat.min_def]; split <;> split <;> omega)
                  (HMD.out.sub A (m - A)) (blk_there HMD.out (by rw [flatH_len, List.size_toArray, List.length_append, flatH_len, HZL.out, List.length_take, List.length_drop, HZL.out]; simp only [Nat.min_def]; split <;> omega)) (flatH_one' _)
              have HM9 := Lib.hid (HMD.out.many (o := A + 1) (((c ++ [zH]).drop A).take (m - A)) (by rw [HZL.out, List.length_take, List.length_drop, HZL.out]; simp only [Nat.min_def]; split <;> omega))
              have HW9 := Lib.hid (bw_setCells4 HG8.out (flatH (((c ++ [zH]).drop A).take (m - A))) ((A + 1) * 6) _ HWD.out)
              obtain ⟨w9, hw9⟩ : ∃ w9, w8.drew.setCells g8 ((A + 1) * 6) (flatH (((c ++ [zH]).drop A).take (m - A))) = w9 := ⟨_, rfl⟩
              rw [hw9] at HM9 HW9
              simp only [hw9] at hcp
              clear hw9 HMD HWD
              have HL9 := Lib.hid (show ((c ++ [zH]).take (A + 1) ++ ((c ++ [zH]).drop A).take (m - A) ++ (c ++ [zH]).drop (A + 1 + (((c ++ [zH]).drop A).take (m - A)).length)).set A x = insR c x by
                have h9 := ins_copy c zH x A (by rw [HCM.out]; exact hAm)
                rw [HCM.out] at h9
                rw [h9]; exact HINS.out)
              have HLL := Lib.hid (show ((c ++ [zH]).take (A + 1) ++ ((c ++ [zH]).drop A).take (m - A) ++ (c ++ [zH]).drop (A + 1 + (((c ++ [zH]).drop A).take (m - A)).length)).length = m + 1 by
                have h9 := congrArg List.length HL9.out
                rw [List.length_set, insR_len, HCM.out] at h9
                exact h9)
              obtain ⟨L9, HM9, HL9, HLL⟩ : ∃ L9, Hid (MemH w9 g8 L9 rest8) ∧ Hid (L9.set A x = insR c x) ∧ Hid (L9.length = m + 1) := ⟨_, HM9, HL9, HLL⟩
              clear HM8 HWA HZL HINS
              have hzc : ¬ (c8 = A + 1) := hce
              go_region_law_o (refine step_copy_runI rfl _ _ 36 36 rfl _ _ (by simp [Act.eval, Act.put]) (by simp [Act.eval, Act.put]) (hcp _) ?_)
              clear hcp
              have HTH := Lib.hid (HM9.out.there (k := A) (by rw [HLL.out]; omega))
              have R9 := Lib.hid (show w9.rangeAt b (off + k * 6) (hnc x) from fun j u hu => HW9.out.cell' (R0.out j u hu))
              have HS9 := Lib.hid (HM9.out.set (k := A) (by rw [HLL.out]; omega) x)
              have HW10 := Lib.hid (bw_setCells4 HG8.out (hnc x) (A * 6) _ HW9.out)
              have HPX := Lib.hid (show (hnV x).all (·.oneCell') = true by simp [Value.oneCell', hnV])
              have hlA : (A : Int) < ((m + 1 : Nat) : Int) := by omega
              clear HM9 HW9
              go_wp2_with (first | ((with_reducible refine at_load 23 (.tmp 54) ?_); refine wpList_load_hn rfl (.tmp 54) rfl b (off + k * 6) (by simp [Act.eval, Act.put]) R9.out ?_) | ((with_reducible refine at_store 23 (.tmp 56) (.tmp 55) ?_); refine wpList_store_mid rfl 23 (.tmp 56) (.tmp 55) rfl g8 (A * 6) (hnV x) (by simp [Act.eval, Act.put]) rfl HTH.out (by kernel_rfl) HPX.out ?_))
              go_roundg (n - (k + 1))
              case measure => omega
              case rel => exact ⟨k + 1, by omega, Nat.le_refl _, by go_num, HW10, Lib.hid (by
                have e : (L9.set A x).length = m + 1 := by rw [List.length_set]; exact HLL.out
                have h9 := memH_own HS9.out HGB.out (by rw [e]; exact hc8) (by unfold maxLen; exact hcm8) (by rw [e]; exact HSZ.out)
                rw [e] at h9
                (try rw [hce] at h9)
                rw [HEQ.out, ← HL9.out, e]
                exact h9)⟩
    · have hltz : ¬ (k : Int) < (n : Int) := by omega
      obtain rfl : k = n := by omega
      have HO := Lib.hid HCA.out
      have hm1000 : (C k).length ≤ 1000 := by omega
      clear HCH HCL HCA HC0 H4 BF hml hltz
      generalize C k = s at O1 HO hm1000 ⊢
      have HNX := Lib.hid (fun j hj => int_next (s := s) (k := j) hj)
      have HTL := Lib.hid (fun j => show ((s.take j).map fun x => x 0).length ≤ 1000 by rw [List.length_map, List.length_take]; omega)
      have HAL := Lib.hid (show (s.take s.length).map (fun x => x 0) = (ordL hs).map (fun x => x 0) by rw [List.take_length, HO.out])
      obtain ⟨m, hm⟩ : ∃ m, s.length = m := ⟨_, rfl⟩
      have HM := Lib.hid hm
      rw [hm] at hm1000 HAL ⊢
      have OC := Lib.hid (show wb.ownsRow BB 23 6 (.slice a3 m c3) s.length (flatH s) by have h9 := O1.out; rw [hm] at h9 ⊢; exact h9)
      clear hm HO O1
      obtain ⟨L, hL⟩ : ∃ L : Nat → List Int, (fun j => (s.take j).map fun x => x 0) = L := ⟨_, rfl⟩
      have HL := Lib.hid hL
      clear hL
      go_wp2
      go_loopg [6, 7] m (fun gg s6 s7 wr => ∃ j : Nat, j ≤ m ∧ m - j ≤ gg ∧ s7 = .int .i64 (j : Int) ∧ Hid (Bw w wr) ∧ Hid (wr.ownsRow BB 23 6 (.slice a3 m c3) s.length (flatH s)) ∧ Hid (wr.ownsRow BB 3 1 s6 (L j).length ((L j).map (Value.int .i64))))
      case atStart => exact ⟨0, by omega, by omega, rfl, HWr, OC, Lib.hid (by rw [← HL.out]; exact World.ownsRow_nil _ _ _ _)⟩
      case round =>
        clear HWr OC
        obtain ⟨j, hjm, hg2, rfl, HWr, OC, O2⟩ := hrel
        obtain ⟨wz, rfl⟩ : ∃ wz, wz = wr := ⟨_, rfl⟩
        by_cases hlj : j < m
        · have hljz : (j : Int) < (m : Int) := by omega
          have hwj : IntKind.i64.wrap ((j : Int) + 1) = (j : Int) + 1 := by rw [IntKind.wrap_i64]; omega
          obtain ⟨g, c3', rest, e3, hgB, hM⟩ := (show ∃ g c' rest, Value.slice a3 m c3 = .slice (some ⟨g, 0, none⟩) m c' ∧ BB ≤ g ∧ MemH wz g s rest from by
            obtain ⟨g, c', rest, e, h1, _, h2⟩ := own_memH (v := .slice a3 m c3) OC.out (by rw [HM.out]; omega)
            rw [HM.out] at e
            exact ⟨g, c', rest, e, h1, h2⟩)
          injection e3 with e4 _ e5
          subst e4 e5
          have HLN := Lib.hid (show L (j + 1) = L j ++ [at0 s j 0] by rw [← HL.out]; exact HNX.out j (by have := HM.out; omega))
          have HLL := Lib.hid (show (L j).length ≤ 1000 by rw [← HL.out]; exact HTL.out j)
          have d0 : wz.cell? ⟨g, j * 6, none⟩ = some (.int .i64 (at0 s j 0)) := hM.rg (at0_some (by have := HM.out; omega)) 0 _ (hnc_at _ 0 (by decide))
          clear hM
          generalize at0 s j 0 = z at d0 HLN
          go_wp2_with (at_builtin; have hba := Bw.alloc (Bw.refl wz) (.cells #[.int .i64 z] 3); replace O2 := Lib.hid (own_bw O2.out hba); replace HWr := Lib.hid (HWr.out.trans hba); replace OC := Lib.hid (own_bw OC.out hba); clear hba; refine wpList_append_int1 rfl (.tmp 63) (.tmp 69) _ rfl BB 3 Tryd.underlying34 infoInt _ (L j) z rfl O2.out _ rfl (by simp [go_sem]) (by have := HLL.out; omega) (by have := HWr.out.size; have := HBB.out; simp only [World.size_alloc] at *; omega) ?_; intro v8 w8 hown hgr; replace OC := Lib.hid (own_other OC.out O2.out (by decide) hgr); replace HWr := Lib.hid (bw_grownN HBB.out HWr.out O2.out hgr); replace O2 := Lib.hid hown; clear hown hgr)
          go_roundg (m - (j + 1))
          case measure => omega
          case rel => exact ⟨j + 1, by omega, Nat.le_refl _, by go_num, HWr, OC, Lib.hid (by rw [HLN.out]; exact O2.out)⟩
        · have hljz : ¬ (j : Int) < (m : Int) := by omega
          obtain rfl : j = m := by omega
          go_wp2
          go_ret
          have hLj : L j = (ordL hs).map fun x => x 0 := by rw [← HAL.out, ← HL.out]
          have ho := O2.out
          rw [hLj, ← HBB.out] at ho
          have hlen : ((ordL hs).map fun x => x 0).length ≤ 9223372036854775807 := by rw [← hLj, ← HL.out]; exact Nat.le_trans (HTL.out j) (by omega)
          exact ⟨⟨_, rfl, (own_rd ho hlen).1, (own_rd ho hlen).2⟩, HWr.out⟩
end Go.Proofs.Sky

namespace Go.Proofs.Sky
open Go Go.RowKit Go.Shelf
attribute [local go_sem] Oper.semAt_some
set_option maxHeartbeats 4000000
set_option maxRecDepth 8000
/-! chapter 40: the reference, Fits -/
theorem RFits_ok (h0 h1 h2 h3 h4 h5 lag s : Int) (w : World) (hs : 1 ≤ s ∧ s ≤ 8192) (hl : 0 ≤ h4 ∧ h4 < s) (hm : 1 ≤ h5 ∧ h5 ≤ s) (hg : 0 ≤ lag ∧ lag < s) : Calls Tryd.prog 21 #[.agg #[.int .i64 h0, .int .i64 h1, .int .i64 h2, .int .i64 h3, .int .i64 h4, .int .i64 h5], .int .i64 lag, .int .i64 s] w fun e w' => e = .returned (.tuple #[.bool (decide ((lag - h4 + s) % s < h5)), .int .i64 0]) ∧ Bw w w' := by
  have K := Lib.hid (Blk.new w 23 #[.int .i64 h0, .int .i64 h1, .int .i64 h2, .int .i64 h3, .int .i64 h4, .int .i64 h5])
  have HW := Lib.hid (Bw.alloc (Bw.refl w) (.cells #[.int .i64 h0, .int .i64 h1, .int .i64 h2, .int .i64 h3, .int .i64 h4, .int .i64 h5] 23))
  obtain ⟨d, hd0⟩ : ∃ d, lag - h4 = d := ⟨_, rfl⟩
  have hw1 : IntKind.i64.wrap (lag - h4) = d := by rw [IntKind.wrap_i64]; omega
  have hw2 : IntKind.i64.wrap (d + s) = d + s := by rw [IntKind.wrap_i64]; omega
  rw [hd0]
  have n1 : ¬ s < 1 := by omega
  have n2 : ¬ 8192 < s := by omega
  have n3 : ¬ h4 < 0 := by omega
  have n4 : ¬ s ≤ h4 := by omega
  have n5 : ¬ h5 < 1 := by omega
  have n6 : ¬ s < h5 := by omega
  have n7 : ¬ lag < 0 := by omega
  have n8 : ¬ s ≤ lag := by omega
  by_cases hd : d < 0
  · have hq : (d + s) % s = d + s := Int.emod_eq_of_lt (by omega) (by omega)
    rw [hq]
    clear hq hd0
    go_enter Tryd.func21, Tryd.ntmps21
    go_upto_region 1 with fail
    obtain ⟨g, hg⟩ : ∃ g, w.heap.size = g := ⟨_, rfl⟩
    rw [hg] at K
    (try rw [hg])
    generalize w.alloc _ = W0 at *
    have d4 := K.out.cell (show (#[.int .i64 h0, .int .i64 h1, .int .i64 h2, .int .i64 h3, .int .i64 h4, .int .i64 h5] : Array Value)[4]? = some (.int .i64 h4) from rfl)
    have d5 := K.out.cell (show (#[.int .i64 h0, .int .i64 h1, .int .i64 h2, .int .i64 h3, .int .i64 h4, .int .i64 h5] : Array Value)[5]? = some (.int .i64 h5) from rfl)
    go_wp2
    refine bodyPost_ret (v := .tuple #[.bool (decide (d + s < h5)), .int .i64 0]) ?_ rfl ⟨rfl, HW.out⟩
    simp [results, Tryd.results21, go_sem]
  · have hq : (d + s) % s = d := by rw [Int.add_emod_right]; exact Int.emod_eq_of_lt (by omega) (by omega)
    rw [hq]
    clear hq hd0 hw2
    have hd2 : (0 : Int) ≤ d := by omega
    go_enter Tryd.func21, Tryd.ntmps21
    go_upto_region 1 with fail
    obtain ⟨g, hg⟩ : ∃ g, w.heap.size = g := ⟨_, rfl⟩
    rw [hg] at K
    (try rw [hg])
    generalize w.alloc _ = W0 at *
    have d4 := K.out.cell (show (#[.int .i64 h0, .int .i64 h1, .int .i64 h2, .int .i64 h3, .int .i64 h4, .int .i64 h5] : Array Value)[4]? = some (.int .i64 h4) from rfl)
    have d5 := K.out.cell (show (#[.int .i64 h0, .int .i64 h1, .int .i64 h2, .int .i64 h3, .int .i64 h4, .int .i64 h5] : Array Value)[5]? = some (.int .i64 h5) from rfl)
    go_wp2
    refine bodyPost_ret (v := .tuple #[.bool (decide (d < h5)), .int .i64 0]) ?_ rfl ⟨rfl, HW.out⟩
    simp [results, Tryd.results21, go_sem]
theorem RFits_bad (h0 h1 h2 h3 h4 h5 lag s : Int) (w : World) (hbad : s < 1 ∨ 8192 < s ∨ h4 < 0 ∨ s ≤ h4 ∨ h5 < 1 ∨ s < h5 ∨ lag < 0 ∨ s ≤ lag) : Calls Tryd.prog 21 #[.agg #[.int .i64 h0, .int .i64 h1, .int .i64 h2, .int .i64 h3, .int .i64 h4, .int .i64 h5], .int .i64 lag, .int .i64 s] w fun e w' => e = .returned (.tuple #[.bool false, .int .i64 2]) ∧ Bw w w' := by
  have K := Lib.hid (Blk.new w 23 #[.int .i64 h0, .int .i64 h1, .int .i64 h2, .int .i64 h3, .int .i64 h4, .int .i64 h5])
  have HW := Lib.hid (Bw.alloc (Bw.refl w) (.cells #[.int .i64 h0, .int .i64 h1, .int .i64 h2, .int .i64 h3, .int .i64 h4, .int .i64 h5] 23))
  by_cases c1 : s < 1
  · clear hbad
    go_enter Tryd.func21, Tryd.ntmps21
    go_upto_region 1 with fail
    obtain ⟨g, hg⟩ : ∃ g, w.heap.size = g := ⟨_, rfl⟩
    rw [hg] at K
    (try rw [hg])
    generalize w.alloc _ = W0 at *
    have d4 := K.out.cell (show (#[.int .i64 h0, .int .i64 h1, .int .i64 h2, .int .i64 h3, .int .i64 h4, .int .i64 h5] : Array Value)[4]? = some (.int .i64 h4) from rfl)
    have d5 := K.out.cell (show (#[.int .i64 h0, .int .i64 h1, .int .i64 h2, .int .i64 h3, .int .i64 h4, .int .i64 h5] : Array Value)[5]? = some (.int .i64 h5) from rfl)
    go_wp2
    refine bodyPost_ret (v := .tuple #[.bool false, .int .i64 2]) ?_ rfl ⟨rfl, HW.out⟩
    simp [results, Tryd.results21, go_sem]
  by_cases c2 : 8192 < s
  · clear hbad
    go_enter Tryd.func21, Tryd.ntmps21
    go_upto_region 1 with fail
    obtain ⟨g, hg⟩ : ∃ g, w.heap.size = g := ⟨_, rfl⟩
    rw [hg] at K
    (try rw [hg])
    generalize w.alloc _ = W0 at *
    have d4 := K.out.cell (show (#[.int .i64 h0, .int .i64 h1, .int .i64 h2, .int .i64 h3, .int .i64 h4, .int .i64 h5] : Array Value)[4]? = some (.int .i64 h4) from rfl)
    have d5 := K.out.cell (show (#[.int .i64 h0, .int .i64 h1, .int .i64 h2, .int .i64 h3, .int .i64 h4, .int .i64 h5] : Array Value)[5]? = some (.int .i64 h5) from rfl)
    go_wp2
    refine bodyPost_ret (v := .tuple #[.bool false, .int .i64 2]) ?_ rfl ⟨rfl, HW.out⟩
    simp [results, Tryd.results21, go_sem]
  by_cases c3 : h4 < 0
  · clear hbad
    go_enter Tryd.func21, Tryd.ntmps21
    go_upto_region 1 with fail
    obtain ⟨g, hg⟩ : ∃ g, w.heap.size = g := ⟨_, rfl⟩
    rw [hg] at K
    (try rw [hg])
    generalize w.alloc _ = W0 at *
    have d4 := K.out.cell (show (#[.int .i64 h0, .int .i64 h1, .int .i64 h2, .int .i64 h3, .int .i64 h4, .int .i64 h5] : Array Value)[4]? = some (.int .i64 h4) from rfl)
    have d5 := K.out.cell (show (#[.int .i64 h0, .int .i64 h1, .int .i64 h2, .int .i64 h3, .int .i64 h4, .int .i64 h5] : Array Value)[5]? = some (.int .i64 h5) from rfl)
    go_wp2
    refine bodyPost_ret (v := .tuple #[.bool false, .int .i64 2]) ?_ rfl ⟨rfl, HW.out⟩
    simp [results, Tryd.results21, go_sem]
  by_cases c4 : s ≤ h4
  · clear hbad
    go_enter Tryd.func21, Tryd.ntmps21
    go_upto_region 1 with fail
    obtain ⟨g, hg⟩ : ∃ g, w.heap.size = g := ⟨_, rfl⟩
    rw [hg] at K
    (try rw [hg])
    generalize w.alloc _ = W0 at *
    have d4 := K.out.cell (show (#[.int .i64 h0, .int .i64 h1, .int .i64 h2, .int .i64 h3, .int .i64 h4, .int .i64 h5] : Array Value)[4]? = some (.int .i64 h4) from rfl)
    have d5 := K.out.cell (show (#[.int .i64 h0, .int .i64 h1, .int .i64 h2, .int .i64 h3, .int .i64 h4, .int .i64 h5] : Array Value)[5]? = some (.int .i64 h5) from rfl)
    go_wp2
    refine bodyPost_ret (v := .tuple #[.bool false, .int .i64 2]) ?_ rfl ⟨rfl, HW.out⟩
    simp [results, Tryd.results21, go_sem]
  by_cases c5 : h5 < 1
  · clear hbad
    go_enter Tryd.func21, Tryd.ntmps21
    go_upto_region 1 with fail
    obtain ⟨g, hg⟩ : ∃ g, w.heap.size = g := ⟨_, rfl⟩
    rw [hg] at K
    (try rw [hg])
    generalize w.alloc _ = W0 at *
    have d4 := K.out.cell (show (#[.int .i64 h0, .int .i64 h1, .int .i64 h2, .int .i64 h3, .int .i64 h4, .int .i64 h5] : Array Value)[4]? = some (.int .i64 h4) from rfl)
    have d5 := K.out.cell (show (#[.int .i64 h0, .int .i64 h1, .int .i64 h2, .int .i64 h3, .int .i64 h4, .int .i64 h5] : Array Value)[5]? = some (.int .i64 h5) from rfl)
    go_wp2
    refine bodyPost_ret (v := .tuple #[.bool false, .int .i64 2]) ?_ rfl ⟨rfl, HW.out⟩
    simp [results, Tryd.results21, go_sem]
  by_cases c6 : s < h5
  · clear hbad
    go_enter Tryd.func21, Tryd.ntmps21
    go_upto_region 1 with fail
    obtain ⟨g, hg⟩ : ∃ g, w.heap.size = g := ⟨_, rfl⟩
    rw [hg] at K
    (try rw [hg])
    generalize w.alloc _ = W0 at *
    have d4 := K.out.cell (show (#[.int .i64 h0, .int .i64 h1, .int .i64 h2, .int .i64 h3, .int .i64 h4, .int .i64 h5] : Array Value)[4]? = some (.int .i64 h4) from rfl)
    have d5 := K.out.cell (show (#[.int .i64 h0, .int .i64 h1, .int .i64 h2, .int .i64 h3, .int .i64 h4, .int .i64 h5] : Array Value)[5]? = some (.int .i64 h5) from rfl)
    go_wp2
    refine bodyPost_ret (v := .tuple #[.bool false, .int .i64 2]) ?_ rfl ⟨rfl, HW.out⟩
    simp [results, Tryd.results21, go_sem]
  by_cases c7 : lag < 0
  · clear hbad
    go_enter Tryd.func21, Tryd.ntmps21
    go_upto_region 1 with fail
    obtain ⟨g, hg⟩ : ∃ g, w.heap.size = g := ⟨_, rfl⟩
    rw [hg] at K
    (try rw [hg])
    generalize w.alloc _ = W0 at *
    have d4 := K.out.cell (show (#[.int .i64 h0, .int .i64 h1, .int .i64 h2, .int .i64 h3, .int .i64 h4, .int .i64 h5] : Array Value)[4]? = some (.int .i64 h4) from rfl)
    have d5 := K.out.cell (show (#[.int .i64 h0, .int .i64 h1, .int .i64 h2, .int .i64 h3, .int .i64 h4, .int .i64 h5] : Array Value)[5]? = some (.int .i64 h5) from rfl)
    go_wp2
    refine bodyPost_ret (v := .tuple #[.bool false, .int .i64 2]) ?_ rfl ⟨rfl, HW.out⟩
    simp [results, Tryd.results21, go_sem]
  by_cases c8 : s ≤ lag
  · clear hbad
    go_enter Tryd.func21, Tryd.ntmps21
    go_upto_region 1 with fail
    obtain ⟨g, hg⟩ : ∃ g, w.heap.size = g := ⟨_, rfl⟩
    rw [hg] at K
    (try rw [hg])
    generalize w.alloc _ = W0 at *
    have d4 := K.out.cell (show (#[.int .i64 h0, .int .i64 h1, .int .i64 h2, .int .i64 h3, .int .i64 h4, .int .i64 h5] : Array Value)[4]? = some (.int .i64 h4) from rfl)
    have d5 := K.out.cell (show (#[.int .i64 h0, .int .i64 h1, .int .i64 h2, .int .i64 h3, .int .i64 h4, .int .i64 h5] : Array Value)[5]? = some (.int .i64 h5) from rfl)
    go_wp2
    refine bodyPost_ret (v := .tuple #[.bool false, .int .i64 2]) ?_ rfl ⟨rfl, HW.out⟩
    simp [results, Tryd.results21, go_sem]
  omega
end Go.Proofs.Sky

namespace Go.Proofs.Sky
open Go Go.RowKit Go.Shelf
attribute [local go_sem] Oper.semAt_some
set_option maxHeartbeats 4000000
set_option maxRecDepth 8000
/-! chapter 40: Fits, its errors -/
theorem Fits_bad (h0 h1 h2 h3 h4 h5 lag s : Int) (w : World) (hbad : s < 1 ∨ 8192 < s ∨ h4 < 0 ∨ s ≤ h4 ∨ h5 < 1 ∨ s < h5 ∨ lag < 0 ∨ s ≤ lag) : Calls Tryd.prog 11 #[.agg #[.int .i64 h0, .int .i64 h1, .int .i64 h2, .int .i64 h3, .int .i64 h4, .int .i64 h5], .int .i64 lag, .int .i64 s] w fun e w' => e = .returned (.tuple #[.bool false, .int .i64 2]) ∧ Bw w w' := by
  have K := Lib.hid (Blk.new w 23 #[.int .i64 h0, .int .i64 h1, .int .i64 h2, .int .i64 h3, .int .i64 h4, .int .i64 h5])
  have HW := Lib.hid (Bw.alloc (Bw.refl w) (.cells #[.int .i64 h0, .int .i64 h1, .int .i64 h2, .int .i64 h3, .int .i64 h4, .int .i64 h5] 23))
  by_cases c1 : s < 1
  · clear hbad
    go_enter Tryd.func11, Tryd.ntmps11
    go_upto_region 1 with fail
    obtain ⟨g, hg⟩ : ∃ g, w.heap.size = g := ⟨_, rfl⟩
    rw [hg] at K
    (try rw [hg])
    generalize w.alloc _ = W0 at *
    have d4 := K.out.cell (show (#[.int .i64 h0, .int .i64 h1, .int .i64 h2, .int .i64 h3, .int .i64 h4, .int .i64 h5] : Array Value)[4]? = some (.int .i64 h4) from rfl)
    have d5 := K.out.cell (show (#[.int .i64 h0, .int .i64 h1, .int .i64 h2, .int .i64 h3, .int .i64 h4, .int .i64 h5] : Array Value)[5]? = some (.int .i64 h5) from rfl)
    go_wp2
    refine bodyPost_ret (v := .tuple #[.bool false, .int .i64 2]) ?_ rfl ⟨rfl, HW.out⟩
    simp [results, Tryd.results11, go_sem]
  by_cases c2 : 8192 < s
  · clear hbad
    go_enter Tryd.func11, Tryd.ntmps11
    go_upto_region 1 with fail
    obtain ⟨g, hg⟩ : ∃ g, w.heap.size = g := ⟨_, rfl⟩
    rw [hg] at K
    (try rw [hg])
    generalize w.alloc _ = W0 at *
    have d4 := K.out.cell (show (#[.int .i64 h0, .int .i64 h1, .int .i64 h2, .int .i64 h3, .int .i64 h4, .int .i64 h5] : Array Value)[4]? = some (.int .i64 h4) from rfl)
    have d5 := K.out.cell (show (#[.int .i64 h0, .int .i64 h1, .int .i64 h2, .int .i64 h3, .int .i64 h4, .int .i64 h5] : Array Value)[5]? = some (.int .i64 h5) from rfl)
    go_wp2
    refine bodyPost_ret (v := .tuple #[.bool false, .int .i64 2]) ?_ rfl ⟨rfl, HW.out⟩
    simp [results, Tryd.results11, go_sem]
  by_cases c3 : h4 < 0
  · clear hbad
    go_enter Tryd.func11, Tryd.ntmps11
    go_upto_region 1 with fail
    obtain ⟨g, hg⟩ : ∃ g, w.heap.size = g := ⟨_, rfl⟩
    rw [hg] at K
    (try rw [hg])
    generalize w.alloc _ = W0 at *
    have d4 := K.out.cell (show (#[.int .i64 h0, .int .i64 h1, .int .i64 h2, .int .i64 h3, .int .i64 h4, .int .i64 h5] : Array Value)[4]? = some (.int .i64 h4) from rfl)
    have d5 := K.out.cell (show (#[.int .i64 h0, .int .i64 h1, .int .i64 h2, .int .i64 h3, .int .i64 h4, .int .i64 h5] : Array Value)[5]? = some (.int .i64 h5) from rfl)
    go_wp2
    refine bodyPost_ret (v := .tuple #[.bool false, .int .i64 2]) ?_ rfl ⟨rfl, HW.out⟩
    simp [results, Tryd.results11, go_sem]
  by_cases c4 : s ≤ h4
  · clear hbad
    go_enter Tryd.func11, Tryd.ntmps11
    go_upto_region 1 with fail
    obtain ⟨g, hg⟩ : ∃ g, w.heap.size = g := ⟨_, rfl⟩
    rw [hg] at K
    (try rw [hg])
    generalize w.alloc _ = W0 at *
    have d4 := K.out.cell (show (#[.int .i64 h0, .int .i64 h1, .int .i64 h2, .int .i64 h3, .int .i64 h4, .int .i64 h5] : Array Value)[4]? = some (.int .i64 h4) from rfl)
    have d5 := K.out.cell (show (#[.int .i64 h0, .int .i64 h1, .int .i64 h2, .int .i64 h3, .int .i64 h4, .int .i64 h5] : Array Value)[5]? = some (.int .i64 h5) from rfl)
    go_wp2
    refine bodyPost_ret (v := .tuple #[.bool false, .int .i64 2]) ?_ rfl ⟨rfl, HW.out⟩
    simp [results, Tryd.results11, go_sem]
  by_cases c5 : h5 < 1
  · clear hbad
    go_enter Tryd.func11, Tryd.ntmps11
    go_upto_region 1 with fail
    obtain ⟨g, hg⟩ : ∃ g, w.heap.size = g := ⟨_, rfl⟩
    rw [hg] at K
    (try rw [hg])
    generalize w.alloc _ = W0 at *
    have d4 := K.out.cell (show (#[.int .i64 h0, .int .i64 h1, .int .i64 h2, .int .i64 h3, .int .i64 h4, .int .i64 h5] : Array Value)[4]? = some (.int .i64 h4) from rfl)
    have d5 := K.out.cell (show (#[.int .i64 h0, .int .i64 h1, .int .i64 h2, .int .i64 h3, .int .i64 h4, .int .i64 h5] : Array Value)[5]? = some (.int .i64 h5) from rfl)
    go_wp2
    refine bodyPost_ret (v := .tuple #[.bool false, .int .i64 2]) ?_ rfl ⟨rfl, HW.out⟩
    simp [results, Tryd.results11, go_sem]
  by_cases c6 : s < h5
  · clear hbad
    go_enter Tryd.func11, Tryd.ntmps11
    go_upto_region 1 with fail
    obtain ⟨g, hg⟩ : ∃ g, w.heap.size = g := ⟨_, rfl⟩
    rw [hg] at K
    (try rw [hg])
    generalize w.alloc _ = W0 at *
    have d4 := K.out.cell (show (#[.int .i64 h0, .int .i64 h1, .int .i64 h2, .int .i64 h3, .int .i64 h4, .int .i64 h5] : Array Value)[4]? = some (.int .i64 h4) from rfl)
    have d5 := K.out.cell (show (#[.int .i64 h0, .int .i64 h1, .int .i64 h2, .int .i64 h3, .int .i64 h4, .int .i64 h5] : Array Value)[5]? = some (.int .i64 h5) from rfl)
    go_wp2
    refine bodyPost_ret (v := .tuple #[.bool false, .int .i64 2]) ?_ rfl ⟨rfl, HW.out⟩
    simp [results, Tryd.results11, go_sem]
  by_cases c7 : lag < 0
  · clear hbad
    go_enter Tryd.func11, Tryd.ntmps11
    go_upto_region 1 with fail
    obtain ⟨g, hg⟩ : ∃ g, w.heap.size = g := ⟨_, rfl⟩
    rw [hg] at K
    (try rw [hg])
    generalize w.alloc _ = W0 at *
    have d4 := K.out.cell (show (#[.int .i64 h0, .int .i64 h1, .int .i64 h2, .int .i64 h3, .int .i64 h4, .int .i64 h5] : Array Value)[4]? = some (.int .i64 h4) from rfl)
    have d5 := K.out.cell (show (#[.int .i64 h0, .int .i64 h1, .int .i64 h2, .int .i64 h3, .int .i64 h4, .int .i64 h5] : Array Value)[5]? = some (.int .i64 h5) from rfl)
    go_wp2
    refine bodyPost_ret (v := .tuple #[.bool false, .int .i64 2]) ?_ rfl ⟨rfl, HW.out⟩
    simp [results, Tryd.results11, go_sem]
  by_cases c8 : s ≤ lag
  · clear hbad
    go_enter Tryd.func11, Tryd.ntmps11
    go_upto_region 1 with fail
    obtain ⟨g, hg⟩ : ∃ g, w.heap.size = g := ⟨_, rfl⟩
    rw [hg] at K
    (try rw [hg])
    generalize w.alloc _ = W0 at *
    have d4 := K.out.cell (show (#[.int .i64 h0, .int .i64 h1, .int .i64 h2, .int .i64 h3, .int .i64 h4, .int .i64 h5] : Array Value)[4]? = some (.int .i64 h4) from rfl)
    have d5 := K.out.cell (show (#[.int .i64 h0, .int .i64 h1, .int .i64 h2, .int .i64 h3, .int .i64 h4, .int .i64 h5] : Array Value)[5]? = some (.int .i64 h5) from rfl)
    go_wp2
    refine bodyPost_ret (v := .tuple #[.bool false, .int .i64 2]) ?_ rfl ⟨rfl, HW.out⟩
    simp [results, Tryd.results11, go_sem]
  omega
end Go.Proofs.Sky
