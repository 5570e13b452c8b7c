/-
  lemmas for the theorems of this claim. No conditions beyond those written in the statements.
-/
import Derived.Test.YtpmopobjlpfdaaaDoorSD40
import Derived.Test.YtpmopobjlpfdaaaDoorI40
set_option linter.unusedVariables false
set_option linter.unusedSimpArgs false
set_option linter.unnecessarySimpa false
namespace Go.Proofs.Sky
open Go Go.RowKit Go.Shelf
attribute [local go_sem] Oper.semAt_some
set_option maxHeartbeats 4000000
set_option maxRecDepth 8000
/-! chapter 40: DeleteFunc, the walk -/
theorem ixH_cases (f : (Nat → Int) → Bool) (hs : List (Nat → Int)) : (ixH f hs = -1 ∧ hs.filter (fun x => !f x) = hs) ∨ ∃ i : Nat, i < hs.length ∧ ixH f hs = i ∧ hs.take i = (hs.take (i + 1)).filter (fun x => !f x) := by
  unfold ixH
  cases h : hs.findIdx? f with
  | none =>
    left
    have h2 := List.findIdx?_eq_none_iff.1 h
    exact ⟨rfl, List.filter_eq_self.2 fun x hx => by rw [h2 x hx]; rfl⟩
  | some i =>
    right
    obtain ⟨hi, ht, hb⟩ := List.findIdx?_eq_some_iff_getElem.1 h
    refine ⟨i, hi, rfl, ?_⟩
    have h3 : (hs.take i).filter (fun x => !f x) = hs.take i := List.filter_eq_self.2 fun x hx => by
      obtain ⟨j, hj, rfl⟩ := List.mem_iff_getElem.1 hx
      rw [List.length_take] at hj
      have h4 := hb j (by omega)
      rw [List.getElem_take]
      simpa using h4
    rw [List.take_add_one, List.getElem?_eq_getElem hi, List.filter_append, h3]
    simp [ht]
theorem deleteFuncH_any (f : (Nat → Int) → Bool) (fn : Nat) (eg : ∀ args w, (callFunc fn args).run Tryd.prog w = .ok (.enter fn args) w)
   (hs : List (Nat → Int)) (rest : List Value) (g c : Nat) (w : World)
   (hp : ∀ x W, Calls Tryd.prog fn #[.agg (hnV x)] W fun e w' => e = .returned (.bool (f x)) ∧ Bw W w')
   (hm : MemH w g hs rest) (hl : hs.length ≤ 1000000) (hlc : hs.length ≤ c) (h0 : 0 < hs.length) :
   Calls Tryd.prog 28 #[.slice (some ⟨g, 0, none⟩) hs.length c, .func (.func fn) #[] #[]] w fun e w' => e = .returned (.slice (some ⟨g, 0, none⟩) (hs.filter fun x => !f x).length c) ∧ (∃ rest', MemH w' g (hs.filter fun x => !f x) rest') ∧ Kx g w w' := by
  have IX := Lib.hid (fun W hv => indexFuncH_any f fn eg hs (.slice (some ⟨g, 0, none⟩) hs.length c) W hp hv)
  have HRD := Lib.hid (MemH.rdH (c := c) hm (by omega))
  have HM := Lib.hid hm
  have HP := Lib.hid hp
  have hgl := hm.lt
  clear hm hp
  rcases ixH_cases f hs with ⟨h1, h2⟩ | ⟨i0, hi0, h1, h2⟩
  · rw [h1] at IX
    rw [h2]
    clear h1 h2
    generalize hs.length = n at *
    go_enter Tryd.func28, Tryd.ntmps28
    go_wp2_with (go_at_call 49; refine (IX.out _ HRD.out).mono ?_; rintro e1 w1 ⟨rfl, hb1⟩)
    go_ret
    exact ⟨rfl, ⟨_, HM.out.bw hb1⟩, Kx.of_bw hb1 (Nat.le_of_lt hgl)⟩
  rw [h1] at IX
  have H2 := Lib.hid h2
  have HDS := Lib.hid (fun (cur : List (Nat → Int)) (i j : Nat) x (h1 : hs[j]? = some x) h2 h3 h4 h5 h6 => del_step (f := fun x => !f x) (hs := hs) (cur := cur) (i := i) (j := j) h1 h2 h3 h4 h5 h6)
  have HDK := Lib.hid (fun (cur : List (Nat → Int)) (i j : Nat) x (h1 : hs[j]? = some x) h2 h3 h4 => del_skip (f := fun x => !f x) (hs := hs) (cur := cur) (i := i) (j := j) h1 h2 h3 h4)
  have HDA := Lib.hid (fun (cur : List (Nat → Int)) (j : Nat) h1 h2 h3 => del_at (hs := hs) (cur := cur) (j := j) h1 h2 h3)
  have HTK := Lib.hid (show (hs.take hs.length).filter (fun x => !f x) = hs.filter (fun x => !f x) by rw [List.take_length])
  clear h1 h2
  have HI0 := Lib.hid hi0
  obtain ⟨n, hn⟩ : ∃ n, hs.length = n := ⟨_, rfl⟩
  have HN := Lib.hid hn
  rw [hn] at hl hlc h0 IX HRD HTK ⊢
  rw [hn] at hi0
  clear hn
  obtain ⟨keep, hkeep⟩ : ∃ keep, (fun x => !f x) = keep := ⟨_, rfl⟩
  rw [hkeep] at H2 HDS HDK HTK ⊢
  have HKP := Lib.hid hkeep
  clear hkeep
  obtain ⟨L, hL⟩ : ∃ L, hs.filter keep = L := ⟨_, rfl⟩
  rw [hL] at HTK ⊢
  clear hL
  have hw1 : IntKind.i64.wrap ((i0 : Int) + 1) = (i0 : Int) + 1 := by rw [IntKind.wrap_i64]; omega
  have hq0 : ¬ ((i0 : Int) = -1) := by omega
  have hq0b : ((i0 : Int) == -1) = false := by simpa using hq0
  go_enter Tryd.func28, Tryd.ntmps28
  go_wp2_with (go_at_call 49; refine (IX.out _ HRD.out).mono ?_; rintro e1 w1 ⟨rfl, hb1⟩)
  go_loopg [5, 6] n (fun gg s5 s6 wr => ∃ i j cur, i < j ∧ j ≤ n ∧ n - j ≤ gg ∧ s5 = .int .i64 ((i : Nat) : Int) ∧ s6 = .int .i64 ((j : Nat) : Int) ∧ Hid (MemH wr g cur rest) ∧ Hid (Kx g w wr) ∧ Hid (cur.length = hs.length ∧ cur.take i = (hs.take j).filter keep ∧ cur.drop j = hs.drop j))
  case atStart => exact ⟨i0, i0 + 1, hs, by omega, by omega, by omega, rfl, by go_num, Lib.hid (HM.out.bw hb1), Lib.hid (Kx.of_bw hb1 (Nat.le_of_lt hgl)), Lib.hid ⟨rfl, H2.out, rfl⟩⟩
  case round =>
    obtain ⟨i, k, cur, hik, hkn, hgg, rfl, rfl, HMr, HK, HF⟩ := hrel
    obtain ⟨wb, rfl⟩ : ∃ wb, wb = wr := ⟨_, rfl⟩
    by_cases hlt : k < n
    · have hltz : (k : Int) < (n : Int) := by omega
      have hkh : k < hs.length := by have := HN.out; omega
      obtain ⟨x, hx⟩ : ∃ x, hs[k]? = some x := ⟨_, List.getElem?_eq_getElem hkh⟩
      have R9 := Lib.hid (HMr.out.rg ((HDA.out cur k hkh HF.out.1 HF.out.2.2).trans hx))
      have HSTEP := Lib.hid (fun h => HDS.out cur i k x hx HF.out.1 hik HF.out.2.1 HF.out.2.2 h)
      have HSKIP := Lib.hid (fun h => HDK.out cur i k x hx HF.out.2.1 HF.out.2.2 h)
      have HTH := Lib.hid (fun W (h : MemH W g cur rest) => h.there (k := i) (by have := HF.out.1; omega))
      have HST := Lib.hid (fun W (h : MemH W g cur rest) => h.set (k := i) (by have := HF.out.1; omega) x)
      have HC := Lib.hid (HP.out x)
      clear hx hkh
      obtain ⟨bx, hfx⟩ : ∃ b, f x = b := ⟨_, rfl⟩
      have HFX := Lib.hid (show (!f x) = !bx by rw [hfx])
      rw [hfx] at HC
      clear hfx
      have K1 := Lib.hid (Blk.new wb 23 #[.int .i64 0, .int .i64 0, .int .i64 0, .int .i64 0, .int .i64 0, .int .i64 0])
      have HW1 := Lib.hid (Bw.alloc (Bw.refl wb) (.cells #[.int .i64 0, .int .i64 0, .int .i64 0, .int .i64 0, .int .i64 0, .int .i64 0] 23))
      have HPX := Lib.hid (show (hnV x).all (·.oneCell') = true by simp [Value.oneCell', hnV])
      have HSX := Lib.hid (show (Tryd.prog.info? 23).map (·.size) = some (hnV x).size by kernel_rfl)
      go_upto_region 8 with (first | ((with_reducible refine at_load 23 (.tmp 24) ?_); refine wpList_load_hn rfl (.tmp 24) rfl g (k * 6) (by simp [Act.eval, Act.put]) R9.out ?_) | ((with_reducible refine at_store 23 (.tmp 7) (.tmp 25) ?_); refine wpList_store_row rfl 23 (.tmp 7) (.tmp 25) rfl wb.heap.size (hnV x) rfl rfl 23 _ K1.out (by kernel_rfl) rfl HPX.out ?_))
      obtain ⟨g1, hg1⟩ : ∃ g1, wb.heap.size = g1 := ⟨_, rfl⟩
      have hbq := Bw.setRow HW1.out (Nat.le_of_eq hg1) (hnV x)
      have K2 := Lib.hid (K1.out.row (hnV x))
      rw [hg1] at K2 ⊢
      have HGL := Lib.hid HMr.out.lt
      have HM := Lib.hid (HMr.out.bw hbq)
      replace HK := Lib.hid (HK.out.trans (Kx.of_bw hbq (Nat.le_of_lt HGL.out)))
      clear HMr HW1 K1 R9
      have hsz := hbq.size
      generalize World.setRow (World.alloc wb _) _ _ = wc at *
      obtain ⟨A, hA⟩ : ∃ A, hnV x = A := ⟨_, rfl⟩
      have HAE := Lib.hid hA
      rw [hA] at K2 HSX HPX HC ⊢
      clear hA hbq hg1
      replace HGL := Lib.hid HM.out.lt
      clear hsz
      have hwk : IntKind.i64.wrap ((k : Int) + 1) = (k : Int) + 1 := by rw [IntKind.wrap_i64]; omega
      cases bx with
      | true =>
        have HG := Lib.hid (HSKIP.out HFX.out)
        go_wp2_with (first | ((with_reducible refine at_load 23 (.tmp 7) ?_); refine wpList_load_row rfl 23 (.tmp 7) rfl g1 rfl 23 A (0, 0) _ K2.out Tryd.underlying23 rfl HSX.out ?_) | (go_at_fn fn; refine (HC.out _).mono ?_; rintro e1 w1 ⟨rfl, hb2⟩; replace K2 := Lib.hid (K2.out.bw hb2); replace HM := Lib.hid (HM.out.bw hb2); replace HK := Lib.hid (HK.out.trans (Kx.of_bw hb2 (Nat.le_of_lt HGL.out))); clear hb2))
        go_roundg (n - (k + 1))
        case measure => omega
        case rel => exact ⟨i, k + 1, cur, by omega, by omega, by omega, rfl, by go_num, HM, HK, Lib.hid ⟨HF.out.1, HG.out⟩⟩
      | false =>
        have HG := Lib.hid (HSTEP.out HFX.out)
        have hwi : IntKind.i64.wrap ((i : Int) + 1) = (i : Int) + 1 := by rw [IntKind.wrap_i64]; omega
        have hin : (i : Int) < (n : Int) := by omega
        go_upto_region 9 with (first | ((with_reducible refine at_load 23 (.tmp 7) ?_); refine wpList_load_row rfl 23 (.tmp 7) rfl g1 rfl 23 A (0, 0) _ K2.out Tryd.underlying23 rfl HSX.out ?_) | (go_at_fn fn; refine (HC.out _).mono ?_; rintro e1 w1 ⟨rfl, hb2⟩; replace K2 := Lib.hid (K2.out.bw hb2); replace HM := Lib.hid (HM.out.bw hb2); replace HK := Lib.hid (HK.out.trans (Kx.of_bw hb2 (Nat.le_of_lt HGL.out))); clear hb2))
        replace HTH := Lib.hid (HTH.out _ HM.out)
        have HS9 := Lib.hid (HST.out _ HM.out)
        have HKS := Lib.hid (HK.out.trans (Kx.sets (hnc x) (i * 6) _ HM.out.lt))
        rw [show hnc x = A.toList by rw [← HAE.out]; rfl] at HS9 HKS
        go_wp2_with (first | ((with_reducible refine at_load 23 (.tmp 7) ?_); refine wpList_load_row rfl 23 (.tmp 7) rfl g1 rfl 23 A (0, 0) _ K2.out Tryd.underlying23 rfl HSX.out ?_) | ((with_reducible refine at_store 23 (.tmp 33) (.tmp 32) ?_); refine wpList_store_mid rfl 23 (.tmp 33) (.tmp 32) rfl g (i * 6) A (by simp [Act.eval, Act.put]) rfl (by rw [← HAE.out]; exact HTH.out) HSX.out HPX.out ?_))
        go_roundg (n - (k + 1))
        case measure => omega
        case rel => exact ⟨i + 1, k + 1, cur.set i x, by omega, by omega, by omega, by go_num, by go_num, HS9, HKS, HG⟩
    · have hltz : ¬ (k : Int) < (n : Int) := by omega
      obtain rfl : k = n := by omega
      obtain ⟨hf1, hf2, hf3⟩ := HF.out
      rw [HTK.out] at hf2
      have hli : L.length = i := by rw [← hf2, List.length_take]; have := HN.out; omega
      have hcl : (MemH wb g cur rest → ∃ rest', MemH (wb.setCells g (i * 6) (List.replicate ((cur.length - i) * 6) (.int .i64 0))) g (cur.take i) rest') := fun h => h.clear (by have := HN.out; omega)
      have HCL := Lib.hid (hcl HMr.out)
      have hrc := run_clear_hn (c := c - i) (i := i) HMr.out (by have := HN.out; omega) 0
      rw [hf2, hf1, HN.out] at HCL
      rw [hf1, HN.out] at hrc
      have HKS := Lib.hid (HK.out.trans (Kx.sets (List.replicate ((k - i) * 6) (.int .i64 0)) (i * 6) _ HMr.out.lt))
      clear hcl hf1 hf2 hf3 HF
      have hik2 : (i : Int) ≤ (k : Int) := by omega
      have hic : (i : Int) ≤ (c : Int) := by omega
      have hine : ¬ c = i := by omega
      have hc0 : ¬ c = 0 := by omega
      go_wp2
      go_ret
      exact ⟨rfl, HCL.out, HKS.out⟩
end Go.Proofs.Sky

namespace Go.Proofs.Sky
open Go Go.RowKit Go.Shelf
attribute [local go_sem] Oper.semAt_some
set_option maxHeartbeats 4000000
set_option maxRecDepth 8000
/-! chapter 40: stable sorting of less than 20 hints -/
theorem stableSmall_any (hs : List (Nat → Int)) (rest : List Value) (g c : Nat) (w : World) (hm : MemH w g hs rest) (hl : hs.length < 20) :
   Calls Tryd.prog 50 #[.slice (some ⟨g, 0, none⟩) hs.length c, .int .i64 hs.length, .func (.func 32) #[] #[]] w (SortP g 0 hs.length hs rest w) := by
  have SI := Lib.hid (insSortH_any hs rest g c 0 hs.length w hm (by omega) (by omega) (Nat.le_refl _))
  have hgl := hm.lt
  clear hm
  obtain ⟨N, hN⟩ : ∃ N, hs.length = N := ⟨_, rfl⟩
  rw [hN] at hl SI ⊢
  clear hN
  have h1 : ¬ (20 : Int) ≤ (N : Int) := by omega
  have h2 : ¬ (20 : Int) < (N : Int) := by omega
  have h3 : (N : Int) < (20 : Int) := by omega
  go_enter Tryd.func50, Tryd.ntmps50
  go_wp2
  go_loopg [7, 8] 1 (fun gg s7 s8 wr => s7 = .int .i64 0 ∧ s8 = .int .i64 20 ∧ wr = w)
  case atStart => exact ⟨rfl, rfl, rfl⟩
  case round =>
    obtain ⟨rfl, rfl, rfl⟩ := hrel
    go_wp2_with (go_at_call 58; refine SI.out.mono ?_; rintro e1 w1 ⟨⟨v1, rfl⟩, cur1, HM1, HK1, HP1, HS1⟩)
    go_loopg [6, 7, 8, 9] 1 (fun gg s6 s7 s8 s9 wq => s6 = .int .i64 20 ∧ wq = w1)
    case atStart => exact ⟨rfl, rfl⟩
    case round =>
      obtain ⟨rfl, rfl⟩ := hrel
      go_wp2
      go_end0
      exact ⟨⟨_, rfl⟩, cur1, HM1, HK1, HP1, HS1⟩
theorem sortSmall_any (hs : List (Nat → Int)) (rest : List Value) (g c : Nat) (w : World) (hm : MemH w g hs rest) (hl : hs.length < 20) :
   Calls Tryd.prog 31 #[.slice (some ⟨g, 0, none⟩) hs.length c, .func (.func 32) #[] #[]] w (SortP g 0 hs.length hs rest w) := by
  have SI := Lib.hid (stableSmall_any hs rest g c w hm hl)
  clear hm
  generalize hs.length = N at *
  go_enter Tryd.func31, Tryd.ntmps31
  go_wp2_with (go_at_call 50; refine SI.out.mono ?_; rintro e1 w1 ⟨⟨v1, rfl⟩, cur1, HM1, HK1, HP1, HS1⟩)
  go_end0
  exact ⟨⟨_, rfl⟩, cur1, HM1, HK1, HP1, HS1⟩
end Go.Proofs.Sky

namespace Go.Proofs.Sky
open Go Go.RowKit Go.Shelf
attribute [local go_sem] Oper.semAt_some
set_option maxHeartbeats 4000000
set_option maxRecDepth 8000
/-! chapter 40: Order -/
theorem own_memH {w : World} {base : Nat} {v : Value} {hs : List (Nat → Int)} (h : w.ownsRow base 23 6 v hs.length (flatH hs)) (h0 : 0 < hs.length) : ∃ g c rest, v = .slice (some ⟨g, 0, none⟩) hs.length c ∧ base ≤ g ∧ hs.length ≤ c ∧ MemH w g hs rest := by
  rcases h.2 with ⟨_, h2⟩ | ⟨g, cap, cur, rfl, hg, hh, hc, _, _, ht⟩
  · omega
  · refine ⟨g, cap, cur.toList.drop (hs.length * 6), rfl, hg, hc, ?_⟩
    unfold MemH Blk
    rw [← ht, List.take_append_drop, Array.toArray_toList]
    exact hh
/-- Clone, DeleteFunc and the sort, one behind the other -/
def ReadyP (g c : Nat) (hs : List (Nat → Int)) (w w' : World) : Prop := ∃ s rest, MemH w' g s rest ∧ Bw w w' ∧ s.Perm (hs.filter fun x => !decide (x 1 = -1)) ∧ Srt 0 s.length s
theorem del_call (hs : List (Nat → Int)) (rest : List Value) (g c : Nat) (w : World) (hm : MemH w g hs rest) (hl : hs.length ≤ 1000000) (hlc : hs.length ≤ c) (h0 : 0 < hs.length) :
   Calls Tryd.prog 28 #[.slice (some ⟨g, 0, none⟩) hs.length c, .func (.func 30) #[] #[]] w fun e w' => e = .returned (.slice (some ⟨g, 0, none⟩) (hs.filter fun x => !decide (x 1 = -1)).length c) ∧ (∃ rest', MemH w' g (hs.filter fun x => !decide (x 1 = -1)) rest') ∧ Kx g w w' :=
  deleteFuncH_any (fun x => decide (x 1 = -1)) 30 (enters_of Tryd.func30 (by kernel_rfl) rfl) hs rest g c w (fun x W => dropB_any x W) hm hl hlc h0
theorem int_next {s : List (Nat → Int)} {k : Nat} (hk : k < s.length) : (s.take (k + 1)).map (fun x => x 0) = (s.take k).map (fun x => x 0) ++ [at0 s k 0] := by
  rw [List.take_add_one, at0_some hk, List.map_append]; rfl
end Go.Proofs.Sky

namespace Go.Proofs.Sky
open Go Go.RowKit Go.Shelf
attribute [local go_sem] Oper.semAt_some
set_option maxHeartbeats 4000000
set_option maxRecDepth 8000
/-! chapter 40: Order, the walk -/
def OrdQ (base : Nat) (hs : List (Nat → Int)) (e : Ending) (w' : World) : Prop := ∃ v', e = .returned v' ∧ RdI w' v' ((ordL hs).map fun x => x 0) ∧ Fresh base v'
theorem order_any (hs : List (Nat → Int)) (v : Value) (w : World) (hv : RdH w v hs) (h0 : 0 < hs.length) (hl : hs.length ≤ 1000)
   (hsort : ∀ cur rest g c W, MemH W g cur rest → cur.length ≤ hs.length → Calls Tryd.prog 31 #[.slice (some ⟨g, 0, none⟩) cur.length c, .func (.func 32) #[] #[]] W (SortP g 0 cur.length cur rest W)) :
   Calls Tryd.prog 10 #[v] w fun e w' => OrdQ w.heap.size hs e w' ∧ Bw w w' := by
  have CL := Lib.hid (cloneHn_any hs hl v w hv)
  obtain ⟨a, c, rfl⟩ := hv.form
  have HSO := Lib.hid hsort
  have HSAME := Lib.hid (fun s h1 h2 => ord_same (l := hs) (s := s) h1 h2)
  clear hv hsort
  go_enter Tryd.func10, Tryd.ntmps10
  go_upto_region 3 with (first | (go_at_call 29; refine CL.out.mono ?_; rintro e1 w1 ⟨⟨v1, rfl, ho1⟩, hb1⟩; obtain ⟨g, c1, rest, rfl, hg, hc1, hM1⟩ := own_memH ho1 h0; have DL := Lib.hid (del_call hs rest g c1 w1 hM1 (by omega) hc1 h0)) | (go_at_call 28; refine DL.out.mono ?_; rintro e2 w2 ⟨rfl, ⟨rest2, hM2⟩, hK2⟩; have SO := Lib.hid (HSO.out _ rest2 g c1 w2 hM2 (List.length_filter_le _ _))) | (go_at_call 31; refine SO.out.mono ?_; rintro e3 w3 ⟨⟨v3, rfl⟩, s, hM3, hK3, hP3, hS3⟩))
  have HM := Lib.hid hM3
  have HW := Lib.hid ((hK2.trans hK3).bw hb1 hg)
  have HSL := Lib.hid hP3.len
  rw [← hP3.len] at hS3 ⊢
  have HEQ := Lib.hid (HSAME.out s hP3.perm hS3)
  have HB := Lib.hid (show w.heap.size ≤ w.heap.size from Nat.le_refl _)
  have hsl : s.length ≤ 1000 := by rw [hP3.len]; exact Nat.le_trans (List.length_filter_le _ _) hl
  clear hM1 hM2 hM3 hK2 hK3 hP3 hS3 DL SO CL HSO ho1 hb1 HSAME hg hc1
  have HNX := Lib.hid (fun k hk => int_next (s := s) (k := k) hk)
  have HTL := Lib.hid (fun k => show ((s.take k).map fun x => x 0).length ≤ 1000 by rw [List.length_map, List.length_take]; omega)
  have HAL := Lib.hid (show (s.take s.length).map (fun x => x 0) = s.map (fun x => x 0) by rw [List.take_length])
  obtain ⟨n, hn⟩ : ∃ n, s.length = n := ⟨_, rfl⟩
  have HN := Lib.hid hn
  rw [hn] at hsl HAL ⊢
  clear hn HSL
  obtain ⟨L, hL⟩ : ∃ L : Nat → List Int, (fun k => (s.take k).map fun x => x 0) = L := ⟨_, rfl⟩
  have HL := Lib.hid hL
  clear hL
  obtain ⟨BB, hBB⟩ : ∃ BB, w.heap.size = BB := ⟨_, rfl⟩
  rw [hBB] at HB
  have HBB := Lib.hid hBB
  clear hBB
  go_wp2
  go_loopg [4, 14] n (fun gg s4 s14 wr => ∃ k : Nat, k ≤ n ∧ n - k ≤ gg ∧ s14 = .int .i64 (k : Int) ∧ Hid (Bw w wr) ∧ Hid (MemH wr g s rest2) ∧ Hid (wr.ownsRow BB 3 1 s4 (L k).length ((L k).map (Value.int .i64))))
  case atStart => exact ⟨0, by omega, by omega, rfl, HW, HM, Lib.hid (by rw [← HL.out]; exact World.ownsRow_nil _ _ _ _)⟩
  case round =>
    obtain ⟨k, hkn, hgg, rfl, HWr, HMr, O1⟩ := hrel
    obtain ⟨wb, rfl⟩ : ∃ wb, wb = wr := ⟨_, rfl⟩
    by_cases hlt : k < n
    · have hltz : (k : Int) < (n : Int) := by omega
      have R9 := Lib.hid (HMr.out.rg (at0_some (l := s) (i := k) (by have := HN.out; omega)))
      have HLN := Lib.hid (show L (k + 1) = L k ++ [at0 s k 0] by rw [← HL.out]; exact HNX.out k (by have := HN.out; omega))
      have HLL := Lib.hid (show (L k).length ≤ 1000 by rw [← HL.out]; exact HTL.out k)
      generalize at0 s k = x at R9 HLN
      have K1 := Lib.hid (Blk.new wb 23 #[.int .i64 0, .int .i64 0, .int .i64 0, .int .i64 0, .int .i64 0, .int .i64 0])
      have HW1 := Lib.hid (Bw.alloc (Bw.refl wb) (.cells #[.int .i64 0, .int .i64 0, .int .i64 0, .int .i64 0, .int .i64 0, .int .i64 0] 23))
      have HPX := Lib.hid (show (hnV x).all (·.oneCell') = true by simp [Value.oneCell', hnV])
      go_upto_region 7 with (first | ((with_reducible refine at_load 23 (.tmp 16) ?_); refine wpList_load_hn rfl (.tmp 16) rfl g (k * 6) (by simp [Act.eval, Act.put]) R9.out ?_) | ((with_reducible refine at_store 23 (.tmp 6) (.tmp 17) ?_); refine wpList_store_row rfl 23 (.tmp 6) (.tmp 17) rfl wb.heap.size (hnV x) rfl rfl 23 _ K1.out (by kernel_rfl) rfl HPX.out ?_))
      obtain ⟨g1, hg1⟩ : ∃ g1, wb.heap.size = g1 := ⟨_, rfl⟩
      have hbq := Bw.setRow HW1.out (Nat.le_of_eq hg1) (hnV x)
      have K2 := Lib.hid (K1.out.row (hnV x))
      rw [hg1] at K2 ⊢
      replace HWr := Lib.hid (HWr.out.trans hbq)
      replace HMr := Lib.hid (HMr.out.bw hbq)
      replace O1 := Lib.hid (own_bw O1.out hbq)
      clear HW1 K1 R9
      generalize World.setRow (World.alloc wb _) _ _ = wc at *
      clear hbq hg1
      have d0 := K2.out.cell (show (hnV x)[0]? = some (.int .i64 (x 0)) from rfl)
      generalize x 0 = z at *
      go_wp2_with (at_builtin; have hba := Bw.alloc (Bw.refl wc) (.cells #[.int .i64 z] 3); replace O1 := Lib.hid (own_bw O1.out hba); replace HWr := Lib.hid (HWr.out.trans hba); replace HMr := Lib.hid (HMr.out.bw hba); clear hba; refine wpList_append_int1 rfl (.tmp 18) (.tmp 21) _ rfl BB 3 Tryd.underlying34 infoInt _ (L k) z rfl O1.out _ rfl (by simp [go_sem]) (by have := HLL.out; omega) (by have := HWr.out.size; have := HBB.out; simp only [World.size_alloc] at *; omega) ?_; intro v8 w8 hown hgr; replace HMr := Lib.hid (show MemH w8 g s rest2 from Blk.kept HMr.out O1.out hgr (by decide)); replace HWr := Lib.hid (bw_grownN HBB.out HWr.out O1.out hgr); replace O1 := Lib.hid hown; clear hown hgr)
      go_roundg (n - (k + 1))
      case measure => omega
      case rel => exact ⟨k + 1, by omega, by omega, by go_num, HWr, HMr, Lib.hid (by rw [HLN.out]; exact O1.out)⟩
    · have hltz : ¬ (k : Int) < (n : Int) := by omega
      obtain rfl : k = n := by omega
      go_wp2
      go_ret
      have hLk : L k = (ordL hs).map fun x => x 0 := by rw [← HEQ.out, ← HAL.out, ← HL.out]
      have ho := O1.out
      rw [hLk, ← HBB.out] at ho
      have hlen : ((ordL hs).map fun x => x 0).length ≤ 9223372036854775807 := by rw [← hLk, ← HL.out]; exact Nat.le_trans (HTL.out k) (by omega)
      exact ⟨⟨_, rfl, (own_rd ho hlen).1, (own_rd ho hlen).2⟩, HWr.out⟩
end Go.Proofs.Sky

namespace Go.Proofs.Sky
open Go Go.RowKit Go.Shelf
attribute [local go_sem] Oper.semAt_some
set_option maxHeartbeats 4000000
set_option maxRecDepth 8000
/-! chapter 40: swapRangeCmpFunc -/
/-- the first i places from a and from b have changed their contents -/
structure SwP (a b i : Nat) (l l' : List (Nat → Int)) : Prop where
  perm : l'.Perm l
  at' : ∀ k, at0 l' k = if a ≤ k ∧ k < a + i then at0 l (k - a + b) else if b ≤ k ∧ k < b + i then at0 l (k - b + a) else at0 l k
theorem SwP.zero (a b : Nat) (l : List (Nat → Int)) : SwP a b 0 l l := ⟨.refl _, fun k => by rw [if_neg (by omega), if_neg (by omega)]⟩
theorem SwP.step {a b i : Nat} {l l' : List (Nat → Int)} (h : SwP a b i l l') (hd : a + i < b) (hb : b + i < l.length) : SwP a b (i + 1) l (swH l' (a + i) (b + i)) := by
  have hl := h.perm.length_eq
  refine ⟨(swH_perm (by omega) (by omega)).trans h.perm, fun k => ?_⟩
  rw [at0_sw (by omega) (by omega), h.at' (a + i), h.at' (b + i), h.at' k]
  rw [if_neg (show ¬ (a ≤ a + i ∧ a + i < a + i) by omega), if_neg (show ¬ (b ≤ a + i ∧ a + i < b + i) by omega)]
  rw [if_neg (show ¬ (a ≤ b + i ∧ b + i < a + i) by omega), if_neg (show ¬ (b ≤ b + i ∧ b + i < b + i) by omega)]
  by_cases e1 : k = b + i
  · subst e1
    rw [if_pos rfl, if_neg (by omega), if_pos (by omega), show b + i - b + a = a + i by omega]
  · rw [if_neg e1]
    by_cases e2 : k = a + i
    · subst e2
      rw [if_pos rfl, if_pos (by omega), show a + i - a + b = b + i by omega]
    · rw [if_neg e2]
      by_cases e3 : a ≤ k ∧ k < a + i
      · rw [if_pos e3, if_pos (by omega)]
      · rw [if_neg e3, if_neg (show ¬ (a ≤ k ∧ k < a + (i + 1)) by omega)]
        by_cases e4 : b ≤ k ∧ k < b + i
        · rw [if_pos e4, if_pos (by omega)]
        · rw [if_neg e4, if_neg (by omega)]
def SwapP (g a b n : Nat) (hs : List (Nat → Int)) (rest : List Value) (w : World) (e : Ending) (w' : World) : Prop := (∃ v, e = .returned v) ∧ ∃ hs', MemH w' g hs' rest ∧ Kx g w w' ∧ SwP a b n hs hs'
theorem swapRange_any (hs : List (Nat → Int)) (rest : List Value) (g c a b n : Nat) (fv : Value) (w : World) (hm : MemH w g hs rest) (hl : hs.length ≤ 1000000) (hab : a + n ≤ b) (hb : b + n ≤ hs.length) :
   Calls Tryd.prog 67 #[.slice (some ⟨g, 0, none⟩) hs.length c, .int .i64 a, .int .i64 b, .int .i64 n, fv] w (SwapP g a b n hs rest w) := by
  have HM0 := Lib.hid hm
  have hgl := hm.lt
  clear hm
  obtain ⟨N, hN⟩ : ∃ N, hs.length = N := ⟨_, rfl⟩
  have HN := Lib.hid hN
  rw [hN] at hl hb ⊢
  clear hN
  go_enter Tryd.func67, Tryd.ntmps67
  go_wp2
  go_loopg [10] n (fun gg s10 wr => ∃ i cur, i ≤ n ∧ n - i ≤ gg ∧ s10 = .int .i64 ((i : Nat) : Int) ∧ Hid (MemH wr g cur rest) ∧ Hid (Kx g w wr) ∧ Hid (SwP a b i hs cur))
  case atStart => exact ⟨0, hs, by omega, by omega, rfl, HM0, Lib.hid (Kx.of_bw (Bw.refl _) (Nat.le_of_lt hgl)), Lib.hid (SwP.zero _ _ _)⟩
  case round =>
    obtain ⟨i, cur, hin, hgg, rfl, HM, HK, HG⟩ := hrel
    obtain ⟨wb, rfl⟩ : ∃ wb, wb = wr := ⟨_, rfl⟩
    by_cases hlt : i < n
    · have hltz : (i : Int) < (n : Int) := by omega
      have hwi : IntKind.i64.wrap ((i : Int) + 1) = (i : Int) + 1 := by rw [IntKind.wrap_i64]; omega
      obtain ⟨X, hX⟩ : ∃ X, X = a + i := ⟨_, rfl⟩
      obtain ⟨Y, hY⟩ : ∃ Y, Y = b + i := ⟨_, rfl⟩
      have hwx : IntKind.i64.wrap ((a : Int) + (i : Int)) = (X : Int) := by rw [IntKind.wrap_i64]; omega
      have hwy : IntKind.i64.wrap ((b : Int) + (i : Int)) = (Y : Int) := by rw [IntKind.wrap_i64]; omega
      have hxn : (X : Int) < (N : Int) := by omega
      have hyn : (Y : Int) < (N : Int) := by omega
      have hcl : cur.length = N := by rw [HG.out.perm.length_eq, HN.out]
      have RX := Lib.hid (HM.out.rg (at0_some (l := cur) (i := X) (by omega)))
      have RY := Lib.hid (HM.out.rg (at0_some (l := cur) (i := Y) (by omega)))
      have HST := Lib.hid (HG.out.step (by omega) (by rw [HN.out]; omega))
      rw [← hX, ← hY] at HST
      have HSW := Lib.hid (show (cur.set X (at0 cur Y)).set Y (at0 cur X) = swH cur X Y from rfl)
      have HXL := Lib.hid (show X < cur.length by omega)
      have HYL := Lib.hid (show Y < (cur.set X (at0 cur Y)).length by rw [List.length_set]; omega)
      clear hcl hX hY
      generalize at0 cur X = x at *
      generalize at0 cur Y = y at *
      go_upto_region 3 with fail
      refine wp_region_held_drew (S := fun _ => True) (by kernel_rfl) trivial (fun hS => ?_)
      have hdr := Bw.drew (Bw.refl wb)
      replace RX := Lib.hid (rg_bw9 RX.out hdr)
      replace RY := Lib.hid (rg_bw9 RY.out hdr)
      replace HK := Lib.hid (HK.out.trans (Kx.of_bw hdr (Nat.le_of_lt HM.out.lt)))
      replace HM := Lib.hid (HM.out.bw hdr)
      clear hdr
      generalize World.drew _ = wd at *
      refine take1 (i := 0) (some 16) rfl rfl (by kernel_rfl) (by kernel_rfl) (by kernel_rfl) (fun _ _ _ _ h => h) rfl hS ?_
      apply Exists.intro
      apply And.intro
      · intro W9 hW9; skip; go_simp; try with_reducible rfl
      simp only [Act.put, List.setIfInBounds_toArray, List.set_cons_zero, List.set_cons_succ]
      refine take1 (i := 1) (some 17) rfl rfl (by kernel_rfl) (by kernel_rfl) (by kernel_rfl) (fun _ _ _ _ h => h) rfl hS ?_
      apply Exists.intro
      apply And.intro
      · intro W9 hW9; skip; go_simp; try with_reducible rfl
      simp only [Act.put, List.setIfInBounds_toArray, List.set_cons_zero, List.set_cons_succ]
      refine take1 (i := 2) (some 18) rfl rfl (by kernel_rfl) (by kernel_rfl) (by kernel_rfl) (fun _ _ _ _ h => h) rfl hS ?_
      apply Exists.intro
      apply And.intro
      · intro W9 hW9; skip; go_simp; try with_reducible rfl
      simp only [Act.put, List.setIfInBounds_toArray, List.set_cons_zero, List.set_cons_succ]
      refine take1 (i := 3) (some 19) rfl rfl (by kernel_rfl) (by kernel_rfl) (by kernel_rfl) (fun _ _ _ _ h => h) rfl hS ?_
      apply Exists.intro
      apply And.intro
      · intro W9 hW9; skip; go_simp; try with_reducible rfl
      simp only [Act.put, List.setIfInBounds_toArray, List.set_cons_zero, List.set_cons_succ]
      refine take1 (i := 4) (some 20) rfl rfl (by kernel_rfl) (by kernel_rfl) (by kernel_rfl) (fun _ _ _ _ h => h) rfl hS ?_
      apply Exists.intro
      apply And.intro
      · intro W9 hW9; skip; go_simp; try with_reducible rfl
      simp only [Act.put, List.setIfInBounds_toArray, List.set_cons_zero, List.set_cons_succ]
      refine take1 (i := 5) (some 21) rfl rfl (by kernel_rfl) (by kernel_rfl) (by kernel_rfl) (fun _ _ _ _ h => h) rfl hS ?_
      apply Exists.intro
      apply And.intro
      · intro W9 hW9; skip; go_simp; try with_reducible rfl
      simp only [Act.put, List.setIfInBounds_toArray, List.set_cons_zero, List.set_cons_succ]
      refine take1 (i := 6) (some 22) rfl rfl (by kernel_rfl) (by kernel_rfl) (by kernel_rfl) (fun _ _ _ _ h => h) rfl hS ?_
      apply Exists.intro
      apply And.intro
      · intro W9 hW9; skip; go_simp; try with_reducible rfl
      simp only [Act.put, List.setIfInBounds_toArray, List.set_cons_zero, List.set_cons_succ]
      refine take1 (i := 7) (some 23) rfl rfl (by kernel_rfl) (by kernel_rfl) (by kernel_rfl) (fun _ _ _ _ h => h) rfl hS ?_
      apply Exists.intro
      apply And.intro
      · intro W9 hW9; skip; go_simp; try with_reducible rfl
      simp only [Act.put, List.setIfInBounds_toArray, List.set_cons_zero, List.set_cons_succ]
      refine take1 (i := 8) (some 24) rfl rfl (by kernel_rfl) (by kernel_rfl) (by kernel_rfl) (fun _ _ _ _ h => h) rfl hS ?_
      apply Exists.intro
      apply And.intro
      · intro W9 hW9; skip; go_simp; try with_reducible rfl
      simp only [Act.put, List.setIfInBounds_toArray, List.set_cons_zero, List.set_cons_succ]
      refine take1 (i := 9) (some 25) rfl rfl (by kernel_rfl) (by kernel_rfl) (by kernel_rfl) (fun _ _ _ _ h => h) rfl hS ?_
      apply Exists.intro
      apply And.intro
      · intro W9 hW9; skip; go_simp; try with_reducible rfl
      simp only [Act.put, List.setIfInBounds_toArray, List.set_cons_zero, List.set_cons_succ]
      refine take1 (i := 10) (some 26) rfl rfl (by kernel_rfl) (by kernel_rfl) (by kernel_rfl) (fun _ _ _ _ h => h) rfl hS ?_
      apply Exists.intro
      apply And.intro
      · intro W9 hW9; skip; go_simp; try with_reducible rfl
      simp only [Act.put, List.setIfInBounds_toArray, List.set_cons_zero, List.set_cons_succ]
      refine take1 (i := 11) (some 27) rfl rfl (by kernel_rfl) (by kernel_rfl) (by kernel_rfl) (fun _ _ _ _ h => h) rfl hS ?_
      apply Exists.intro
      apply And.intro
      · intro W9 hW9; skip; go_simp; try with_reducible rfl
      simp only [Act.put, List.setIfInBounds_toArray, List.set_cons_zero, List.set_cons_succ]
      refine take1 (i := 12) (some 28) rfl rfl (by kernel_rfl) (by kernel_rfl) (by kernel_rfl) (fun _ _ _ _ h => h) rfl hS ?_
      apply Exists.intro
      apply And.intro
      · intro W9 hW9; skip; go_simp; try with_reducible rfl
      simp only [Act.put, List.setIfInBounds_toArray, List.set_cons_zero, List.set_cons_succ]
      refine take1 (i := 14) (some 30) rfl rfl (by kernel_rfl) (by kernel_rfl) (by kernel_rfl) (fun _ _ _ _ h => h) rfl hS ?_
      apply Exists.intro
      apply And.intro
      · intro W9 hW9; skip; go_simp; try with_reducible rfl
      simp only [Act.put, List.setIfInBounds_toArray, List.set_cons_zero, List.set_cons_succ]
      refine take1 (i := 15) (some 31) rfl rfl (by kernel_rfl) (by kernel_rfl) (by kernel_rfl) (fun _ _ _ _ h => h) rfl hS ?_
      apply Exists.intro
      apply And.intro
      · intro W9 hW9; skip; go_simp; try with_reducible rfl
      simp only [Act.put, List.setIfInBounds_toArray, List.set_cons_zero, List.set_cons_succ]
      refine take1 (i := 16) (some 32) rfl rfl (by kernel_rfl) (by kernel_rfl) (by kernel_rfl) (fun _ _ _ _ h => h) rfl hS ?_
      apply Exists.intro
      apply And.intro
      · intro W9 hW9; skip; go_simp; try with_reducible rfl
      simp only [Act.put, List.setIfInBounds_toArray, List.set_cons_zero, List.set_cons_succ]
      refine take1 (i := 17) (some 33) rfl rfl (by kernel_rfl) (by kernel_rfl) (by kernel_rfl) (fun _ _ _ _ h => h) rfl hS ?_
      apply Exists.intro
      apply And.intro
      · intro W9 hW9; skip; go_simp; try with_reducible rfl
      simp only [Act.put, List.setIfInBounds_toArray, List.set_cons_zero, List.set_cons_succ]
      refine take1 (i := 18) (some 34) rfl rfl (by kernel_rfl) (by kernel_rfl) (by kernel_rfl) (fun _ _ _ _ h => h) rfl hS ?_
      apply Exists.intro
      apply And.intro
      · intro W9 hW9; skip; go_simp; try with_reducible rfl
      simp only [Act.put, List.setIfInBounds_toArray, List.set_cons_zero, List.set_cons_succ]
      refine wpAnyH_ready (rs := [13, 19]) (by kernel_rfl) (by simp) ?_
      refine AllReadyH.cons rfl (fun K hK => ?_) ?_
      refine wp_load_hn (.tmp 28) rfl (some 29) rfl g (Y * 6) (by simp [Act.eval, Act.put]) RY.out ?_
      simp only [Act.put, List.setIfInBounds_toArray, List.set_cons_zero, List.set_cons_succ]
      refine hK.out _ _ trivial (fun hS => ?_)
      clear hK K
      skip
      refine wpAnyH_ready (rs := [19]) (by kernel_rfl) (by simp) ?_
      refine AllReadyH.cons rfl (fun K hK => ?_) ?_
      refine wp_load_hn (.tmp 34) rfl (some 35) rfl g (X * 6) (by simp [Act.eval, Act.put]) RX.out ?_
      simp only [Act.put, List.setIfInBounds_toArray, List.set_cons_zero, List.set_cons_succ]
      refine hK.out _ _ trivial (fun hS => ?_)
      clear hK K
      skip
      refine take1 (i := 20) (some 36) rfl rfl (by kernel_rfl) (by kernel_rfl) (by kernel_rfl) (fun _ _ _ _ h => h) rfl hS ?_
      apply Exists.intro
      apply And.intro
      · intro W9 hW9; skip; go_simp; try with_reducible rfl
      simp only [Act.put, List.setIfInBounds_toArray, List.set_cons_zero, List.set_cons_succ]
      refine wpAnyH_ready (rs := [21]) (by kernel_rfl) (by simp) ?_
      refine AllReadyH.cons rfl (fun K hK => ?_) ?_
      refine wp_store_mid0 23 (.tmp 36) (.tmp 29) rfl rfl g (X * 6) (hnV y) (by simp [Act.eval, Act.put]) rfl (HM.out.there HXL.out) (by kernel_rfl) (by simp [Value.oneCell', hnV]) ?_
      have HM2 := Lib.hid (HM.out.set HXL.out y)
      have HK2 := Lib.hid (HK.out.trans (Kx.sets (hnc y) (X * 6) _ HM.out.lt))
      rw [show (hnV y).toList = hnc y from rfl]
      refine hK.out _ _ trivial (fun hS => ?_)
      clear hK K
      clear RX RY
      generalize World.setCells wd g (X * 6) (hnc y) = we at *
      refine take1 (i := 22) (some 37) rfl rfl (by kernel_rfl) (by kernel_rfl) (by kernel_rfl) (fun _ _ _ _ h => h) rfl hS ?_
      apply Exists.intro
      apply And.intro
      · intro W9 hW9; skip; go_simp; try with_reducible rfl
      simp only [Act.put, List.setIfInBounds_toArray, List.set_cons_zero, List.set_cons_succ]
      refine wpAnyH_ready (rs := [23]) (by kernel_rfl) (by simp) ?_
      refine AllReadyH.cons rfl (fun K hK => ?_) ?_
      refine wp_store_mid0 23 (.tmp 37) (.tmp 35) rfl rfl g (Y * 6) (hnV x) (by simp [Act.eval, Act.put]) rfl (HM2.out.there HYL.out) (by kernel_rfl) (by simp [Value.oneCell', hnV]) ?_
      have HM3 := Lib.hid (HM2.out.set HYL.out x)
      have HK3 := Lib.hid (HK2.out.trans (Kx.sets (hnc x) (Y * 6) _ HM2.out.lt))
      rw [show (hnV x).toList = hnc x from rfl]
      refine hK.out _ _ trivial (fun hS => ?_)
      clear hK K
      generalize World.setCells we g (Y * 6) (hnc x) = wf at *
      refine wpAnyH_done (by kernel_rfl) ?_ _
      rotate_left
      exact AllReadyH.nil
      exact AllReadyH.nil
      exact AllReadyH.nil
      refine AllReadyH.cons rfl (fun K hK => ?_) ?_
      refine wp_load_hn (.tmp 34) rfl (some 35) rfl g (X * 6) (by simp [Act.eval, Act.put]) RX.out ?_
      simp only [Act.put, List.setIfInBounds_toArray, List.set_cons_zero, List.set_cons_succ]
      refine hK.out _ _ trivial (fun hS => ?_)
      clear hK K
      skip
      refine wpAnyH_ready (rs := [13]) (by kernel_rfl) (by simp) ?_
      refine AllReadyH.cons rfl (fun K hK => ?_) ?_
      refine wp_load_hn (.tmp 28) rfl (some 29) rfl g (Y * 6) (by simp [Act.eval, Act.put]) RY.out ?_
      simp only [Act.put, List.setIfInBounds_toArray, List.set_cons_zero, List.set_cons_succ]
      refine hK.out _ _ trivial (fun hS => ?_)
      clear hK K
      skip
      refine take1 (i := 20) (some 36) rfl rfl (by kernel_rfl) (by kernel_rfl) (by kernel_rfl) (fun _ _ _ _ h => h) rfl hS ?_
      apply Exists.intro
      apply And.intro
      · intro W9 hW9; skip; go_simp; try with_reducible rfl
      simp only [Act.put, List.setIfInBounds_toArray, List.set_cons_zero, List.set_cons_succ]
      refine wpAnyH_ready (rs := [21]) (by kernel_rfl) (by simp) ?_
      refine AllReadyH.cons rfl (fun K hK => ?_) ?_
      refine wp_store_mid0 23 (.tmp 36) (.tmp 29) rfl rfl g (X * 6) (hnV y) (by simp [Act.eval, Act.put]) rfl (HM.out.there HXL.out) (by kernel_rfl) (by simp [Value.oneCell', hnV]) ?_
      have HM2 := Lib.hid (HM.out.set HXL.out y)
      have HK2 := Lib.hid (HK.out.trans (Kx.sets (hnc y) (X * 6) _ HM.out.lt))
      rw [show (hnV y).toList = hnc y from rfl]
      refine hK.out _ _ trivial (fun hS => ?_)
      clear hK K
      clear RX RY
      generalize World.setCells wd g (X * 6) (hnc y) = we at *
      refine take1 (i := 22) (some 37) rfl rfl (by kernel_rfl) (by kernel_rfl) (by kernel_rfl) (fun _ _ _ _ h => h) rfl hS ?_
      apply Exists.intro
      apply And.intro
      · intro W9 hW9; skip; go_simp; try with_reducible rfl
      simp only [Act.put, List.setIfInBounds_toArray, List.set_cons_zero, List.set_cons_succ]
      refine wpAnyH_ready (rs := [23]) (by kernel_rfl) (by simp) ?_
      refine AllReadyH.cons rfl (fun K hK => ?_) ?_
      refine wp_store_mid0 23 (.tmp 37) (.tmp 35) rfl rfl g (Y * 6) (hnV x) (by simp [Act.eval, Act.put]) rfl (HM2.out.there HYL.out) (by kernel_rfl) (by simp [Value.oneCell', hnV]) ?_
      have HM3 := Lib.hid (HM2.out.set HYL.out x)
      have HK3 := Lib.hid (HK2.out.trans (Kx.sets (hnc x) (Y * 6) _ HM2.out.lt))
      rw [show (hnV x).toList = hnc x from rfl]
      refine hK.out _ _ trivial (fun hS => ?_)
      clear hK K
      generalize World.setCells we g (Y * 6) (hnc x) = wf at *
      refine wpAnyH_done (by kernel_rfl) ?_ _
      rotate_left
      exact AllReadyH.nil
      exact AllReadyH.nil
      exact AllReadyH.nil
      exact AllReadyH.nil
      all_goals
        go_wp2
        go_roundg (n - (i + 1))
        case measure => omega
        case rel => exact ⟨i + 1, swH cur X Y, by omega, by omega, by go_num, by rw [← HSW.out]; exact HM3, HK3, HST⟩
    · have hltz : ¬ (i : Int) < (n : Int) := by omega
      obtain rfl : i = n := by omega
      go_wp2
      go_end0
      exact ⟨⟨_, rfl⟩, cur, HM.out, HK.out, HG.out⟩
end Go.Proofs.Sky

namespace Go.Proofs.Sky
open Go Go.RowKit Go.Shelf
attribute [local go_sem] Oper.semAt_some
set_option maxHeartbeats 4000000
set_option maxRecDepth 8000
/-! chapter 40: rotateCmpFunc -/
/-- the places p..q and q..r have changed their order -/
structure RotP (p q r : Nat) (l l' : List (Nat → Int)) : Prop where
  perm : l'.Perm l
  at' : ∀ k, at0 l' k = if p ≤ k ∧ k < p + (r - q) then at0 l (k + (q - p)) else if p + (r - q) ≤ k ∧ k < r then at0 l (k - (r - q)) else at0 l k
theorem RotP.last {m i : Nat} {l l' : List (Nat → Int)} (h : SwP (m - i) m i l l') (hi : i ≤ m) : RotP (m - i) m (m + i) l l' := by
  refine ⟨h.perm, fun k => ?_⟩
  rw [h.at' k]
  repeat' split
  all_goals first | rfl | (exfalso; omega) | (congr 1; omega)
theorem RotP.left {m i j : Nat} {l l1 l' : List (Nat → Int)} (h : SwP (m - i) m j l l1) (hi : i ≤ m) (hj : j < i) (k : RotP (m - (i - j)) m (m + j) l1 l') : RotP (m - i) m (m + j) l l' := by
  refine ⟨k.perm.trans h.perm, fun x => ?_⟩
  rw [k.at' x, h.at' (x + (m - (m - (i - j)))), h.at' (x - (m + j - m)), h.at' x]
  repeat' split
  all_goals first | rfl | (exfalso; omega) | (congr 1; omega)
theorem RotP.right {m i j : Nat} {l l1 l' : List (Nat → Int)} (h : SwP (m - i) (m + j - i) i l l1) (hi : i ≤ m) (hj : i < j) (k : RotP (m - i) m (m + (j - i)) l1 l') : RotP (m - i) m (m + j) l l' := by
  refine ⟨k.perm.trans h.perm, fun x => ?_⟩
  rw [k.at' x, h.at' (x + (m - (m - i))), h.at' (x - (m + (j - i) - m)), h.at' x]
  repeat' split
  all_goals first | rfl | (exfalso; omega) | (congr 1; omega)
def RotateP (g a m b : Nat) (hs : List (Nat → Int)) (rest : List Value) (w : World) (e : Ending) (w' : World) : Prop := (∃ v, e = .returned v) ∧ ∃ hs', MemH w' g hs' rest ∧ Kx g w w' ∧ RotP a m b hs hs'
theorem rotate_any (hs : List (Nat → Int)) (rest : List Value) (g c a m b : Nat) (fv : Value) (w : World) (hm : MemH w g hs rest) (hl : hs.length ≤ 1000000) (ham : a < m) (hmb : m < b) (hb : b ≤ hs.length) :
   Calls Tryd.prog 66 #[.slice (some ⟨g, 0, none⟩) hs.length c, .int .i64 a, .int .i64 m, .int .i64 b, fv] w (RotateP g a m b hs rest w) := by
  have HM0 := Lib.hid hm
  have hgl := hm.lt
  clear hm
  obtain ⟨N, hN⟩ : ∃ N, hs.length = N := ⟨_, rfl⟩
  have HN := Lib.hid hN
  rw [hN] at hl hb ⊢
  clear hN
  have SR := Lib.hid (fun (cur : List (Nat → Int)) (x y n : Nat) (W : World) (h : cur.length = N) (h1 : MemH W g cur rest) (h2 : x + n ≤ y) (h3 : y + n ≤ N) => (show Calls Tryd.prog 67 #[.slice (some ⟨g, 0, none⟩) N c, .int .i64 x, .int .i64 y, .int .i64 n, fv] W (SwapP g x y n cur rest W) from by
    have h9 := swapRange_any cur rest g c x y n fv W h1 (by omega) h2 (by omega)
    rwa [h] at h9))
  obtain ⟨i0, hi0⟩ : ∃ i0, m - a = i0 := ⟨_, rfl⟩
  obtain ⟨j0, hj0⟩ : ∃ j0, b - m = j0 := ⟨_, rfl⟩
  have hwi0 : IntKind.i64.wrap ((m : Int) - (a : Int)) = (i0 : Int) := by rw [IntKind.wrap_i64]; omega
  have hwj0 : IntKind.i64.wrap ((b : Int) - (m : Int)) = (j0 : Int) := by rw [IntKind.wrap_i64]; omega
  have HI0 := Lib.hid hi0
  have HJ0 := Lib.hid hj0
  clear hi0 hj0
  go_enter Tryd.func66, Tryd.ntmps66
  go_wp2
  go_loopg [10, 11] N (fun gg s10 s11 wr => ∃ i j cur, 0 < i ∧ 0 < j ∧ i ≤ m - a ∧ j ≤ b - m ∧ i + j ≤ gg + 2 ∧ s10 = .int .i64 ((i : Nat) : Int) ∧ s11 = .int .i64 ((j : Nat) : Int) ∧ Hid (MemH wr g cur rest) ∧ Hid (Kx g w wr) ∧ Hid (cur.length = N ∧ ∀ l', RotP (m - i) m (m + j) cur l' → RotP a m b hs l'))
  case atStart => exact ⟨i0, j0, hs, by have := HI0.out; omega, by have := HJ0.out; omega, by have := HI0.out; omega, by have := HJ0.out; omega, by have := HI0.out; have := HJ0.out; omega, rfl, rfl, HM0, Lib.hid (Kx.of_bw (Bw.refl _) (Nat.le_of_lt hgl)), Lib.hid ⟨HN.out, fun l' h => by rwa [show m - i0 = a by have := HI0.out; omega, show m + j0 = b by have := HJ0.out; omega] at h⟩⟩
  case round =>
    obtain ⟨i, j, cur, hip, hjp, him, hjm, hgg, rfl, rfl, HM, HK, HG⟩ := hrel
    obtain ⟨wb, rfl⟩ : ∃ wb, wb = wr := ⟨_, rfl⟩
    obtain ⟨p, hp⟩ : ∃ p, m - i = p := ⟨_, rfl⟩
    have hwp : IntKind.i64.wrap ((m : Int) - (i : Int)) = (p : Int) := by rw [IntKind.wrap_i64]; omega
    have HP := Lib.hid hp
    clear hp
    by_cases hlt : i = j
    · subst hlt
      have SC := Lib.hid (SR.out cur p m i wb HG.out.1 HM.out (by have := HP.out; omega) (by omega))
      go_wp2_with (go_at_call 67; refine SC.out.mono ?_; rintro e1 w1 ⟨⟨v1, rfl⟩, cur1, HM1, HK1, HS1⟩)
      go_end0
      exact ⟨⟨_, rfl⟩, cur1, HM1, HK.out.trans HK1, HG.out.2 _ (RotP.last (by rw [HP.out]; exact HS1) (by omega))⟩
    · have hne : ¬ (i : Int) = (j : Int) := by omega
      have hneb : ((i : Int) != (j : Int)) = true := by simpa using hne
      by_cases hgt : j < i
      · have hgz : (j : Int) < (i : Int) := by omega
        obtain ⟨i1, hi1⟩ : ∃ i1, i - j = i1 := ⟨_, rfl⟩
        have hwi1 : IntKind.i64.wrap ((i : Int) - (j : Int)) = (i1 : Int) := by rw [IntKind.wrap_i64]; omega
        have HI1 := Lib.hid hi1
        clear hi1
        have SC := Lib.hid (SR.out cur p m j wb HG.out.1 HM.out (by have := HP.out; omega) (by omega))
        go_wp2_with (go_at_call 67; refine SC.out.mono ?_; rintro e1 w1 ⟨⟨v1, rfl⟩, cur1, HM1, HK1, HS1⟩)
        go_roundg (i1 + j - 2)
        case measure => have := HI1.out; omega
        case rel => exact ⟨i1, j, cur1, by have := HI1.out; omega, by omega, by have := HI1.out; omega, by omega, by have := HI1.out; omega, rfl, rfl, Lib.hid HM1, Lib.hid (HK.out.trans HK1), Lib.hid ⟨by rw [HS1.perm.length_eq]; exact HG.out.1, fun l' h => HG.out.2 _ (RotP.left (by rw [HP.out]; exact HS1) (by omega) hgt (by rw [HI1.out]; exact h))⟩⟩
      · have hgz : ¬ (j : Int) < (i : Int) := by omega
        obtain ⟨j1, hj1⟩ : ∃ j1, j - i = j1 := ⟨_, rfl⟩
        have hwj1 : IntKind.i64.wrap ((j : Int) - (i : Int)) = (j1 : Int) := by rw [IntKind.wrap_i64]; omega
        obtain ⟨t, ht⟩ : ∃ t, m + j = t := ⟨_, rfl⟩
        have hwt : IntKind.i64.wrap ((m : Int) + (j : Int)) = (t : Int) := by rw [IntKind.wrap_i64]; omega
        obtain ⟨q, hq⟩ : ∃ q, t - i = q := ⟨_, rfl⟩
        have hwq : IntKind.i64.wrap ((t : Int) - (i : Int)) = (q : Int) := by rw [IntKind.wrap_i64]; omega
        have HJ1 := Lib.hid hj1
        have HT := Lib.hid ht
        have HQ := Lib.hid hq
        clear hj1 ht hq
        have SC := Lib.hid (SR.out cur p q i wb HG.out.1 HM.out (by have := HP.out; have := HQ.out; have := HT.out; omega) (by have := HQ.out; have := HT.out; omega))
        go_wp2_with (go_at_call 67; refine SC.out.mono ?_; rintro e1 w1 ⟨⟨v1, rfl⟩, cur1, HM1, HK1, HS1⟩)
        go_roundg (i + j1 - 2)
        case measure => have := HJ1.out; omega
        case rel => exact ⟨i, j1, cur1, by omega, by have := HJ1.out; omega, by omega, by have := HJ1.out; omega, by have := HJ1.out; omega, rfl, rfl, Lib.hid HM1, Lib.hid (HK.out.trans HK1), Lib.hid ⟨by rw [HS1.perm.length_eq]; exact HG.out.1, fun l' h => HG.out.2 _ (RotP.right (by rw [HP.out, HT.out, HQ.out]; exact HS1) (by omega) (by omega) (by rw [HJ1.out]; exact h))⟩⟩
end Go.Proofs.Sky

namespace Go.Proofs.Sky
open Go Go.RowKit Go.Shelf
/-! chapter 40: symMerge, in plain Lean -/
theorem RotP.pi {p q r : Nat} {l l' : List (Nat → Int)} (h : RotP p q r l l') (h1 : p ≤ q) (h2 : q ≤ r) : PI p r l l' := by
  refine ⟨h.perm, fun i hi => ?_, fun i hi1 hi2 => ?_⟩
  · rw [h.at' i, if_neg (by omega), if_neg (by omega)]
  · rw [h.at' i]
    split
    · exact ⟨i + (q - p), by omega, by omega, rfl⟩
    · rw [if_pos (by omega)]; exact ⟨i - (r - q), by omega, by omega, rfl⟩
theorem RotP.none {p q r : Nat} (l : List (Nat → Int)) (h : p = q ∨ q = r) (h1 : p ≤ q) (h2 : q ≤ r) : RotP p q r l l := by
  refine ⟨.refl _, fun k => ?_⟩
  rcases h with rfl | rfl
  all_goals
    repeat' split
    all_goals first | rfl | (exfalso; omega) | (congr 1; omega)
/-- what the turn leaves: four sorted parts, the first two before the last two -/
structure Parts4 (a st mid en b : Nat) (l : List (Nat → Int)) : Prop where
  s1 : Srt a st l
  s2 : Srt st mid l
  s3 : Srt mid en l
  s4 : Srt en b l
  le : ∀ p q, a ≤ p → p < mid → mid ≤ q → q < b → leH (at0 l p) (at0 l q)
theorem parts4 {a m b st mid en lo hi : Nat} {l l' : List (Nat → Int)} (h1 : Srt a m l) (h2 : Srt m b l) (hen : en + st = mid + m) (hst1 : a ≤ st) (hst2 : st ≤ m) (hen1 : m ≤ en) (hen2 : en ≤ b) (hm1 : st ≤ mid) (hm2 : mid ≤ en)
   (hlo : lo ≤ st) (hhi : st ≤ hi) (hL : st = lo ∨ ¬ cmpHn (at0 l (mid + m - 1 - (st - 1))) (at0 l (st - 1)) < 0) (hH : st = hi ∨ cmpHn (at0 l (mid + m - 1 - st)) (at0 l st) < 0)
   (hl1 : st = lo → st = a ∨ en = b) (hh1 : st = hi → st = m ∨ en = m) (h : RotP st m en l l') : Parts4 a st mid en b l' := by
  have e1 : ∀ k, k < st → at0 l' k = at0 l k := fun k hk => by rw [h.at' k, if_neg (by omega), if_neg (by omega)]
  have e2 : ∀ k, st ≤ k → k < mid → at0 l' k = at0 l (k + (m - st)) := fun k hk1 hk2 => by rw [h.at' k, if_pos (by omega)]
  have e3 : ∀ k, mid ≤ k → k < en → at0 l' k = at0 l (k - (en - m)) := fun k hk1 hk2 => by rw [h.at' k, if_neg (by omega), if_pos (by omega)]
  have e4 : ∀ k, en ≤ k → at0 l' k = at0 l k := fun k hk => by rw [h.at' k, if_neg (by omega), if_neg (by omega)]
  have r1 : ∀ p q, a ≤ p → p ≤ q → q < m → leH (at0 l p) (at0 l q) := fun p q x y z => by
    rcases Nat.lt_or_ge p q with hq | hq
    · exact h1 p q x hq z
    · obtain rfl : p = q := by omega
      exact leH_refl _
  have r2 : ∀ p q, m ≤ p → p ≤ q → q < b → leH (at0 l p) (at0 l q) := fun p q x y z => by
    rcases Nat.lt_or_ge p q with hq | hq
    · exact h2 p q x hq z
    · obtain rfl : p = q := by omega
      exact leH_refl _
  refine ⟨fun p q x y z => ?_, fun p q x y z => ?_, fun p q x y z => ?_, fun p q x y z => ?_, fun p q x y z u => ?_⟩
  · rw [e1 p (by omega), e1 q (by omega)]; exact h1 p q x y (by omega)
  · rw [e2 p x (by omega), e2 q (by omega) z]; exact h2 _ _ (by omega) (by omega) (by omega)
  · rw [e3 p x (by omega), e3 q (by omega) z]; exact h1 _ _ (by omega) (by omega) (by omega)
  · rw [e4 p x, e4 q (by omega)]; exact h2 p q (by omega) y z
  · rcases Nat.lt_or_ge p st with hp | hp <;> rcases Nat.lt_or_ge q en with hq | hq
    · rw [e1 p hp, e3 q z hq]; exact r1 _ _ x (by omega) (by omega)
    · rw [e1 p hp, e4 q hq]
      have hc : leH (at0 l (st - 1)) (at0 l en) := by
        rcases hL with he | hc
        · rcases hl1 he with h9 | h9 <;> omega
        · rw [show mid + m - 1 - (st - 1) = en by omega] at hc; exact hc
      exact leH_trans (r1 p (st - 1) x (by omega) (by omega)) (leH_trans hc (r2 en q (by omega) hq u))
    · rw [e2 p hp y, e3 q z hq]
      have hc : leH (at0 l (en - 1)) (at0 l st) := by
        rcases hH with he | hc
        · rcases hh1 he with h9 | h9 <;> omega
        · rw [show mid + m - 1 - st = en - 1 by omega] at hc; exact leH_lt hc
      exact leH_trans (r2 (p + (m - st)) (en - 1) (by omega) (by omega) (by omega)) (leH_trans hc (r1 st (q - (en - m)) (by omega) (by omega) (by omega)))
    · rw [e2 p hp y, e4 q hq]; exact r2 _ _ (by omega) (by omega) u
theorem Srt.keep {a b c d : Nat} {l l' : List (Nat → Int)} (h : Srt c d l) (hp : PI a b l l') (hd : d ≤ a ∨ b ≤ c) : Srt c d l' := fun p q x y z => by
  rw [hp.out p (by omega), hp.out q (by omega)]; exact h p q x y z
theorem join_halves {a mid b : Nat} {l1 l2 l3 : List (Nat → Int)} (hle : ∀ p q, a ≤ p → p < mid → mid ≤ q → q < b → leH (at0 l1 p) (at0 l1 q)) (h1 : PI a mid l1 l2) (s1 : Srt a mid l2) (h2 : PI mid b l2 l3) (s2 : Srt mid b l3) : Srt a b l3 := fun p q x y z => by
  rcases Nat.lt_or_ge q mid with hq | hq
  · rw [h2.out p (by omega), h2.out q (by omega)]; exact s1 p q x y hq
  · rcases Nat.lt_or_ge p mid with hp | hp
    · rw [h2.out p (by omega)]
      obtain ⟨q', hq1, hq2, e⟩ := h2.ins q hq z
      obtain ⟨p', hp1, hp2, e2⟩ := h1.ins p x hp
      rw [e, e2, h1.out q' (by omega)]
      exact hle p' q' hp1 hp2 hq1 hq2
    · exact s2 p q hp y z
/-- the element of the place a has gone up to the place k -/
structure MovU (a k : Nat) (l l' : List (Nat → Int)) : Prop where
  perm : l'.Perm l
  at' : ∀ p, at0 l' p = if a ≤ p ∧ p < k then at0 l (p + 1) else if p = k then at0 l a else at0 l p
theorem MovU.zero (a : Nat) (l : List (Nat → Int)) : MovU a a l l := ⟨.refl _, fun p => by
  rw [if_neg (by omega)]; split
  · rename_i h; rw [h]
  · rfl⟩
theorem MovU.step {a k : Nat} {l l' : List (Nat → Int)} (h : MovU a k l l') (ha : a ≤ k) (hk : k + 1 < l.length) : MovU a (k + 1) l (swH l' k (k + 1)) := by
  have hl := h.perm.length_eq
  refine ⟨(swH_perm (by omega) (by omega)).trans h.perm, fun p => ?_⟩
  rw [at0_sw (by omega) (by omega), h.at' k, h.at' (k + 1), h.at' p]
  repeat' split
  all_goals first | rfl | (exfalso; omega) | (congr 1; omega) | (subst_vars; first | rfl | (exfalso; omega))
theorem MovU.pi {a k b : Nat} {l l' : List (Nat → Int)} (h : MovU a k l l') (ha : a ≤ k) (hk : k < b) : PI a b l l' := by
  refine ⟨h.perm, fun i hi => ?_, fun i h1 h2 => ?_⟩
  · rw [h.at' i, if_neg (by omega), if_neg (by omega)]
  · rw [h.at' i]
    split
    · exact ⟨i + 1, by omega, by omega, rfl⟩
    · split
      · exact ⟨a, by omega, by omega, rfl⟩
      · exact ⟨i, h1, h2, rfl⟩
theorem MovU.srt {a i b : Nat} {l l' : List (Nat → Int)} (h : MovU a (i - 1) l l') (hs : Srt (a + 1) b l) (hi : a + 1 ≤ i) (hib : i ≤ b) (hL : i = a + 1 ∨ cmpHn (at0 l (i - 1)) (at0 l a) < 0) (hH : i = b ∨ ¬ cmpHn (at0 l i) (at0 l a) < 0) : Srt a b l' := fun p q x y z => by
  have r : ∀ p q, a + 1 ≤ p → p ≤ q → q < b → leH (at0 l p) (at0 l q) := fun p q x y z => by
    rcases Nat.lt_or_ge p q with hq | hq
    · exact hs p q x hq z
    · obtain rfl : p = q := by omega
      exact leH_refl _
  rw [h.at' p, h.at' q]
  rcases Nat.lt_trichotomy p (i - 1) with hp | hp | hp
  · rw [if_pos (by omega)]
    rcases Nat.lt_trichotomy q (i - 1) with hq | hq | hq
    · rw [if_pos (by omega)]; exact r _ _ (by omega) (by omega) (by omega)
    · rw [if_neg (by omega), if_pos hq]
      rcases hL with h9 | h9
      · omega
      · exact leH_trans (r (p + 1) (i - 1) (by omega) (by omega) (by omega)) (leH_lt h9)
    · rw [if_neg (by omega), if_neg (by omega)]; exact r _ _ (by omega) (by omega) z
  · rw [if_neg (by omega), if_pos hp, if_neg (by omega), if_neg (by omega)]
    rcases hH with h9 | h9
    · omega
    · exact leH_trans h9 (r i q (by omega) (by omega) z)
  · rw [if_neg (by omega), if_neg (by omega), if_neg (by omega), if_neg (by omega)]; exact r p q (by omega) (by omega) z
/-- the element of the place m has gone down to the place k -/
structure MovD (m k : Nat) (l l' : List (Nat → Int)) : Prop where
  perm : l'.Perm l
  at' : ∀ p, at0 l' p = if k < p ∧ p ≤ m then at0 l (p - 1) else if p = k then at0 l m else at0 l p
theorem MovD.zero (m : Nat) (l : List (Nat → Int)) : MovD m m l l := ⟨.refl _, fun p => by
  rw [if_neg (by omega)]; split
  · rename_i h; rw [h]
  · rfl⟩
theorem MovD.step {m k : Nat} {l l' : List (Nat → Int)} (h : MovD m k l l') (h0 : 0 < k) (hk : k ≤ m) (hm : m < l.length) : MovD m (k - 1) l (swH l' k (k - 1)) := by
  have hl := h.perm.length_eq
  refine ⟨(swH_perm (by omega) (by omega)).trans h.perm, fun p => ?_⟩
  rw [at0_sw (by omega) (by omega), h.at' k, h.at' (k - 1), h.at' p]
  repeat' split
  all_goals first | rfl | (exfalso; omega) | (congr 1; omega) | (subst_vars; first | rfl | (exfalso; omega))
theorem MovD.pi {a m k b : Nat} {l l' : List (Nat → Int)} (h : MovD m k l l') (ha : a ≤ k) (hk : k ≤ m) (hb : m < b) : PI a b l l' := by
  refine ⟨h.perm, fun i hi => ?_, fun i h1 h2 => ?_⟩
  · rw [h.at' i, if_neg (by omega), if_neg (by omega)]
  · rw [h.at' i]
    split
    · exact ⟨i - 1, by omega, by omega, rfl⟩
    · split
      · exact ⟨m, by omega, by omega, rfl⟩
      · exact ⟨i, h1, h2, rfl⟩
theorem MovD.srt {a i m : Nat} {l l' : List (Nat → Int)} (h : MovD m i l l') (hs : Srt a m l) (hi : a ≤ i) (him : i ≤ m) (hL : i = a ∨ ¬ cmpHn (at0 l m) (at0 l (i - 1)) < 0) (hH : i = m ∨ cmpHn (at0 l m) (at0 l i) < 0) : Srt a (m + 1) l' := fun p q x y z => by
  have r : ∀ p q, a ≤ p → p ≤ q → q < m → leH (at0 l p) (at0 l q) := fun p q x y z => by
    rcases Nat.lt_or_ge p q with hq | hq
    · exact hs p q x hq z
    · obtain rfl : p = q := by omega
      exact leH_refl _
  rw [h.at' p, h.at' q]
  rcases Nat.lt_trichotomy p i with hp | hp | hp
  · rw [if_neg (show ¬ (i < p ∧ p ≤ m) by omega), if_neg (show ¬ p = i by omega)]
    rcases Nat.lt_trichotomy q i with hq | hq | hq
    · rw [if_neg (by omega), if_neg (by omega)]; exact r p q x (by omega) (by omega)
    · rw [if_neg (by omega), if_pos hq]
      rcases hL with h9 | h9
      · omega
      · exact leH_trans (r p (i - 1) x (by omega) (by omega)) h9
    · rw [if_pos (by omega)]; exact r p (q - 1) x (by omega) (by omega)
  · rw [if_neg (show ¬ (i < p ∧ p ≤ m) by omega), if_pos hp, if_pos (by omega)]
    rcases hH with h9 | h9
    · omega
    · exact leH_trans (leH_lt h9) (r i (q - 1) hi (by omega) (by omega))
  · rw [if_pos (show i < p ∧ p ≤ m by omega), if_pos (by omega)]; exact r _ _ (by omega) (by omega) (by omega)
end Go.Proofs.Sky
