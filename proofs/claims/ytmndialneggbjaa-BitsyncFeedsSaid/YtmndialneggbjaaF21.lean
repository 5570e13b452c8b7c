/-
  lemmas for the theorems of this claim. No conditions beyond those written in the statements.
-/
import Derived.Test.YtmndialneggbjaaE21
import Derived.Test.YtmndialneggbjaaAppP
set_option linter.unusedVariables false
set_option linter.unusedSimpArgs false
set_option linter.unnecessarySimpa false
namespace Go.Proofs.Sky
open Go Go.RowKit Go.Shelf
set_option maxHeartbeats 4000000
theorem infoSam : (Try.prog.info? 34).map (fun i => (i.zero, i.size, i.bytes)) = some (some (.agg #[.int .i64 0, .int .i64 0]), 2, 16) := by kernel_rfl
def Capd (v : Value) : Prop := ∀ a n c, v = .slice a n c → n ≤ c ∧ c ≤ 9223372036854775807
theorem own_capd {w : World} {base : Nat} {e : TypeId} {k : Nat} {v : Value} {n : Nat} {xs : List Value} (h : w.ownsRow base e k v n xs) : Capd v := by
  intro a m c hv
  rcases h.2 with ⟨rfl, rfl⟩ | ⟨g, cap, cur, rfl, _, _, hnc, hcm, _⟩
  · injection hv with h1 h2 h3; omega
  · injection hv with h1 h2 h3; subst h2 h3; exact ⟨hnc, by unfold maxLen at hcm; omega⟩
def reL (zs : List Int) : List (Int × Int) := zs.map fun x => (x, 0)
theorem real_any (zs : List Int) (v : Value) (w : World) (hv : RdI w v zs) (hl : zs.length ≤ 1000) : Calls Try.prog 19 #[v] w fun e w' => (∃ v', e = .returned v' ∧ RdS w' v' (reL zs) ∧ Fresh w.heap.size v' ∧ Capd v') ∧ Bw w w' := by
  have HV := Lib.hid hv
  obtain ⟨ad, cap, rfl⟩ := hv.form
  clear hv
  obtain ⟨n, hn⟩ : ∃ n, n = zs.length := ⟨_, rfl⟩
  rw [← hn] at hl ⊢
  have HN := Lib.hid hn
  clear hn
  obtain ⟨BB, hBB⟩ : ∃ BB, w.heap.size = BB := ⟨_, rfl⟩
  have HB := Lib.hid hBB
  rw [hBB]
  clear hBB
  go_enter Try.func19, Try.ntmps19
  go_wp2
  go_loopg [3, 4] 1000 (fun gg s3 s4 wr => ∃ k : Nat, k ≤ n ∧ n - k ≤ gg ∧ s4 = .int .i64 k ∧ Hid (Bw w wr) ∧ Hid (wr.ownsRow BB 34 2 s3 (reL (zs.take k)).length (flat (reL (zs.take k)))))
  case atStart => exact ⟨0, Nat.zero_le _, by omega, rfl, Lib.hid (Bw.refl _), Lib.hid (World.ownsRow_nil _ _ _ _)⟩
  case round =>
    obtain ⟨k, hk, hgg, rfl, HW, O1⟩ := hrel
    by_cases hlt : k < n
    · have hkz : (k : Int) < n := by omega
      obtain ⟨b1, o1, cc, hv1, hb1, hd1⟩ := HV.out.at (by have := HN.out; omega)
      injection hv1 with i1 i2 i3; subst i1; clear i2 i3
      have d := HW.out.cell' (hd1 k (by have := HN.out; omega))
      clear hd1 hb1
      have HT := Lib.hid (show reL (zs.take (k + 1)) = reL (zs.take k) ++ [(zs.getD k 0, 0)] by
        have hkl : k < zs.length := by have := HN.out; omega
        unfold reL
        rw [List.take_add_one, List.map_append, List.getD_eq_getElem?_getD, List.getElem?_eq_getElem hkl]; rfl)
      have HLN := Lib.hid (show (reL (zs.take k)).length = k by unfold reL; rw [List.length_map, List.length_take]; have := HN.out; omega)
      generalize zs.getD k 0 = z at d HT
      generalize reL (zs.take k) = l1 at HT HLN O1
      go_wp2_with (at_builtin; have hba := Bw.alloc (Bw.refl wr) (.cells #[.int .i64 z, .int .i64 0] 34); have NB := Lib.hid (Blk.new wr 34 #[.int .i64 z, .int .i64 0]); replace O1 := Lib.hid (own_bw O1.out hba); replace HW := Lib.hid (HW.out.trans hba); clear hba d; refine wpList_append_pair_beside rfl (.tmp 11) (.tmp 17) _ rfl BB 34 Try.underlying22 infoSam _ l1 z 0 rfl O1.out _ rfl (NB.out.cell rfl) (NB.out.cell rfl) (by have := HLN.out; omega) (by have := HW.out.size; have := HB.out; omega) (World.ownsRow_nil _ BB 3 1) (fun g h1 h2 => by cases h2) ?_; intro v8 w8 hown hgr hot hap; replace HW := Lib.hid (Bw.grownN HB.out HW.out O1.out hgr); replace O1 := Lib.hid hown; clear hown hgr hot hap NB)
      go_roundg (n - (k + 1))
      case measure => omega
      case rel => exact ⟨k + 1, by omega, by omega, by go_num, HW, Lib.hid (by rw [HT.out]; exact O1.out)⟩
    · obtain rfl : n = k := by omega
      have hkz : ¬ (n : Int) < n := by omega
      rw [List.take_of_length_le (by have := HN.out; omega)] at O1
      have ⟨r1, r2⟩ := own_rdS2 O1.out (by unfold reL; rw [List.length_map]; have := HN.out; omega)
      go_wp2
      go_ret
      exact ⟨⟨_, rfl, r1, r2, own_capd O1.out⟩, HW.out⟩
end Go.Proofs.Sky
