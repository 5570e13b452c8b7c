/-
  lemmas for the theorems of this claim. No conditions beyond those written in the statements.
-/
import Derived.Test.YtmndialneggbjaaO21
set_option linter.unusedVariables false
set_option linter.unusedSimpArgs false
set_option linter.unnecessarySimpa false
namespace Go.Proofs.Sky
open Go Go.RowKit Go.Shelf
set_option maxHeartbeats 4000000
set_option maxRecDepth 4000
def suP (z : Int) : Int × Int := (bel z 201 - 100, bel (wrap64 (z.tdiv 201)) 201 - 100)
theorem suP_bd (z : Int) : (-100 ≤ (suP z).1 ∧ (suP z).1 ≤ 100) ∧ -100 ≤ (suP z).2 ∧ (suP z).2 ≤ 100 := by
  have ⟨a, b⟩ := bel_bd z 201 (by omega)
  have ⟨c, d⟩ := bel_bd (wrap64 (z.tdiv 201)) 201 (by omega)
  unfold suP
  simp only
  omega
theorem sums_any (zs : List Int) (v : Value) (w : World) (hv : RdI w v zs) (hl : zs.length ≤ 60) : Calls Try.prog 20 #[v] w fun e w' => (∃ v', e = .returned v' ∧ RdS w' v' (zs.map suP) ∧ Fresh w.heap.size v' ∧ Capd v') ∧ Bw w w' := by
  have HV := Lib.hid hv
  obtain ⟨ad, cap, rfl⟩ := hv.form
  clear hv
  obtain ⟨n, hn⟩ : ∃ n, n = zs.length := ⟨_, rfl⟩
  rw [← hn] at hl ⊢
  have HN := Lib.hid hn
  clear hn
  obtain ⟨BB, hBB⟩ : ∃ BB, w.heap.size = BB := ⟨_, rfl⟩
  have HB := Lib.hid hBB
  rw [hBB]
  clear hBB
  go_enter Try.func20, Try.ntmps20
  go_wp2
  go_loopg [3, 4] 60 (fun gg s3 s4 wr => ∃ k : Nat, k ≤ n ∧ n - k ≤ gg ∧ s4 = .int .i64 k ∧ Hid (Bw w wr) ∧ Hid (wr.ownsRow BB 34 2 s3 ((zs.take k).map suP).length (flat ((zs.take k).map suP))))
  case atStart => exact ⟨0, Nat.zero_le _, by omega, rfl, Lib.hid (Bw.refl _), Lib.hid (World.ownsRow_nil _ _ _ _)⟩
  case round =>
    obtain ⟨k, hk, hgg, rfl, HW, O1⟩ := hrel
    by_cases hlt : k < n
    · have hkz : (k : Int) < n := by omega
      obtain ⟨b1, o1, cc, hv1, hb1, hd1⟩ := HV.out.at (by have := HN.out; omega)
      injection hv1 with i1 i2 i3; subst i1; clear i2 i3
      have f1 := Lib.hid (hd1 k (by have := HN.out; omega))
      clear hd1 hb1
      have HT := Lib.hid (show (zs.take (k + 1)).map suP = (zs.take k).map suP ++ [(bel (zs.getD k 0) 201 - 100, bel (wrap64 ((zs.getD k 0).tdiv 201)) 201 - 100)] by
        have hkl : k < zs.length := by have := HN.out; omega
        rw [List.take_add_one, List.map_append, List.getD_eq_getElem?_getD, List.getElem?_eq_getElem hkl]; rfl)
      have HLN := Lib.hid (show ((zs.take k).map suP).length = k by rw [List.length_map, List.length_take]; have := HN.out; omega)
      generalize zs.getD k 0 = z at f1 HT
      generalize (zs.take k).map suP = l1 at HT HLN O1
      have P5 := Lib.hid (fun W => Turn_any z 201 W (by omega) (by omega))
      have P6 := Lib.hid (fun W => Turn_any (wrap64 (z.tdiv 201)) 201 W (by omega) (by omega))
      have ⟨q1, q2⟩ := bel_bd z 201 (by omega)
      have ⟨q3, q4⟩ := bel_bd (wrap64 (z.tdiv 201)) 201 (by omega)
      generalize bel z 201 = p at *
    
      generalize bel (wrap64 (z.tdiv 201)) 201 = q at *
      have e1 := fun p' : Ext wr => Ext.cell' (HW.out.cell' f1.out) p'
      go_wp2
      (refine wp_region_ext_float 15 _ rfl rfl (by kernel_rfl) (by kernel_rfl) (fun _ _ _ _ h => h) ?_; simp only [Nat.reduceSub, List.take_succ_cons, List.take_zero, List.drop_succ_cons, List.drop_zero]; go_frame; (repeat (go_big_quiet_step ((first | (go_at_call 21; with_reducible refine Calls.ext_of (P5.out _)) | (go_at_call 21; with_reducible refine Calls.ext_of (P6.out _)))))); refine wpQuiet_nil ?_; rintro wa ⟨⟨_, hbq⟩, rfl⟩; obtain ⟨hccq, hffq⟩ := Bw.cells hbq; have hszq := Bw.size hbq)
      replace O1 := Lib.hid (own_bw O1.out hbq)
      replace HW := Lib.hid (HW.out.trans hbq)
      clear e1 hbq hccq hffq hszq
      go_wp2_with (at_builtin; have hba := Bw.alloc (Bw.refl wa) (.cells #[.int .i64 (p - 100), .int .i64 (q - 100)] 34); have NB := Lib.hid (Blk.new wa 34 #[.int .i64 (p - 100), .int .i64 (q - 100)]); replace O1 := Lib.hid (own_bw O1.out hba); replace HW := Lib.hid (HW.out.trans hba); clear hba; refine wpList_append_pair_beside rfl (.tmp 11) (.tmp 26) _ rfl BB 34 Try.underlying22 infoSam _ l1 (p - 100) (q - 100) rfl O1.out _ rfl (NB.out.cell rfl) (NB.out.cell rfl) (by have := HLN.out; omega) (by have := HW.out.size; have := HB.out; omega) (World.ownsRow_nil _ BB 3 1) (fun g h1 h2 => by cases h2) ?_; intro v8 w8 hown hgr hot hap; replace HW := Lib.hid (Bw.grownN HB.out HW.out O1.out hgr); replace O1 := Lib.hid hown; clear hown hgr hot hap NB)
      go_roundg (n - (k + 1))
      case measure => omega
      case rel => exact ⟨k + 1, by omega, by omega, by go_num, HW, Lib.hid (by rw [HT.out]; exact O1.out)⟩
    · obtain rfl : n = k := by omega
      have hkz : ¬ (n : Int) < n := by omega
      rw [List.take_of_length_le (by have := HN.out; omega)] at O1
      have ⟨r1, r2⟩ := own_rdS2 O1.out (by rw [List.length_map]; have := HN.out; omega)
      go_wp2
      go_ret
      exact ⟨⟨_, rfl, r1, r2, own_capd O1.out⟩, HW.out⟩
end Go.Proofs.Sky
