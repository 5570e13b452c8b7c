/-
  lemmas for the theorems of this claim. No conditions beyond those written in the statements.
-/
import Derived.Test.YtpmopobjlpfdaaaDoorF27
import Derived.Deep.MidRow
set_option linter.unusedVariables false
set_option linter.unusedSimpArgs false
set_option linter.unnecessarySimpa false
namespace Go.Proofs.Sky
open Go Go.RowKit Go.Shelf
set_option maxHeartbeats 4000000
set_option maxRecDepth 8000
/-! the almanac: the fields of a page -/
def wdV : Array Value := #[.int .i64 6, .int .i64 20, .int .i64 16, .int .i64 20, .int .i64 20, .int .i64 14, .int .i64 12, .int .i64 20, .int .i64 14, .int .i64 12, .int .i64 20, .int .i64 14, .int .i64 12]
/-- the package's widths lie where the program lays them -/
def WdAt (w : World) : Prop := 0 < w.heap.size ∧ w.rangeAt 0 0 wdV.toList
theorem WdAt.bw {w w' : World} (h : WdAt w) (hb : Bw w w') : WdAt w' := ⟨Nat.lt_of_lt_of_le h.1 hb.size, fun j v hv => by rw [hb.cells.1 _ _ h.1]; exact h.2 j v hv⟩
def PGL : List (Int × Bool × Nat) := [(6, false, 0), (20, false, 1), (16, false, 2), (20, false, 3), (20, true, 4), (14, true, 5), (12, true, 6), (20, true, 7), (14, true, 8), (12, true, 9), (20, true, 10), (14, true, 11), (12, true, 12)]
theorem pgl_ok : okL PGL := ⟨by decide, by intro t ht; simp only [PGL, List.mem_cons, List.not_mem_nil, or_false] at ht; rcases ht with rfl | rfl | rfl | rfl | rfl | rfl | rfl | rfl | rfl | rfl | rfl | rfl | rfl <;> decide⟩
theorem idx13 (i : Nat) (hi : i < 13) (W : World) : (Instr.index 101 (.agg wdV) (.int .i64 (i : Int))).run Tryd.prog W = .ok (.int .i64 (PGL.getD i (0, false, 0)).1) W := by
  rcases (by omega : i = 0 ∨ i = 1 ∨ i = 2 ∨ i = 3 ∨ i = 4 ∨ i = 5 ∨ i = 6 ∨ i = 7 ∨ i = 8 ∨ i = 9 ∨ i = 10 ∨ i = 11 ∨ i = 12) with rfl | rfl | rfl | rfl | rfl | rfl | rfl | rfl | rfl | rfl | rfl | rfl | rfl
  · exact (show (Instr.index 101 (.agg #[.int .i64 6, .int .i64 20, .int .i64 16, .int .i64 20, .int .i64 20, .int .i64 14, .int .i64 12, .int .i64 20, .int .i64 14, .int .i64 12, .int .i64 20, .int .i64 14, .int .i64 12]) (.int .i64 0)).run Tryd.prog W = .ok (.int .i64 6) W by kernel_rfl)
  · exact (show (Instr.index 101 (.agg #[.int .i64 6, .int .i64 20, .int .i64 16, .int .i64 20, .int .i64 20, .int .i64 14, .int .i64 12, .int .i64 20, .int .i64 14, .int .i64 12, .int .i64 20, .int .i64 14, .int .i64 12]) (.int .i64 1)).run Tryd.prog W = .ok (.int .i64 20) W by kernel_rfl)
  · exact (show (Instr.index 101 (.agg #[.int .i64 6, .int .i64 20, .int .i64 16, .int .i64 20, .int .i64 20, .int .i64 14, .int .i64 12, .int .i64 20, .int .i64 14, .int .i64 12, .int .i64 20, .int .i64 14, .int .i64 12]) (.int .i64 2)).run Tryd.prog W = .ok (.int .i64 16) W by kernel_rfl)
  · exact (show (Instr.index 101 (.agg #[.int .i64 6, .int .i64 20, .int .i64 16, .int .i64 20, .int .i64 20, .int .i64 14, .int .i64 12, .int .i64 20, .int .i64 14, .int .i64 12, .int .i64 20, .int .i64 14, .int .i64 12]) (.int .i64 3)).run Tryd.prog W = .ok (.int .i64 20) W by kernel_rfl)
  · exact (show (Instr.index 101 (.agg #[.int .i64 6, .int .i64 20, .int .i64 16, .int .i64 20, .int .i64 20, .int .i64 14, .int .i64 12, .int .i64 20, .int .i64 14, .int .i64 12, .int .i64 20, .int .i64 14, .int .i64 12]) (.int .i64 4)).run Tryd.prog W = .ok (.int .i64 20) W by kernel_rfl)
  · exact (show (Instr.index 101 (.agg #[.int .i64 6, .int .i64 20, .int .i64 16, .int .i64 20, .int .i64 20, .int .i64 14, .int .i64 12, .int .i64 20, .int .i64 14, .int .i64 12, .int .i64 20, .int .i64 14, .int .i64 12]) (.int .i64 5)).run Tryd.prog W = .ok (.int .i64 14) W by kernel_rfl)
  · exact (show (Instr.index 101 (.agg #[.int .i64 6, .int .i64 20, .int .i64 16, .int .i64 20, .int .i64 20, .int .i64 14, .int .i64 12, .int .i64 20, .int .i64 14, .int .i64 12, .int .i64 20, .int .i64 14, .int .i64 12]) (.int .i64 6)).run Tryd.prog W = .ok (.int .i64 12) W by kernel_rfl)
  · exact (show (Instr.index 101 (.agg #[.int .i64 6, .int .i64 20, .int .i64 16, .int .i64 20, .int .i64 20, .int .i64 14, .int .i64 12, .int .i64 20, .int .i64 14, .int .i64 12, .int .i64 20, .int .i64 14, .int .i64 12]) (.int .i64 7)).run Tryd.prog W = .ok (.int .i64 20) W by kernel_rfl)
  · exact (show (Instr.index 101 (.agg #[.int .i64 6, .int .i64 20, .int .i64 16, .int .i64 20, .int .i64 20, .int .i64 14, .int .i64 12, .int .i64 20, .int .i64 14, .int .i64 12, .int .i64 20, .int .i64 14, .int .i64 12]) (.int .i64 8)).run Tryd.prog W = .ok (.int .i64 14) W by kernel_rfl)
  · exact (show (Instr.index 101 (.agg #[.int .i64 6, .int .i64 20, .int .i64 16, .int .i64 20, .int .i64 20, .int .i64 14, .int .i64 12, .int .i64 20, .int .i64 14, .int .i64 12, .int .i64 20, .int .i64 14, .int .i64 12]) (.int .i64 9)).run Tryd.prog W = .ok (.int .i64 12) W by kernel_rfl)
  · exact (show (Instr.index 101 (.agg #[.int .i64 6, .int .i64 20, .int .i64 16, .int .i64 20, .int .i64 20, .int .i64 14, .int .i64 12, .int .i64 20, .int .i64 14, .int .i64 12, .int .i64 20, .int .i64 14, .int .i64 12]) (.int .i64 10)).run Tryd.prog W = .ok (.int .i64 20) W by kernel_rfl)
  · exact (show (Instr.index 101 (.agg #[.int .i64 6, .int .i64 20, .int .i64 16, .int .i64 20, .int .i64 20, .int .i64 14, .int .i64 12, .int .i64 20, .int .i64 14, .int .i64 12, .int .i64 20, .int .i64 14, .int .i64 12]) (.int .i64 11)).run Tryd.prog W = .ok (.int .i64 14) W by kernel_rfl)
  · exact (show (Instr.index 101 (.agg #[.int .i64 6, .int .i64 20, .int .i64 16, .int .i64 20, .int .i64 20, .int .i64 14, .int .i64 12, .int .i64 20, .int .i64 14, .int .i64 12, .int .i64 20, .int .i64 14, .int .i64 12]) (.int .i64 12)).run Tryd.prog W = .ok (.int .i64 12) W by kernel_rfl)
theorem alFields_any (w : World) (hw : WdAt w) : Calls Tryd.prog 55 #[] w fun e w' => (∃ v', e = .returned v' ∧ RdF w' v' (fdsS PGL) ∧ Fresh w.heap.size v') ∧ Bw w w' := by
  have HWD := Lib.hid hw
  have HAB := Lib.hid (fun k hk => atS_bd pgl_ok k hk)
  have HX := Lib.hid (fun (i : Nat) (hi : i < 13) W => idx13 i hi W)
  have HLN : Hid (PGL.length = 13) := Lib.hid rfl
  have HSG := Lib.hid (show ∀ i, i < 13 → (PGL.getD i (0, false, 0)).2.1 = decide (3 < (i : Int)) from by decide)
  have HPB := Lib.hid (show ∀ i, i < 13 → 1 ≤ (PGL.getD i (0, false, 0)).1 ∧ (PGL.getD i (0, false, 0)).1 ≤ 40 from by decide)
  have HR0 := Lib.hid (show w.rangeAt 0 0 wdV.toList from hw.2)
  clear hw
  have HQ := Lib.hid (show fdsS PGL = (List.range 13).map (fdS PGL) from rfl)
  have HA1 := Lib.hid (show ∀ k, atS PGL (k + 1) = atS PGL k + (PGL.getD k (0, false, 0)).1 from fun k => rfl)
  have HF1 := Lib.hid (show ∀ k, fdS PGL k = ⟨atS PGL k, (PGL.getD k (0, false, 0)).1, (PGL.getD k (0, false, 0)).2.1, 1, 0⟩ from fun k => rfl)
  have HAT0 := Lib.hid (show atS PGL 0 = 0 from rfl)
  generalize fdsS PGL = FS at *
  generalize hfd : fdS PGL = FD at *
  generalize hat : atS PGL = AT at *
  clear hfd hat
  obtain ⟨WV, hWV⟩ : ∃ WV, WV = wdV := ⟨_, rfl⟩
  have HSZ : Hid ((Tryd.prog.info? 101).map (·.size) = some wdV.toList.length) := Lib.hid (by kernel_rfl)
  rw [← hWV] at HX HR0 HSZ
  clear hWV
  obtain ⟨BB, hBB⟩ : ∃ BB, w.heap.size = BB := ⟨_, rfl⟩
  have HB := Lib.hid hBB
  rw [hBB]
  clear hBB
  go_enter Tryd.func55, Tryd.ntmps55
  go_upto_region 4 with ((with_reducible refine at_load 101 (.global 0) ?_); refine wpList_load_mid rfl 101 (.global 0) rfl 0 0 rfl WV.toList _ HR0.out Tryd.underlying101 rfl HSZ.out ?_)
  go_wp2
  go_loopg [1, 2, 6] 13 (fun gg s1 s2 s6 wr => ∃ k : Nat, k ≤ 13 ∧ 13 - k ≤ gg ∧ s6 = .int .i64 k ∧ s2 = .int .i64 (AT k) ∧ Hid (Bw w wr) ∧ Hid (wr.ownsRow BB 92 5 s1 ((List.range k).map FD).length (flatF ((List.range k).map FD))))
  case atStart => exact ⟨0, by omega, by omega, rfl, by rw [HAT0.out], Lib.hid (Bw.refl _), Lib.hid (World.ownsRow_nil _ _ _ _)⟩
  case round =>
    obtain ⟨k, hk, hgg, rfl, rfl, HW, O1⟩ := hrel
    by_cases hlt : k < 13
    · have hkz : (k : Int) < 13 := by omega
      have hk0 : (0 : Int) ≤ k := by omega
      have hix := HX.out k hlt
      have hsg := HSG.out k hlt
      have hpb := HPB.out k hlt
      have hab := HAB.out k (by rw [HLN.out]; omega)
      have HA := Lib.hid (HA1.out k)
      have HF := Lib.hid (HF1.out k)
      rw [hsg] at HF
      have HT := Lib.hid (show (List.range (k + 1)).map FD = (List.range k).map FD ++ [FD k] by rw [List.range_succ, List.map_append]; rfl)
      have HL1 := Lib.hid (show ((List.range k).map FD).length = k by rw [List.length_map, List.length_range])
      clear hsg
      generalize (List.range k).map FD = l1 at O1 HT HL1
      generalize FD k = F at HF HT
      generalize hAk : AT k = A at *
      generalize (PGL.getD k (0, false, 0)).1 = tn at *
      have HG3 := Lib.hid (show ((k : Int) > 3) = (3 < (k : Int)) from rfl)
      obtain ⟨tg, htg⟩ : ∃ tg, decide (3 < (k : Int)) = tg := ⟨_, rfl⟩
      rw [htg] at HF
      have hkb : (k : Int) < 13 := hkz
      go_upto_region 6 with fail
      clear hix
      have hF := HF.out
      subst hF
      go_wp2_with (at_builtin; have hba := Bw.alloc (Bw.refl wr) (.cells #[.int .i64 A, .int .i64 tn, .bool tg, .int .i64 1, .int .i64 0] 92); have NB := Lib.hid (Blk.new wr 92 #[.int .i64 A, .int .i64 tn, .bool tg, .int .i64 1, .int .i64 0]); replace O1 := Lib.hid (own_bw O1.out hba); replace HW := Lib.hid (HW.out.trans hba); clear hba; go_loud (refine wpList_append_fld rfl (.tmp 10) (.tmp 16) _ rfl BB Tryd.underlying82 _ l1 ⟨A, tn, tg, 1, 0⟩ rfl O1.out _ 92 rfl NB.out (by have := HL1.out; omega) (by have := HW.out.size; have := HB.out; simp only [World.size_alloc] at *; omega) ?_; intro v8 w8 hown hgr; have hb8 := Bw.grownN HB.out HW.out O1.out hgr; have HW8 := Lib.hid hb8; have O8 := Lib.hid hown; clear hown hgr hb8))
      go_roundg (13 - (k + 1))
      case measure => omega
      case rel => exact ⟨k + 1, by omega, by omega, by go_num, by rw [HA.out], HW8, Lib.hid (by rw [HT.out]; exact O8.out)⟩
    · obtain rfl : k = 13 := by omega
      have hkz : ¬ ((13 : Nat) : Int) < 13 := by omega
      have HR := Lib.hid (own_rdF O1.out (by rw [List.length_map, List.length_range]; omega))
      rw [← HQ.out] at HR
      go_wp2
      go_ret
      exact ⟨⟨_, rfl, HR.out.1, HR.out.2⟩, HW.out⟩
end Go.Proofs.Sky
