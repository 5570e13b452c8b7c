/-
  lemmas for the theorems of this claim. No conditions beyond those written in the statements.
-/
import Derived.Test.YtmfiiocadhdhaaaXC26
import Derived.Deep.Cut
set_option linter.unusedVariables false
set_option linter.unusedSimpArgs false
set_option linter.unnecessarySimpa false
namespace Go.Proofs.Sky
open Go Go.RowKit Go.Shelf
set_option maxHeartbeats 4000000
set_option maxRecDepth 8000
/-! chapter 26: EphemKnown -/
theorem row3_at {W : World} {base : Nat} {v : Value} {fs : List Fr} {X : Nat → Int} {tow : Int} (h : OwFr W base v fs) (hm : fs.map (fun f => (f.t, f.k, f.l)) = (List.range 3).map (frK X tow)) : ∃ gf cap D, v = .slice (some ⟨gf, 0, none⟩) 3 cap ∧ (3 ≤ cap ∧ cap ≤ 9223372036854775807) ∧ base ≤ gf ∧ Row3 W gf X (fun k => (tow + (k : Nat)) % 131072) D := by
  have hcp := own_capd h.own
  obtain ⟨d0, d1, d2, rfl⟩ := fr3 hm
  obtain ⟨gf, cap, hv, hb, hc⟩ := h.lit (by simp)
  refine ⟨gf, cap, fun k => [d0, d1, d2].getD k (.slice none 0 0), hv, hcp _ _ _ hv, hb, ⟨fun k hk => ?_, fun k hk => ?_, fun k hk => by show 0 ≤ (tow + (k : Int)) % 131072 ∧ (tow + (k : Int)) % 131072 < 131072; omega⟩⟩
  · match k, hk with
    | 0, _ => exact ⟨hc 0 _ rfl 0 (by omega), hc 0 _ rfl 1 (by omega), hc 0 _ rfl 2 (by omega)⟩
    | 1, _ => exact ⟨hc 1 _ rfl 0 (by omega), hc 1 _ rfl 1 (by omega), hc 1 _ rfl 2 (by omega)⟩
    | 2, _ => exact ⟨hc 2 _ rfl 0 (by omega), hc 2 _ rfl 1 (by omega), hc 2 _ rfl 2 (by omega)⟩
  · match k, hk with
    | 0, _ => exact ⟨(h.rd _ (.head _)).1, (h.rd _ (.head _)).2.1⟩
    | 1, _ => exact ⟨(h.rd _ (.tail _ (.head _))).1, (h.rd _ (.tail _ (.head _))).2.1⟩
    | 2, _ => exact ⟨(h.rd _ (.tail _ (.tail _ (.head _)))).1, (h.rd _ (.tail _ (.tail _ (.head _)))).2.1⟩
theorem add_bad1 : addR ⟨fun _ => false, 1, 0, fun _ => []⟩ 131071 1 (FrE (plE 7) 0) = (zP, zE, false, 13) := by
  unfold addR
  rw [show sndP ⟨fun _ => false, 1, 0, fun _ => []⟩ = false from rfl]
  rfl
theorem add_bad2 : addR zP 0 4 (FrE (plE 7) 0) = (zP, zE, false, 3) := by
  unfold addR
  rw [show sndP zP = true from rfl, show rokP 0 4 (FrE (plE 7) 0) = false from by unfold rokP; rw [decide_eq_false (by omega), Bool.false_and]]
  rfl
theorem cell_kx {g b o : Nat} {W W' : World} {v : Value} (hk : Kx g W W') (hb : b ≠ g) (h : W.cell? ⟨b, o, none⟩ = some v) : W'.cell? ⟨b, o, none⟩ = some v := by
  rw [World.cell?_of_block (hk.oth b (lt_of_cell h) hb)]; exact h
theorem cnt_le : ∀ i, cntO i ≤ i := by
  intro i
  induction i with
  | zero => exact Nat.le_refl _
  | succ i ih => rw [cntO]; split <;> omega
def lowE : Nat → Int := fun i => [1, 0, 0, 0, 0, 0, -32768].getD i 0
theorem lowE_ok : errE lowE = 0 := by decide
theorem law_known26 (w : World) : Calls Try.prog 6 #[] w fun e w' => e = .returned (.bool true) ∧ Bw w w' := by
  have AW := Lib.hid (fun W => awake_any W)
  have CKB : Hid (∀ k, k < 6 → ∀ W, Calls Try.prog 13 #[.agg (eV (badE k)).toList.toArray] W fun e w' => e = .returned (.int .i64 2) ∧ Bw W w') := Lib.hid (fun k hk W => by have h9 := ECheck_any (badE k) W; rw [bad_err k hk] at h9; simpa using h9)
  have CK7 : Hid (∀ W, Calls Try.prog 13 #[.agg (eV (plE 7))] W fun e w' => e = .returned (.int .i64 0) ∧ Bw W w') := Lib.hid (fun W => by have h9 := ECheck_any (plE 7) W; rw [pl_ok 7 (by decide)] at h9; exact h9)
  have CKL : Hid (∀ W, Calls Try.prog 13 #[.agg #[.int .i64 1, .int .i64 0, .int .i64 0, .int .i64 0, .int .i64 0, .int .i64 0, .int .i64 (-32768), .int .i64 0, .int .i64 0, .int .i64 0, .int .i64 0, .int .i64 0, .int .i64 0, .int .i64 0, .int .i64 0, .int .i64 0, .int .i64 0, .int .i64 0, .int .i64 0]] W fun e w' => e = .returned (.int .i64 0) ∧ Bw W w') := Lib.hid (fun W => by have h9 := ECheck_any lowE W; rw [lowE_ok] at h9; exact h9)
  have PL7 := Lib.hid (fun W => plain_any 7 W)
  have PL8 := Lib.hid (fun W => plain_any 8 W)
  have FT := Lib.hid (fun t W => fits_any t W)
  have FR7 := Lib.hid (fun W => frames_any (plE 7) 131071 W (pl_ok 7 (by decide)) (by decide))
  have FR8 := Lib.hid (fun W => frames_any (plE 8) 5 W (pl_ok 8 (by decide)) (by decide))
  obtain ⟨A7, hA7⟩ : ∃ A, A = eV (plE 7) := ⟨_, rfl⟩
  obtain ⟨A8, hA8⟩ : ∃ A, A = eV (plE 8) := ⟨_, rfl⟩
  rw [← hA7] at CK7 PL7 FR7
  rw [← hA8] at PL8 FR8
  have HA7 := Lib.hid hA7
  have HA8 := Lib.hid hA8
  clear hA7 hA8
  obtain ⟨f1, f2, f3, f4⟩ := ftB_at
  have HRG := Lib.hid (fun W b hB k hk => bad_range W b hB k hk)
  have HSZ : Hid (∀ k, (Try.prog.info? 25).map (·.size) = some (eV (badE k)).toList.length) := Lib.hid (fun k => by kernel_rfl)
  obtain ⟨cs, hcs⟩ : ∃ cs : Nat → List Value, cs = fun k => (eV (badE k)).toList := ⟨_, rfl⟩
  replace CKB : Hid (∀ k, k < 6 → ∀ W, Calls Try.prog 13 #[.agg (cs k).toArray] W fun e w' => e = .returned (.int .i64 2) ∧ Bw W w') := Lib.hid (fun k hk W => by rw [hcs]; exact CKB.out k hk W)
  replace HRG : Hid (∀ W b, Blk W b 25 bigV → ∀ k, k < 6 → W.rangeAt b (k * 19) (cs k)) := Lib.hid (fun W b hB k hk => by rw [hcs]; exact HRG.out W b hB k hk)
  replace HSZ : Hid (∀ k, (Try.prog.info? 25).map (·.size) = some (cs k).length) := Lib.hid (fun k => by rw [hcs]; exact HSZ.out k)
  clear hcs
  go_enter Try.func6, Try.ntmps6
  go_upto_region 2 with fail
  obtain ⟨b1, hb1⟩ : ∃ b1, w.heap.size = b1 := ⟨_, rfl⟩
  have KB := Lib.hid (show Blk (w.alloc (.cells #[.int .i64 0, .int .i64 0, .int .i64 1, .int .i64 0, .int .i64 0, .int .i64 0, .int .i64 0, .int .i64 0, .int .i64 0, .int .i64 0, .int .i64 0, .int .i64 0, .int .i64 0, .int .i64 0, .int .i64 0, .int .i64 0, .int .i64 0, .int .i64 0, .int .i64 0, .int .i64 64, .int .i64 0, .int .i64 0, .int .i64 0, .int .i64 0, .int .i64 0, .int .i64 0, .int .i64 0, .int .i64 0, .int .i64 0, .int .i64 0, .int .i64 0, .int .i64 0, .int .i64 0, .int .i64 0, .int .i64 0, .int .i64 0, .int .i64 0, .int .i64 0, .int .i64 1, .int .i64 0, .int .i64 604800, .int .i64 0, .int .i64 0, .int .i64 0, .int .i64 0, .int .i64 0, .int .i64 0, .int .i64 0, .int .i64 0, .int .i64 0, .int .i64 0, .int .i64 0, .int .i64 0, .int .i64 0, .int .i64 0, .int .i64 0, .int .i64 0, .int .i64 1, .int .i64 0, .int .i64 0, .int .i64 0, .int .i64 0, .int .i64 0, .int .i64 32768, .int .i64 0, .int .i64 0, .int .i64 0, .int .i64 0, .int .i64 0, .int .i64 0, .int .i64 0, .int .i64 0, .int .i64 0, .int .i64 0, .int .i64 0, .int .i64 0, .int .i64 1, .int .i64 256, .int .i64 0, .int .i64 0, .int .i64 0, .int .i64 0, .int .i64 0, .int .i64 0, .int .i64 0, .int .i64 0, .int .i64 0, .int .i64 0, .int .i64 0, .int .i64 0, .int .i64 0, .int .i64 0, .int .i64 0, .int .i64 0, .int .i64 0, .int .i64 1, .int .i64 0, .int .i64 0, .int .i64 (-1), .int .i64 0, .int .i64 0, .int .i64 0, .int .i64 0, .int .i64 0, .int .i64 0, .int .i64 0, .int .i64 0, .int .i64 0, .int .i64 0, .int .i64 0, .int .i64 0, .int .i64 0, .int .i64 0, .int .i64 0] 25)) w.heap.size 25 bigV from Blk.new w 25 #[.int .i64 0, .int .i64 0, .int .i64 1, .int .i64 0, .int .i64 0, .int .i64 0, .int .i64 0, .int .i64 0, .int .i64 0, .int .i64 0, .int .i64 0, .int .i64 0, .int .i64 0, .int .i64 0, .int .i64 0, .int .i64 0, .int .i64 0, .int .i64 0, .int .i64 0, .int .i64 64, .int .i64 0, .int .i64 0, .int .i64 0, .int .i64 0, .int .i64 0, .int .i64 0, .int .i64 0, .int .i64 0, .int .i64 0, .int .i64 0, .int .i64 0, .int .i64 0, .int .i64 0, .int .i64 0, .int .i64 0, .int .i64 0, .int .i64 0, .int .i64 0, .int .i64 1, .int .i64 0, .int .i64 604800, .int .i64 0, .int .i64 0, .int .i64 0, .int .i64 0, .int .i64 0, .int .i64 0, .int .i64 0, .int .i64 0, .int .i64 0, .int .i64 0, .int .i64 0, .int .i64 0, .int .i64 0, .int .i64 0, .int .i64 0, .int .i64 0, .int .i64 1, .int .i64 0, .int .i64 0, .int .i64 0, .int .i64 0, .int .i64 0, .int .i64 32768, .int .i64 0, .int .i64 0, .int .i64 0, .int .i64 0, .int .i64 0, .int .i64 0, .int .i64 0, .int .i64 0, .int .i64 0, .int .i64 0, .int .i64 0, .int .i64 0, .int .i64 1, .int .i64 256, .int .i64 0, .int .i64 0, .int .i64 0, .int .i64 0, .int .i64 0, .int .i64 0, .int .i64 0, .int .i64 0, .int .i64 0, .int .i64 0, .int .i64 0, .int .i64 0, .int .i64 0, .int .i64 0, .int .i64 0, .int .i64 0, .int .i64 0, .int .i64 1, .int .i64 0, .int .i64 0, .int .i64 (-1), .int .i64 0, .int .i64 0, .int .i64 0, .int .i64 0, .int .i64 0, .int .i64 0, .int .i64 0, .int .i64 0, .int .i64 0, .int .i64 0, .int .i64 0, .int .i64 0, .int .i64 0, .int .i64 0, .int .i64 0])
  have HBW := Lib.hid (Bw.alloc (Bw.refl w) (.cells #[.int .i64 0, .int .i64 0, .int .i64 1, .int .i64 0, .int .i64 0, .int .i64 0, .int .i64 0, .int .i64 0, .int .i64 0, .int .i64 0, .int .i64 0, .int .i64 0, .int .i64 0, .int .i64 0, .int .i64 0, .int .i64 0, .int .i64 0, .int .i64 0, .int .i64 0, .int .i64 64, .int .i64 0, .int .i64 0, .int .i64 0, .int .i64 0, .int .i64 0, .int .i64 0, .int .i64 0, .int .i64 0, .int .i64 0, .int .i64 0, .int .i64 0, .int .i64 0, .int .i64 0, .int .i64 0, .int .i64 0, .int .i64 0, .int .i64 0, .int .i64 0, .int .i64 1, .int .i64 0, .int .i64 604800, .int .i64 0, .int .i64 0, .int .i64 0, .int .i64 0, .int .i64 0, .int .i64 0, .int .i64 0, .int .i64 0, .int .i64 0, .int .i64 0, .int .i64 0, .int .i64 0, .int .i64 0, .int .i64 0, .int .i64 0, .int .i64 0, .int .i64 1, .int .i64 0, .int .i64 0, .int .i64 0, .int .i64 0, .int .i64 0, .int .i64 32768, .int .i64 0, .int .i64 0, .int .i64 0, .int .i64 0, .int .i64 0, .int .i64 0, .int .i64 0, .int .i64 0, .int .i64 0, .int .i64 0, .int .i64 0, .int .i64 0, .int .i64 1, .int .i64 256, .int .i64 0, .int .i64 0, .int .i64 0, .int .i64 0, .int .i64 0, .int .i64 0, .int .i64 0, .int .i64 0, .int .i64 0, .int .i64 0, .int .i64 0, .int .i64 0, .int .i64 0, .int .i64 0, .int .i64 0, .int .i64 0, .int .i64 0, .int .i64 1, .int .i64 0, .int .i64 0, .int .i64 (-1), .int .i64 0, .int .i64 0, .int .i64 0, .int .i64 0, .int .i64 0, .int .i64 0, .int .i64 0, .int .i64 0, .int .i64 0, .int .i64 0, .int .i64 0, .int .i64 0, .int .i64 0, .int .i64 0, .int .i64 0] 25))
  rw [hb1] at KB ⊢
  obtain ⟨W0, hW0⟩ : ∃ W0, w.alloc (.cells #[.int .i64 0, .int .i64 0, .int .i64 1, .int .i64 0, .int .i64 0, .int .i64 0, .int .i64 0, .int .i64 0, .int .i64 0, .int .i64 0, .int .i64 0, .int .i64 0, .int .i64 0, .int .i64 0, .int .i64 0, .int .i64 0, .int .i64 0, .int .i64 0, .int .i64 0, .int .i64 64, .int .i64 0, .int .i64 0, .int .i64 0, .int .i64 0, .int .i64 0, .int .i64 0, .int .i64 0, .int .i64 0, .int .i64 0, .int .i64 0, .int .i64 0, .int .i64 0, .int .i64 0, .int .i64 0, .int .i64 0, .int .i64 0, .int .i64 0, .int .i64 0, .int .i64 1, .int .i64 0, .int .i64 604800, .int .i64 0, .int .i64 0, .int .i64 0, .int .i64 0, .int .i64 0, .int .i64 0, .int .i64 0, .int .i64 0, .int .i64 0, .int .i64 0, .int .i64 0, .int .i64 0, .int .i64 0, .int .i64 0, .int .i64 0, .int .i64 0, .int .i64 1, .int .i64 0, .int .i64 0, .int .i64 0, .int .i64 0, .int .i64 0, .int .i64 32768, .int .i64 0, .int .i64 0, .int .i64 0, .int .i64 0, .int .i64 0, .int .i64 0, .int .i64 0, .int .i64 0, .int .i64 0, .int .i64 0, .int .i64 0, .int .i64 0, .int .i64 1, .int .i64 256, .int .i64 0, .int .i64 0, .int .i64 0, .int .i64 0, .int .i64 0, .int .i64 0, .int .i64 0, .int .i64 0, .int .i64 0, .int .i64 0, .int .i64 0, .int .i64 0, .int .i64 0, .int .i64 0, .int .i64 0, .int .i64 0, .int .i64 0, .int .i64 1, .int .i64 0, .int .i64 0, .int .i64 (-1), .int .i64 0, .int .i64 0, .int .i64 0, .int .i64 0, .int .i64 0, .int .i64 0, .int .i64 0, .int .i64 0, .int .i64 0, .int .i64 0, .int .i64 0, .int .i64 0, .int .i64 0, .int .i64 0, .int .i64 0] 25) = W0 := ⟨_, rfl⟩
  rw [hW0] at KB HBW ⊢
  clear hW0 hb1
  go_wp2
  go_loopg [2] 6 (fun gg s2 wr => ∃ k : Nat, k ≤ 6 ∧ 6 - k ≤ gg ∧ s2 = .int .i64 k ∧ Hid (Bw W0 wr))
  case atStart => exact ⟨0, by omega, by omega, rfl, Lib.hid (Bw.refl _)⟩
  case round =>
    obtain ⟨k, hk, hgg, rfl, HW⟩ := hrel
    obtain ⟨wa, rfl⟩ : ∃ wa, wa = wr := ⟨_, rfl⟩
    by_cases hlt : k < 6
    · have hkz : (k : Int) < 6 := by omega
      have hk0 : (0 : Int) ≤ k := by omega
      have HR := Lib.hid (HRG.out wa b1 (KB.out.bw HW.out) k hlt)
      have CB := Lib.hid (fun W => CKB.out k hlt W)
      have HS := Lib.hid (HSZ.out k)
      generalize cs k = c9 at HR CB HS
      go_wp2_with (first | ((with_reducible refine at_load 25 (.tmp 39) ?_); refine wpList_load_mid rfl 25 _ rfl b1 (k * 19) rfl c9 _ HR.out Try.underlying25 rfl HS.out ?_) | (go_at_call 13; (with_reducible refine Calls.mono (CB.out _) ?_); rintro e1 w2 ⟨rfl, hb9⟩; replace HW := Lib.hid (HW.out.trans hb9); clear hb9))
      go_roundg (6 - (k + 1))
      case measure => omega
      case rel => exact ⟨k + 1, by omega, by omega, by go_num, HW⟩
    · obtain rfl : k = 6 := by omega
      have hkz : ¬ ((6 : Nat) : Int) < 6 := by omega
      replace HBW := Lib.hid (HBW.out.trans HW.out)
      clear HW KB CKB HRG HSZ
      go_upto_region 9 with (first | (go_at_call 23; (with_reducible refine Calls.mono (PL7.out _) ?_); rintro e1 w2 ⟨rfl, hb9⟩; replace HBW := Lib.hid (HBW.out.trans hb9); clear hb9) | (go_at_call 13; (first | (with_reducible refine Calls.mono (CK7.out _) ?_) | (with_reducible refine Calls.mono (CKL.out _) ?_)); rintro e1 w3 ⟨rfl, hb9⟩; replace HBW := Lib.hid (HBW.out.trans hb9); clear hb9) | (go_at_call 24; (with_reducible refine Calls.mono (FT.out _ _) ?_); rintro e1 w4 ⟨rfl, hb9⟩; replace HBW := Lib.hid (HBW.out.trans hb9); clear hb9))
      clear CK7 CKL FT f1 f2 f3 f4
      go_upto_region 10 with (first | (go_at_call 23; (with_reducible refine Calls.mono (PL7.out _) ?_); rintro e1 w5 ⟨rfl, hb9⟩; replace HBW := Lib.hid (HBW.out.trans hb9); clear hb9) | (go_at_call 25; (with_reducible refine Calls.mono (FR7.out _) ?_); rintro e1 w6 ⟨⟨vl, fl, rfl, hol, hml⟩, hb9⟩; replace HBW := Lib.hid (HBW.out.trans hb9); clear hb9))
      obtain ⟨gl, cl, Dl, rfl, hcl, hgl, HRL⟩ := row3_at hol hml
      have HRL := Lib.hid HRL
      clear hol hml
      go_upto_region 11 with (first | (go_at_call 23; (with_reducible refine Calls.mono (PL8.out _) ?_); rintro e1 w7 ⟨rfl, hb9⟩; replace HBW := Lib.hid (HBW.out.trans hb9); replace HRL := Lib.hid (HRL.out.bw hb9); clear hb9) | (go_at_call 25; (with_reducible refine Calls.mono (FR8.out _) ?_); rintro e1 w8 ⟨⟨vm, fm, rfl, hom, hmm⟩, hb9⟩; replace HBW := Lib.hid (HBW.out.trans hb9); replace HRL := Lib.hid (HRL.out.bw hb9); clear hb9))
      obtain ⟨gm, cm, Dm, rfl, hcm, hgm, HRM⟩ := row3_at hom hmm
      have HRM := Lib.hid HRM
      clear hom hmm FR7 FR8 PL8
      have HBO := Lib.hid (fun (W : World) => RdI.litN W #[.int .i64 5, .int .i64 6, .int .i64 7, .int .i64 13, .int .i64 27, .int .i64 28, .int .i64 31] 3 onesL W.heap.size rfl (by rfl) (by decide))
      go_upto_region 15 with fail
      obtain ⟨bo, hbo⟩ : ∃ bo, w8.heap.size = bo := ⟨_, rfl⟩
      have HON := HBO.out w8
      have hb9 := Bw.alloc (Bw.refl w8) (.cells #[.int .i64 5, .int .i64 6, .int .i64 7, .int .i64 13, .int .i64 27, .int .i64 28, .int .i64 31] 3)
      rw [hbo] at HON ⊢
      obtain ⟨W2, hW2⟩ : ∃ W2, w8.alloc (.cells #[.int .i64 5, .int .i64 6, .int .i64 7, .int .i64 13, .int .i64 27, .int .i64 28, .int .i64 31] 3) = W2 := ⟨_, rfl⟩
      rw [hW2] at HON hb9 ⊢
      clear hW2 hbo HBO
      replace HBW := Lib.hid (HBW.out.trans hb9)
      replace HRL := Lib.hid (HRL.out.bw hb9)
      replace HRM := Lib.hid (HRM.out.bw hb9)
      clear hb9
      have HO1 := Lib.hid (show ∀ j, j < 7 → W2.cell? ⟨bo, j, none⟩ = some (.int .i64 (onesL.getD j 0)) from fun j hj => by have h9 := rd_at HON (i := j) hj; rw [Nat.zero_add] at h9; exact h9)
      clear HON
      have HOA := Lib.hid (fun i hi h => ones_at (i := i) hi h)
      have HCN := Lib.hid (show ∀ i, cntO i ≤ i ∧ cntO (i + 1) = cntO i + (if (FrE (plE 7) 0).getD i 0 = 1 then 1 else 0) from fun i => ⟨cnt_le i, rfl⟩)
      have HEND := Lib.hid ones_end
      obtain ⟨a0, c0, v0⟩ := (HRL.out.d 0 (by omega)).1.form
      have hd0 := (HRL.out.d 0 (by omega)).1
      have cl2 : W2.cell? ⟨gl, 2, none⟩ = some (Dl 0) := (HRL.out.c 0 (by omega)).2.2
      have hl0 : (FrE (plE 7) 0).length = 206 := (packedE (pl_ok 7 (by decide)) 0 (by omega)).1
      rw [v0, hl0] at cl2
      rw [v0] at hd0
      obtain ⟨b0, o0, c00, hv0, _, hc0⟩ := hd0.at (by omega)
      injection hv0 with i1 i2 i3
      subst i1
      clear i2 i3 hd0
      have HC0 := Lib.hid (show ∀ i, i < 206 → W2.cell? ⟨b0, o0 + i, none⟩ = some (.int .i64 ((FrE (plE 7) 0).getD i 0)) from fun i hi => hc0 i (by omega))
      clear hc0 hl0
      generalize hFB : (fun i => (FrE (plE 7) 0).getD i 0) = FB at *
      have HFB := Lib.hid (show ∀ i, (FrE (plE 7) 0).getD i 0 = FB i from fun i => by rw [← hFB])
      clear hFB
      simp only [HFB.out] at HOA HCN HC0
      generalize cntO = CO at *
      generalize onesL = OL at *
      go_wp2
      go_loopg [8, 9] 206 (fun gg s8 s9 wr => ∃ i : Nat, i ≤ 206 ∧ 206 - i ≤ gg ∧ s9 = .int .i64 i ∧ s8 = .int .i64 (CO i) ∧ wr = W2)
      case atStart => exact ⟨0, by omega, by omega, rfl, by rw [show CO 0 = 0 by have := (HCN.out 0).1; omega]; rfl, rfl⟩
      case round =>
        obtain ⟨i, hi, hgg, rfl, rfl, rfl⟩ := hrel
        by_cases hlt9 : i < 206
        · have hiz : (i : Int) < 206 := by omega
          have hi0 : (0 : Int) ≤ i := by omega
          have cz := HC0.out i hlt9
          obtain ⟨hle9, hnx⟩ := HCN.out i
          have HNX := Lib.hid hnx
          have HO9 := Lib.hid (fun h => HOA.out i hlt9 h)
          clear hnx
          generalize FB i = z at *
          by_cases hz : z = 1
          · obtain ⟨h7, hon⟩ := HO9.out hz
            have co := HO1.out (CO i) h7
            rw [hon] at co
            have hzb : (z == 1) = true := by simpa using hz
            have HN1 := Lib.hid (show CO (i + 1) = CO i + 1 by rw [HNX.out, if_pos hz])
            clear hz hon HNX HO9
            generalize CO i = n9 at *
            have h7z : (n9 : Int) < 7 := by omega
            have h70 : (0 : Int) ≤ n9 := by omega
            have hii : ((i : Int) != i) = false := by simp
            go_wp2
            go_roundg (206 - (i + 1))
            case measure => omega
            case rel => exact ⟨i + 1, by omega, by omega, by go_num, by rw [HN1.out]; go_num, rfl⟩
          · have hzb : (z == 1) = false := by simpa using hz
            have HN1 := Lib.hid (show CO (i + 1) = CO i by rw [HNX.out, if_neg hz, Nat.add_zero])
            clear hz HNX HO9
            go_wp2
            go_roundg (206 - (i + 1))
            case measure => omega
            case rel => exact ⟨i + 1, by omega, by omega, by go_num, by rw [HN1.out], rfl⟩
        · obtain rfl : i = 206 := by omega
          have hiz : ¬ ((206 : Nat) : Int) < 206 := by omega
          rw [HEND.out]
          go_upto_region 22 with fail
          obtain ⟨WW, hWW⟩ : ∃ WW, WW = wr := ⟨_, rfl⟩
          subst hWW
          have lG : ∀ j, j < 3 → (FrE (plE 7) j).length = 206 := fun j hj => (packedE (pl_ok 7 (by decide)) j hj).1
          have lM : ∀ j, j < 3 → (FrE (plE 8) j).length = 206 := fun j hj => (packedE (pl_ok 8 (by decide)) j hj).1
          obtain ⟨a1, c1, v1⟩ := (HRL.out.d 1 (by omega)).1.form
          obtain ⟨a2, c2, v2⟩ := (HRL.out.d 2 (by omega)).1.form
          obtain ⟨x0, y0, e0⟩ := (HRM.out.d 0 (by omega)).1.form
          obtain ⟨x1, y1, e1⟩ := (HRM.out.d 1 (by omega)).1.form
          obtain ⟨x2, y2, e2⟩ := (HRM.out.d 2 (by omega)).1.form
          rw [lG 0 (by omega)] at v0
          rw [lG 1 (by omega)] at v1
          rw [lG 2 (by omega)] at v2
          rw [lM 0 (by omega)] at e0
          rw [lM 1 (by omega)] at e1
          rw [lM 2 (by omega)] at e2
          have q0 : WW.cell? ⟨gl, 0, none⟩ = some (.int .i64 131071) := (HRL.out.c 0 (by omega)).1
          have q1 : WW.cell? ⟨gl, 1, none⟩ = some (.int .i64 1) := (HRL.out.c 0 (by omega)).2.1
          have q2 : WW.cell? ⟨gl, 2, none⟩ = some (.slice (some ⟨b0, o0, none⟩) 206 c0) := by rw [← v0]; exact (HRL.out.c 0 (by omega)).2.2
          have q3 : WW.cell? ⟨gl, 3, none⟩ = some (.int .i64 0) := (HRL.out.c 1 (by omega)).1
          have q4 : WW.cell? ⟨gl, 4, none⟩ = some (.int .i64 2) := (HRL.out.c 1 (by omega)).2.1
          have q5 : WW.cell? ⟨gl, 5, none⟩ = some (.slice a1 206 c1) := by rw [← v1]; exact (HRL.out.c 1 (by omega)).2.2
          have q6 : WW.cell? ⟨gl, 6, none⟩ = some (.int .i64 1) := (HRL.out.c 2 (by omega)).1
          have q7 : WW.cell? ⟨gl, 7, none⟩ = some (.int .i64 3) := (HRL.out.c 2 (by omega)).2.1
          have q8 : WW.cell? ⟨gl, 8, none⟩ = some (.slice a2 206 c2) := by rw [← v2]; exact (HRL.out.c 2 (by omega)).2.2
          have q9 : WW.cell? ⟨gm, 0, none⟩ = some (.int .i64 5) := (HRM.out.c 0 (by omega)).1
          have q10 : WW.cell? ⟨gm, 1, none⟩ = some (.int .i64 1) := (HRM.out.c 0 (by omega)).2.1
          have q11 : WW.cell? ⟨gm, 2, none⟩ = some (.slice x0 206 y0) := by rw [← e0]; exact (HRM.out.c 0 (by omega)).2.2
          have q12 : WW.cell? ⟨gm, 3, none⟩ = some (.int .i64 6) := (HRM.out.c 1 (by omega)).1
          have q13 : WW.cell? ⟨gm, 4, none⟩ = some (.int .i64 2) := (HRM.out.c 1 (by omega)).2.1
          have q14 : WW.cell? ⟨gm, 5, none⟩ = some (.slice x1 206 y1) := by rw [← e1]; exact (HRM.out.c 1 (by omega)).2.2
          have q15 : WW.cell? ⟨gm, 6, none⟩ = some (.int .i64 7) := (HRM.out.c 2 (by omega)).1
          have q16 : WW.cell? ⟨gm, 7, none⟩ = some (.int .i64 3) := (HRM.out.c 2 (by omega)).2.1
          have q17 : WW.cell? ⟨gm, 8, none⟩ = some (.slice x2 206 y2) := by rw [← e2]; exact (HRM.out.c 2 (by omega)).2.2
          have RE1 : Hid (∀ b W, Bw WW W → Blk W b 47 #[.int .i64 131071, .int .i64 1, .slice (some ⟨b0, o0, none⟩) 206 c0, .int .i64 0, .int .i64 2, .slice a1 206 c1, .int .i64 7, .int .i64 3, .slice x2 206 y2] → Calls Try.prog 18 #[.slice (some ⟨b, 0, none⟩) 3 3] W fun e w' => e = .returned (.tuple #[.agg (eV zE), .int .i64 18]) ∧ Bw W w') := Lib.hid (fun b W hb hB => by
            rw [← v0, ← v1, ← e2] at hB
            exact read22 (HRL.out.bw hb) (HRM.out.bw hb) b hB)
          have RE2 : Hid (∀ b W, Bw WW W → Blk W b 47 #[.int .i64 131071, .int .i64 1, .slice (some ⟨b0, o0, none⟩) 206 c0, .int .i64 131071, .int .i64 1, .slice (some ⟨b0, o0, none⟩) 206 c0, .int .i64 0, .int .i64 2, .slice a1 206 c1] → Calls Try.prog 18 #[.slice (some ⟨b, 0, none⟩) 3 3] W fun e w' => e = .returned (.tuple #[.agg (eV zE), .int .i64 18]) ∧ Bw W w') := Lib.hid (fun b W hb hB => by
            rw [← v0, ← v1] at hB
            exact read23 (HRL.out.bw hb) b hB)
          have RE3 : Hid (∀ W, Bw WW W → Calls Try.prog 18 #[.slice (some ⟨gl, 0, none⟩) 2 cl] W fun e w' => e = .returned (.tuple #[.agg (eV zE), .int .i64 3]) ∧ Bw W w') := Lib.hid (fun W hb => read24 (HRL.out.bw hb) hcl)
          have HB0 := Lib.hid (Bw.refl WW)
          go_cut [10, 11] from 266 (fun s10 s11 wc => ∃ g10, s10 = .pointer (some ⟨g10, 0, none⟩) ∧ s11 = .int .i64 18 ∧ Hid (Bw WW wc))
          case first =>
            refine wp_region_held_drew (S := Bw WW) (by kernel_rfl) (Bw.drew HB0.out) (fun hS => ?_)
            generalize World.drew _ = wd at hS ⊢
            refine take1 (i := 0) (some 115) rfl rfl (by kernel_rfl) (by kernel_rfl) (by kernel_rfl) (fun _ _ _ _ h => h) rfl hS ?_
            apply Exists.intro
            apply And.intro
            · intro W9 hW9; have z0 := hW9.cell' q0; have z1 := hW9.cell' q1; have z2 := hW9.cell' q2; have z3 := hW9.cell' q3; have z4 := hW9.cell' q4; have z5 := hW9.cell' q5; have z6 := hW9.cell' q6; have z7 := hW9.cell' q7; have z8 := hW9.cell' q8; have z9 := hW9.cell' q9; have z10 := hW9.cell' q10; have z11 := hW9.cell' q11; have z12 := hW9.cell' q12; have z13 := hW9.cell' q13; have z14 := hW9.cell' q14; have z15 := hW9.cell' q15; have z16 := hW9.cell' q16; have z17 := hW9.cell' q17; go_simp; try with_reducible rfl
            simp only [Act.put, List.setIfInBounds_toArray, List.set_cons_zero, List.set_cons_succ]
            refine take1 (i := 1) (some 116) rfl rfl (by kernel_rfl) (by kernel_rfl) (by kernel_rfl) (fun _ _ _ _ h => h) rfl hS ?_
            apply Exists.intro
            apply And.intro
            · intro W9 hW9; have z0 := hW9.cell' q0; have z1 := hW9.cell' q1; have z2 := hW9.cell' q2; have z3 := hW9.cell' q3; have z4 := hW9.cell' q4; have z5 := hW9.cell' q5; have z6 := hW9.cell' q6; have z7 := hW9.cell' q7; have z8 := hW9.cell' q8; have z9 := hW9.cell' q9; have z10 := hW9.cell' q10; have z11 := hW9.cell' q11; have z12 := hW9.cell' q12; have z13 := hW9.cell' q13; have z14 := hW9.cell' q14; have z15 := hW9.cell' q15; have z16 := hW9.cell' q16; have z17 := hW9.cell' q17; go_simp; try with_reducible rfl
            simp only [Act.put, List.setIfInBounds_toArray, List.set_cons_zero, List.set_cons_succ]
            refine take1 (i := 2) (some 117) rfl rfl (by kernel_rfl) (by kernel_rfl) (by kernel_rfl) (fun _ _ _ _ h => h) rfl hS ?_
            refine Exists.intro (.agg #[.int .i64 131071, .int .i64 1, .slice (some ⟨b0, o0, none⟩) 206 c0]) ?_
            apply And.intro
            · intro W9 hW9; have z0 := hW9.cell' q0; have z1 := hW9.cell' q1; have z2 := hW9.cell' q2; have z3 := hW9.cell' q3; have z4 := hW9.cell' q4; have z5 := hW9.cell' q5; have z6 := hW9.cell' q6; have z7 := hW9.cell' q7; have z8 := hW9.cell' q8; have z9 := hW9.cell' q9; have z10 := hW9.cell' q10; have z11 := hW9.cell' q11; have z12 := hW9.cell' q12; have z13 := hW9.cell' q13; have z14 := hW9.cell' q14; have z15 := hW9.cell' q15; have z16 := hW9.cell' q16; have z17 := hW9.cell' q17; go_simp; (try go_bits); (try with_reducible rfl); (try trivial)
            simp only [Act.put, List.setIfInBounds_toArray, List.set_cons_zero, List.set_cons_succ]
            refine take1 (i := 3) (some 118) rfl rfl (by kernel_rfl) (by kernel_rfl) (by kernel_rfl) (fun _ _ _ _ h => h) rfl hS ?_
            apply Exists.intro
            apply And.intro
            · intro W9 hW9; have z0 := hW9.cell' q0; have z1 := hW9.cell' q1; have z2 := hW9.cell' q2; have z3 := hW9.cell' q3; have z4 := hW9.cell' q4; have z5 := hW9.cell' q5; have z6 := hW9.cell' q6; have z7 := hW9.cell' q7; have z8 := hW9.cell' q8; have z9 := hW9.cell' q9; have z10 := hW9.cell' q10; have z11 := hW9.cell' q11; have z12 := hW9.cell' q12; have z13 := hW9.cell' q13; have z14 := hW9.cell' q14; have z15 := hW9.cell' q15; have z16 := hW9.cell' q16; have z17 := hW9.cell' q17; go_simp; try with_reducible rfl
            simp only [Act.put, List.setIfInBounds_toArray, List.set_cons_zero, List.set_cons_succ]
            refine take1 (i := 4) (some 119) rfl rfl (by kernel_rfl) (by kernel_rfl) (by kernel_rfl) (fun _ _ _ _ h => h) rfl hS ?_
            apply Exists.intro
            apply And.intro
            · intro W9 hW9; have z0 := hW9.cell' q0; have z1 := hW9.cell' q1; have z2 := hW9.cell' q2; have z3 := hW9.cell' q3; have z4 := hW9.cell' q4; have z5 := hW9.cell' q5; have z6 := hW9.cell' q6; have z7 := hW9.cell' q7; have z8 := hW9.cell' q8; have z9 := hW9.cell' q9; have z10 := hW9.cell' q10; have z11 := hW9.cell' q11; have z12 := hW9.cell' q12; have z13 := hW9.cell' q13; have z14 := hW9.cell' q14; have z15 := hW9.cell' q15; have z16 := hW9.cell' q16; have z17 := hW9.cell' q17; go_simp; try with_reducible rfl
            simp only [Act.put, List.setIfInBounds_toArray, List.set_cons_zero, List.set_cons_succ]
            refine take1 (i := 5) (some 120) rfl rfl (by kernel_rfl) (by kernel_rfl) (by kernel_rfl) (fun _ _ _ _ h => h) rfl hS ?_
            refine Exists.intro (.agg #[.int .i64 0, .int .i64 2, .slice a1 206 c1]) ?_
            apply And.intro
            · intro W9 hW9; have z0 := hW9.cell' q0; have z1 := hW9.cell' q1; have z2 := hW9.cell' q2; have z3 := hW9.cell' q3; have z4 := hW9.cell' q4; have z5 := hW9.cell' q5; have z6 := hW9.cell' q6; have z7 := hW9.cell' q7; have z8 := hW9.cell' q8; have z9 := hW9.cell' q9; have z10 := hW9.cell' q10; have z11 := hW9.cell' q11; have z12 := hW9.cell' q12; have z13 := hW9.cell' q13; have z14 := hW9.cell' q14; have z15 := hW9.cell' q15; have z16 := hW9.cell' q16; have z17 := hW9.cell' q17; go_simp; (try go_bits); (try with_reducible rfl); (try trivial)
            simp only [Act.put, List.setIfInBounds_toArray, List.set_cons_zero, List.set_cons_succ]
            refine take1 (i := 6) (some 121) rfl rfl (by kernel_rfl) (by kernel_rfl) (by kernel_rfl) (fun _ _ _ _ h => h) rfl hS ?_
            apply Exists.intro
            apply And.intro
            · intro W9 hW9; have z0 := hW9.cell' q0; have z1 := hW9.cell' q1; have z2 := hW9.cell' q2; have z3 := hW9.cell' q3; have z4 := hW9.cell' q4; have z5 := hW9.cell' q5; have z6 := hW9.cell' q6; have z7 := hW9.cell' q7; have z8 := hW9.cell' q8; have z9 := hW9.cell' q9; have z10 := hW9.cell' q10; have z11 := hW9.cell' q11; have z12 := hW9.cell' q12; have z13 := hW9.cell' q13; have z14 := hW9.cell' q14; have z15 := hW9.cell' q15; have z16 := hW9.cell' q16; have z17 := hW9.cell' q17; go_simp; try with_reducible rfl
            simp only [Act.put, List.setIfInBounds_toArray, List.set_cons_zero, List.set_cons_succ]
            refine take1 (i := 7) (some 122) rfl rfl (by kernel_rfl) (by kernel_rfl) (by kernel_rfl) (fun _ _ _ _ h => h) rfl hS ?_
            apply Exists.intro
            apply And.intro
            · intro W9 hW9; have z0 := hW9.cell' q0; have z1 := hW9.cell' q1; have z2 := hW9.cell' q2; have z3 := hW9.cell' q3; have z4 := hW9.cell' q4; have z5 := hW9.cell' q5; have z6 := hW9.cell' q6; have z7 := hW9.cell' q7; have z8 := hW9.cell' q8; have z9 := hW9.cell' q9; have z10 := hW9.cell' q10; have z11 := hW9.cell' q11; have z12 := hW9.cell' q12; have z13 := hW9.cell' q13; have z14 := hW9.cell' q14; have z15 := hW9.cell' q15; have z16 := hW9.cell' q16; have z17 := hW9.cell' q17; go_simp; try with_reducible rfl
            simp only [Act.put, List.setIfInBounds_toArray, List.set_cons_zero, List.set_cons_succ]
            refine take1 (i := 8) (some 123) rfl rfl (by kernel_rfl) (by kernel_rfl) (by kernel_rfl) (fun _ _ _ _ h => h) rfl hS ?_
            refine Exists.intro (.agg #[.int .i64 7, .int .i64 3, .slice x2 206 y2]) ?_
            apply And.intro
            · intro W9 hW9; have z0 := hW9.cell' q0; have z1 := hW9.cell' q1; have z2 := hW9.cell' q2; have z3 := hW9.cell' q3; have z4 := hW9.cell' q4; have z5 := hW9.cell' q5; have z6 := hW9.cell' q6; have z7 := hW9.cell' q7; have z8 := hW9.cell' q8; have z9 := hW9.cell' q9; have z10 := hW9.cell' q10; have z11 := hW9.cell' q11; have z12 := hW9.cell' q12; have z13 := hW9.cell' q13; have z14 := hW9.cell' q14; have z15 := hW9.cell' q15; have z16 := hW9.cell' q16; have z17 := hW9.cell' q17; go_simp; (try go_bits); (try with_reducible rfl); (try trivial)
            simp only [Act.put, List.setIfInBounds_toArray, List.set_cons_zero, List.set_cons_succ]
            refine wpAnyH_ready (rs := [9, 14]) (by kernel_rfl) (by simp) ?_
            refine AllReadyH.cons rfl (fun K hK => ?_) ?_
            go_simp
            have hba := Bw.alloc (Bw.refl wd) (.cells #[.int .i64 131071, .int .i64 1, .slice (some ⟨b0, o0, none⟩) 206 c0, .int .i64 0, .int .i64 2, .slice a1 206 c1, .int .i64 7, .int .i64 3, .slice x2 206 y2] 47)
            have NBK := Lib.hid (Blk.new wd 47 #[.int .i64 131071, .int .i64 1, .slice (some ⟨b0, o0, none⟩) 206 c0, .int .i64 0, .int .i64 2, .slice a1 206 c1, .int .i64 7, .int .i64 3, .slice x2 206 y2])
            obtain ⟨gb, hgb⟩ : ∃ gb, wd.heap.size = gb := ⟨_, rfl⟩
            rw [hgb] at NBK
            refine hK.out _ _ (hS.trans hba) (fun hS => ?_)
            clear hK K
            clear hba
            try rw [hgb]
            clear hgb
            generalize World.alloc wd _ = w13 at hS NBK ⊢
            refine wpAnyH_ready (rs := [10, 14]) (by kernel_rfl) (by simp) ?_
            refine AllReadyH.cons rfl (fun K hK => ?_) ?_
            go_simp
            go_wp2_with (go_at_call 18; (with_reducible refine Calls.mono (RE1.out _ _ hS NBK.out) ?_); rintro e1 w14 ⟨rfl, hb14⟩)
            refine hK.out _ _ (hS.trans hb14) (fun hS => ?_)
            clear hK K
            clear hb14
            refine take1 (i := 11) (some 114) rfl rfl (by kernel_rfl) (by kernel_rfl) (by kernel_rfl) (fun _ _ _ _ h => h) rfl hS ?_
            apply Exists.intro
            apply And.intro
            · intro W9 hW9; have z0 := hW9.cell' q0; have z1 := hW9.cell' q1; have z2 := hW9.cell' q2; have z3 := hW9.cell' q3; have z4 := hW9.cell' q4; have z5 := hW9.cell' q5; have z6 := hW9.cell' q6; have z7 := hW9.cell' q7; have z8 := hW9.cell' q8; have z9 := hW9.cell' q9; have z10 := hW9.cell' q10; have z11 := hW9.cell' q11; have z12 := hW9.cell' q12; have z13 := hW9.cell' q13; have z14 := hW9.cell' q14; have z15 := hW9.cell' q15; have z16 := hW9.cell' q16; have z17 := hW9.cell' q17; go_simp; try with_reducible rfl
            simp only [Act.put, List.setIfInBounds_toArray, List.set_cons_zero, List.set_cons_succ]
            refine take1 (i := 12) (some 126) rfl rfl (by kernel_rfl) (by kernel_rfl) (by kernel_rfl) (fun _ _ _ _ h => h) rfl hS ?_
            apply Exists.intro
            apply And.intro
            · intro W9 hW9; have z0 := hW9.cell' q0; have z1 := hW9.cell' q1; have z2 := hW9.cell' q2; have z3 := hW9.cell' q3; have z4 := hW9.cell' q4; have z5 := hW9.cell' q5; have z6 := hW9.cell' q6; have z7 := hW9.cell' q7; have z8 := hW9.cell' q8; have z9 := hW9.cell' q9; have z10 := hW9.cell' q10; have z11 := hW9.cell' q11; have z12 := hW9.cell' q12; have z13 := hW9.cell' q13; have z14 := hW9.cell' q14; have z15 := hW9.cell' q15; have z16 := hW9.cell' q16; have z17 := hW9.cell' q17; go_simp; try with_reducible rfl
            simp only [Act.put, List.setIfInBounds_toArray, List.set_cons_zero, List.set_cons_succ]
            refine take1 (i := 13) (some 127) rfl rfl (by kernel_rfl) (by kernel_rfl) (by kernel_rfl) (fun _ _ _ _ h => h) rfl hS ?_
            apply Exists.intro
            apply And.intro
            · intro W9 hW9; have z0 := hW9.cell' q0; have z1 := hW9.cell' q1; have z2 := hW9.cell' q2; have z3 := hW9.cell' q3; have z4 := hW9.cell' q4; have z5 := hW9.cell' q5; have z6 := hW9.cell' q6; have z7 := hW9.cell' q7; have z8 := hW9.cell' q8; have z9 := hW9.cell' q9; have z10 := hW9.cell' q10; have z11 := hW9.cell' q11; have z12 := hW9.cell' q12; have z13 := hW9.cell' q13; have z14 := hW9.cell' q14; have z15 := hW9.cell' q15; have z16 := hW9.cell' q16; have z17 := hW9.cell' q17; go_simp; try with_reducible rfl
            simp only [Act.put, List.setIfInBounds_toArray, List.set_cons_zero, List.set_cons_succ]
            refine wpAnyH_ready (rs := [14]) (by kernel_rfl) (by simp) ?_
            refine AllReadyH.cons rfl (fun K hK => ?_) ?_
            rw [if_pos (by rfl)]
            refine wp_alloc_new 25 rfl (some 10) rfl _ (zeroEp _) ?_
            intro g11 w5 hg9 hN hbw
            simp only [Act.put, List.setIfInBounds_toArray, List.set_cons_zero, List.set_cons_succ]
            have K11 := Lib.hid hN
            have H11 := Lib.hid (Nat.le_trans hS.size hg9)
            clear hN
            refine hK.out _ _ (hS.trans hbw) (fun hS => ?_)
            clear hK K
            clear hbw hg9
            refine wpAnyH_ready (rs := [15]) (by kernel_rfl) (by simp) ?_
            refine AllReadyH.cons rfl (fun K hK => ?_) ?_
            rw [if_pos (by rfl)]
            refine wp_store_row0 25 _ _ rfl rfl g11 (eV zE) rfl rfl 25 #[.int .i64 0, .int .i64 0, .int .i64 0, .int .i64 0, .int .i64 0, .int .i64 0, .int .i64 0, .int .i64 0, .int .i64 0, .int .i64 0, .int .i64 0, .int .i64 0, .int .i64 0, .int .i64 0, .int .i64 0, .int .i64 0, .int .i64 0, .int .i64 0, .int .i64 0] K11.out (by kernel_rfl) rfl (by simp [Value.oneCell', eV]) ?_
            refine hK.out _ _ (Bw.setRow hS H11.out (eV zE)) (fun hS => ?_)
            clear hK K
            refine take1 (i := 16) (some 11) rfl rfl (by kernel_rfl) (by kernel_rfl) (by kernel_rfl) (fun _ _ _ _ h => h) rfl hS ?_
            apply Exists.intro
            apply And.intro
            · intro W9 hW9; have z0 := hW9.cell' q0; have z1 := hW9.cell' q1; have z2 := hW9.cell' q2; have z3 := hW9.cell' q3; have z4 := hW9.cell' q4; have z5 := hW9.cell' q5; have z6 := hW9.cell' q6; have z7 := hW9.cell' q7; have z8 := hW9.cell' q8; have z9 := hW9.cell' q9; have z10 := hW9.cell' q10; have z11 := hW9.cell' q11; have z12 := hW9.cell' q12; have z13 := hW9.cell' q13; have z14 := hW9.cell' q14; have z15 := hW9.cell' q15; have z16 := hW9.cell' q16; have z17 := hW9.cell' q17; go_simp; try with_reducible rfl
            simp only [Act.put, List.setIfInBounds_toArray, List.set_cons_zero, List.set_cons_succ]
            refine wpAnyH_done (by kernel_rfl) ?_ _
            rotate_left
            exact AllReadyH.nil
            exact AllReadyH.nil
            refine AllReadyH.cons rfl (fun K hK => ?_) ?_
            rw [if_pos (by rfl)]
            refine wp_alloc_new 25 rfl (some 10) rfl _ (zeroEp _) ?_
            intro g11 w5 hg9 hN hbw
            simp only [Act.put, List.setIfInBounds_toArray, List.set_cons_zero, List.set_cons_succ]
            have K11 := Lib.hid hN
            have H11 := Lib.hid (Nat.le_trans hS.size hg9)
            replace NBK := Lib.hid (NBK.out.bw hbw)
            clear hN
            refine hK.out _ _ (hS.trans hbw) (fun hS => ?_)
            clear hK K
            clear hbw hg9
            refine wpAnyH_ready (rs := [10]) (by kernel_rfl) (by simp) ?_
            refine AllReadyH.cons rfl (fun K hK => ?_) ?_
            go_simp
            go_wp2_with (go_at_call 18; (with_reducible refine Calls.mono (RE1.out _ _ hS NBK.out) ?_); rintro e1 w14 ⟨rfl, hb14⟩)
            replace K11 := Lib.hid (K11.out.bw hb14)
            refine hK.out _ _ (hS.trans hb14) (fun hS => ?_)
            clear hK K
            clear hb14
            refine take1 (i := 11) (some 114) rfl rfl (by kernel_rfl) (by kernel_rfl) (by kernel_rfl) (fun _ _ _ _ h => h) rfl hS ?_
            apply Exists.intro
            apply And.intro
            · intro W9 hW9; have z0 := hW9.cell' q0; have z1 := hW9.cell' q1; have z2 := hW9.cell' q2; have z3 := hW9.cell' q3; have z4 := hW9.cell' q4; have z5 := hW9.cell' q5; have z6 := hW9.cell' q6; have z7 := hW9.cell' q7; have z8 := hW9.cell' q8; have z9 := hW9.cell' q9; have z10 := hW9.cell' q10; have z11 := hW9.cell' q11; have z12 := hW9.cell' q12; have z13 := hW9.cell' q13; have z14 := hW9.cell' q14; have z15 := hW9.cell' q15; have z16 := hW9.cell' q16; have z17 := hW9.cell' q17; go_simp; try with_reducible rfl
            simp only [Act.put, List.setIfInBounds_toArray, List.set_cons_zero, List.set_cons_succ]
            refine take1 (i := 12) (some 126) rfl rfl (by kernel_rfl) (by kernel_rfl) (by kernel_rfl) (fun _ _ _ _ h => h) rfl hS ?_
            apply Exists.intro
            apply And.intro
            · intro W9 hW9; have z0 := hW9.cell' q0; have z1 := hW9.cell' q1; have z2 := hW9.cell' q2; have z3 := hW9.cell' q3; have z4 := hW9.cell' q4; have z5 := hW9.cell' q5; have z6 := hW9.cell' q6; have z7 := hW9.cell' q7; have z8 := hW9.cell' q8; have z9 := hW9.cell' q9; have z10 := hW9.cell' q10; have z11 := hW9.cell' q11; have z12 := hW9.cell' q12; have z13 := hW9.cell' q13; have z14 := hW9.cell' q14; have z15 := hW9.cell' q15; have z16 := hW9.cell' q16; have z17 := hW9.cell' q17; go_simp; try with_reducible rfl
            simp only [Act.put, List.setIfInBounds_toArray, List.set_cons_zero, List.set_cons_succ]
            refine take1 (i := 13) (some 127) rfl rfl (by kernel_rfl) (by kernel_rfl) (by kernel_rfl) (fun _ _ _ _ h => h) rfl hS ?_
            apply Exists.intro
            apply And.intro
            · intro W9 hW9; have z0 := hW9.cell' q0; have z1 := hW9.cell' q1; have z2 := hW9.cell' q2; have z3 := hW9.cell' q3; have z4 := hW9.cell' q4; have z5 := hW9.cell' q5; have z6 := hW9.cell' q6; have z7 := hW9.cell' q7; have z8 := hW9.cell' q8; have z9 := hW9.cell' q9; have z10 := hW9.cell' q10; have z11 := hW9.cell' q11; have z12 := hW9.cell' q12; have z13 := hW9.cell' q13; have z14 := hW9.cell' q14; have z15 := hW9.cell' q15; have z16 := hW9.cell' q16; have z17 := hW9.cell' q17; go_simp; try with_reducible rfl
            simp only [Act.put, List.setIfInBounds_toArray, List.set_cons_zero, List.set_cons_succ]
            refine wpAnyH_ready (rs := [15]) (by kernel_rfl) (by simp) ?_
            refine AllReadyH.cons rfl (fun K hK => ?_) ?_
            rw [if_pos (by rfl)]
            refine wp_store_row0 25 _ _ rfl rfl g11 (eV zE) rfl rfl 25 #[.int .i64 0, .int .i64 0, .int .i64 0, .int .i64 0, .int .i64 0, .int .i64 0, .int .i64 0, .int .i64 0, .int .i64 0, .int .i64 0, .int .i64 0, .int .i64 0, .int .i64 0, .int .i64 0, .int .i64 0, .int .i64 0, .int .i64 0, .int .i64 0, .int .i64 0] K11.out (by kernel_rfl) rfl (by simp [Value.oneCell', eV]) ?_
            refine hK.out _ _ (Bw.setRow hS H11.out (eV zE)) (fun hS => ?_)
            clear hK K
            refine take1 (i := 16) (some 11) rfl rfl (by kernel_rfl) (by kernel_rfl) (by kernel_rfl) (fun _ _ _ _ h => h) rfl hS ?_
            apply Exists.intro
            apply And.intro
            · intro W9 hW9; have z0 := hW9.cell' q0; have z1 := hW9.cell' q1; have z2 := hW9.cell' q2; have z3 := hW9.cell' q3; have z4 := hW9.cell' q4; have z5 := hW9.cell' q5; have z6 := hW9.cell' q6; have z7 := hW9.cell' q7; have z8 := hW9.cell' q8; have z9 := hW9.cell' q9; have z10 := hW9.cell' q10; have z11 := hW9.cell' q11; have z12 := hW9.cell' q12; have z13 := hW9.cell' q13; have z14 := hW9.cell' q14; have z15 := hW9.cell' q15; have z16 := hW9.cell' q16; have z17 := hW9.cell' q17; go_simp; try with_reducible rfl
            simp only [Act.put, List.setIfInBounds_toArray, List.set_cons_zero, List.set_cons_succ]
            refine wpAnyH_done (by kernel_rfl) ?_ _
            rotate_left
            exact AllReadyH.nil
            exact AllReadyH.nil
            exact AllReadyH.nil
            refine AllReadyH.cons rfl (fun K hK => ?_) ?_
            rw [if_pos (by rfl)]
            refine wp_alloc_new 25 rfl (some 10) rfl _ (zeroEp _) ?_
            intro g11 w5 hg9 hN hbw
            simp only [Act.put, List.setIfInBounds_toArray, List.set_cons_zero, List.set_cons_succ]
            have K11 := Lib.hid hN
            have H11 := Lib.hid (Nat.le_trans hS.size hg9)
            clear hN
            refine hK.out _ _ (hS.trans hbw) (fun hS => ?_)
            clear hK K
            clear hbw hg9
            refine wpAnyH_ready (rs := [9]) (by kernel_rfl) (by simp) ?_
            refine AllReadyH.cons rfl (fun K hK => ?_) ?_
            go_simp
            have hba := Bw.alloc (Bw.refl w5) (.cells #[.int .i64 131071, .int .i64 1, .slice (some ⟨b0, o0, none⟩) 206 c0, .int .i64 0, .int .i64 2, .slice a1 206 c1, .int .i64 7, .int .i64 3, .slice x2 206 y2] 47)
            have NBK := Lib.hid (Blk.new w5 47 #[.int .i64 131071, .int .i64 1, .slice (some ⟨b0, o0, none⟩) 206 c0, .int .i64 0, .int .i64 2, .slice a1 206 c1, .int .i64 7, .int .i64 3, .slice x2 206 y2])
            obtain ⟨gb, hgb⟩ : ∃ gb, w5.heap.size = gb := ⟨_, rfl⟩
            rw [hgb] at NBK
            replace K11 := Lib.hid (K11.out.bw hba)
            refine hK.out _ _ (hS.trans hba) (fun hS => ?_)
            clear hK K
            clear hba
            try rw [hgb]
            clear hgb
            generalize World.alloc w5 _ = w13 at hS NBK K11 ⊢
            refine wpAnyH_ready (rs := [10]) (by kernel_rfl) (by simp) ?_
            refine AllReadyH.cons rfl (fun K hK => ?_) ?_
            go_simp
            go_wp2_with (go_at_call 18; (with_reducible refine Calls.mono (RE1.out _ _ hS NBK.out) ?_); rintro e1 w14 ⟨rfl, hb14⟩)
            replace K11 := Lib.hid (K11.out.bw hb14)
            refine hK.out _ _ (hS.trans hb14) (fun hS => ?_)
            clear hK K
            clear hb14
            refine take1 (i := 11) (some 114) rfl rfl (by kernel_rfl) (by kernel_rfl) (by kernel_rfl) (fun _ _ _ _ h => h) rfl hS ?_
            apply Exists.intro
            apply And.intro
            · intro W9 hW9; have z0 := hW9.cell' q0; have z1 := hW9.cell' q1; have z2 := hW9.cell' q2; have z3 := hW9.cell' q3; have z4 := hW9.cell' q4; have z5 := hW9.cell' q5; have z6 := hW9.cell' q6; have z7 := hW9.cell' q7; have z8 := hW9.cell' q8; have z9 := hW9.cell' q9; have z10 := hW9.cell' q10; have z11 := hW9.cell' q11; have z12 := hW9.cell' q12; have z13 := hW9.cell' q13; have z14 := hW9.cell' q14; have z15 := hW9.cell' q15; have z16 := hW9.cell' q16; have z17 := hW9.cell' q17; go_simp; try with_reducible rfl
            simp only [Act.put, List.setIfInBounds_toArray, List.set_cons_zero, List.set_cons_succ]
            refine take1 (i := 12) (some 126) rfl rfl (by kernel_rfl) (by kernel_rfl) (by kernel_rfl) (fun _ _ _ _ h => h) rfl hS ?_
            apply Exists.intro
            apply And.intro
            · intro W9 hW9; have z0 := hW9.cell' q0; have z1 := hW9.cell' q1; have z2 := hW9.cell' q2; have z3 := hW9.cell' q3; have z4 := hW9.cell' q4; have z5 := hW9.cell' q5; have z6 := hW9.cell' q6; have z7 := hW9.cell' q7; have z8 := hW9.cell' q8; have z9 := hW9.cell' q9; have z10 := hW9.cell' q10; have z11 := hW9.cell' q11; have z12 := hW9.cell' q12; have z13 := hW9.cell' q13; have z14 := hW9.cell' q14; have z15 := hW9.cell' q15; have z16 := hW9.cell' q16; have z17 := hW9.cell' q17; go_simp; try with_reducible rfl
            simp only [Act.put, List.setIfInBounds_toArray, List.set_cons_zero, List.set_cons_succ]
            refine take1 (i := 13) (some 127) rfl rfl (by kernel_rfl) (by kernel_rfl) (by kernel_rfl) (fun _ _ _ _ h => h) rfl hS ?_
            apply Exists.intro
            apply And.intro
            · intro W9 hW9; have z0 := hW9.cell' q0; have z1 := hW9.cell' q1; have z2 := hW9.cell' q2; have z3 := hW9.cell' q3; have z4 := hW9.cell' q4; have z5 := hW9.cell' q5; have z6 := hW9.cell' q6; have z7 := hW9.cell' q7; have z8 := hW9.cell' q8; have z9 := hW9.cell' q9; have z10 := hW9.cell' q10; have z11 := hW9.cell' q11; have z12 := hW9.cell' q12; have z13 := hW9.cell' q13; have z14 := hW9.cell' q14; have z15 := hW9.cell' q15; have z16 := hW9.cell' q16; have z17 := hW9.cell' q17; go_simp; try with_reducible rfl
            simp only [Act.put, List.setIfInBounds_toArray, List.set_cons_zero, List.set_cons_succ]
            refine wpAnyH_ready (rs := [15]) (by kernel_rfl) (by simp) ?_
            refine AllReadyH.cons rfl (fun K hK => ?_) ?_
            rw [if_pos (by rfl)]
            refine wp_store_row0 25 _ _ rfl rfl g11 (eV zE) rfl rfl 25 #[.int .i64 0, .int .i64 0, .int .i64 0, .int .i64 0, .int .i64 0, .int .i64 0, .int .i64 0, .int .i64 0, .int .i64 0, .int .i64 0, .int .i64 0, .int .i64 0, .int .i64 0, .int .i64 0, .int .i64 0, .int .i64 0, .int .i64 0, .int .i64 0, .int .i64 0] K11.out (by kernel_rfl) rfl (by simp [Value.oneCell', eV]) ?_
            refine hK.out _ _ (Bw.setRow hS H11.out (eV zE)) (fun hS => ?_)
            clear hK K
            refine take1 (i := 16) (some 11) rfl rfl (by kernel_rfl) (by kernel_rfl) (by kernel_rfl) (fun _ _ _ _ h => h) rfl hS ?_
            apply Exists.intro
            apply And.intro
            · intro W9 hW9; have z0 := hW9.cell' q0; have z1 := hW9.cell' q1; have z2 := hW9.cell' q2; have z3 := hW9.cell' q3; have z4 := hW9.cell' q4; have z5 := hW9.cell' q5; have z6 := hW9.cell' q6; have z7 := hW9.cell' q7; have z8 := hW9.cell' q8; have z9 := hW9.cell' q9; have z10 := hW9.cell' q10; have z11 := hW9.cell' q11; have z12 := hW9.cell' q12; have z13 := hW9.cell' q13; have z14 := hW9.cell' q14; have z15 := hW9.cell' q15; have z16 := hW9.cell' q16; have z17 := hW9.cell' q17; go_simp; try with_reducible rfl
            simp only [Act.put, List.setIfInBounds_toArray, List.set_cons_zero, List.set_cons_succ]
            refine wpAnyH_done (by kernel_rfl) ?_ _
            rotate_left
            exact AllReadyH.nil
            exact AllReadyH.nil
            exact AllReadyH.nil
            exact AllReadyH.nil
            all_goals
              go_wp2
              go_meet
              exact ⟨g11, rfl, rfl, Lib.hid hS⟩
          case rest =>
            obtain ⟨g10, rfl, rfl, hb9⟩ := hcut
            replace HB0 := hb9
            clear hb9
            obtain ⟨wv, hwv⟩ : ∃ wv, wv = wc := ⟨_, rfl⟩
            subst hwv
            go_upto_region 23 with fail
            go_cut [12, 13] from 266 (fun s12 s13 wc => ∃ g12, s12 = .pointer (some ⟨g12, 0, none⟩) ∧ s13 = .int .i64 18 ∧ Hid (Bw WW wc))
            case first =>
              refine wp_region_held_drew (S := Bw WW) (by kernel_rfl) (Bw.drew HB0.out) (fun hS => ?_)
              generalize World.drew _ = wd at hS ⊢
              refine take1 (i := 0) (some 129) rfl rfl (by kernel_rfl) (by kernel_rfl) (by kernel_rfl) (fun _ _ _ _ h => h) rfl hS ?_
              apply Exists.intro
              apply And.intro
              · intro W9 hW9; have z0 := hW9.cell' q0; have z1 := hW9.cell' q1; have z2 := hW9.cell' q2; have z3 := hW9.cell' q3; have z4 := hW9.cell' q4; have z5 := hW9.cell' q5; have z6 := hW9.cell' q6; have z7 := hW9.cell' q7; have z8 := hW9.cell' q8; have z9 := hW9.cell' q9; have z10 := hW9.cell' q10; have z11 := hW9.cell' q11; have z12 := hW9.cell' q12; have z13 := hW9.cell' q13; have z14 := hW9.cell' q14; have z15 := hW9.cell' q15; have z16 := hW9.cell' q16; have z17 := hW9.cell' q17; go_simp; try with_reducible rfl
              simp only [Act.put, List.setIfInBounds_toArray, List.set_cons_zero, List.set_cons_succ]
              refine take1 (i := 1) (some 130) rfl rfl (by kernel_rfl) (by kernel_rfl) (by kernel_rfl) (fun _ _ _ _ h => h) rfl hS ?_
              apply Exists.intro
              apply And.intro
              · intro W9 hW9; have z0 := hW9.cell' q0; have z1 := hW9.cell' q1; have z2 := hW9.cell' q2; have z3 := hW9.cell' q3; have z4 := hW9.cell' q4; have z5 := hW9.cell' q5; have z6 := hW9.cell' q6; have z7 := hW9.cell' q7; have z8 := hW9.cell' q8; have z9 := hW9.cell' q9; have z10 := hW9.cell' q10; have z11 := hW9.cell' q11; have z12 := hW9.cell' q12; have z13 := hW9.cell' q13; have z14 := hW9.cell' q14; have z15 := hW9.cell' q15; have z16 := hW9.cell' q16; have z17 := hW9.cell' q17; go_simp; try with_reducible rfl
              simp only [Act.put, List.setIfInBounds_toArray, List.set_cons_zero, List.set_cons_succ]
              refine take1 (i := 2) (some 131) rfl rfl (by kernel_rfl) (by kernel_rfl) (by kernel_rfl) (fun _ _ _ _ h => h) rfl hS ?_
              refine Exists.intro (.agg #[.int .i64 131071, .int .i64 1, .slice (some ⟨b0, o0, none⟩) 206 c0]) ?_
              apply And.intro
              · intro W9 hW9; have z0 := hW9.cell' q0; have z1 := hW9.cell' q1; have z2 := hW9.cell' q2; have z3 := hW9.cell' q3; have z4 := hW9.cell' q4; have z5 := hW9.cell' q5; have z6 := hW9.cell' q6; have z7 := hW9.cell' q7; have z8 := hW9.cell' q8; have z9 := hW9.cell' q9; have z10 := hW9.cell' q10; have z11 := hW9.cell' q11; have z12 := hW9.cell' q12; have z13 := hW9.cell' q13; have z14 := hW9.cell' q14; have z15 := hW9.cell' q15; have z16 := hW9.cell' q16; have z17 := hW9.cell' q17; go_simp; (try go_bits); (try with_reducible rfl); (try trivial)
              simp only [Act.put, List.setIfInBounds_toArray, List.set_cons_zero, List.set_cons_succ]
              refine take1 (i := 3) (some 132) rfl rfl (by kernel_rfl) (by kernel_rfl) (by kernel_rfl) (fun _ _ _ _ h => h) rfl hS ?_
              apply Exists.intro
              apply And.intro
              · intro W9 hW9; have z0 := hW9.cell' q0; have z1 := hW9.cell' q1; have z2 := hW9.cell' q2; have z3 := hW9.cell' q3; have z4 := hW9.cell' q4; have z5 := hW9.cell' q5; have z6 := hW9.cell' q6; have z7 := hW9.cell' q7; have z8 := hW9.cell' q8; have z9 := hW9.cell' q9; have z10 := hW9.cell' q10; have z11 := hW9.cell' q11; have z12 := hW9.cell' q12; have z13 := hW9.cell' q13; have z14 := hW9.cell' q14; have z15 := hW9.cell' q15; have z16 := hW9.cell' q16; have z17 := hW9.cell' q17; go_simp; try with_reducible rfl
              simp only [Act.put, List.setIfInBounds_toArray, List.set_cons_zero, List.set_cons_succ]
              refine take1 (i := 4) (some 133) rfl rfl (by kernel_rfl) (by kernel_rfl) (by kernel_rfl) (fun _ _ _ _ h => h) rfl hS ?_
              apply Exists.intro
              apply And.intro
              · intro W9 hW9; have z0 := hW9.cell' q0; have z1 := hW9.cell' q1; have z2 := hW9.cell' q2; have z3 := hW9.cell' q3; have z4 := hW9.cell' q4; have z5 := hW9.cell' q5; have z6 := hW9.cell' q6; have z7 := hW9.cell' q7; have z8 := hW9.cell' q8; have z9 := hW9.cell' q9; have z10 := hW9.cell' q10; have z11 := hW9.cell' q11; have z12 := hW9.cell' q12; have z13 := hW9.cell' q13; have z14 := hW9.cell' q14; have z15 := hW9.cell' q15; have z16 := hW9.cell' q16; have z17 := hW9.cell' q17; go_simp; try with_reducible rfl
              simp only [Act.put, List.setIfInBounds_toArray, List.set_cons_zero, List.set_cons_succ]
              refine take1 (i := 5) (some 134) rfl rfl (by kernel_rfl) (by kernel_rfl) (by kernel_rfl) (fun _ _ _ _ h => h) rfl hS ?_
              refine Exists.intro (.agg #[.int .i64 131071, .int .i64 1, .slice (some ⟨b0, o0, none⟩) 206 c0]) ?_
              apply And.intro
              · intro W9 hW9; have z0 := hW9.cell' q0; have z1 := hW9.cell' q1; have z2 := hW9.cell' q2; have z3 := hW9.cell' q3; have z4 := hW9.cell' q4; have z5 := hW9.cell' q5; have z6 := hW9.cell' q6; have z7 := hW9.cell' q7; have z8 := hW9.cell' q8; have z9 := hW9.cell' q9; have z10 := hW9.cell' q10; have z11 := hW9.cell' q11; have z12 := hW9.cell' q12; have z13 := hW9.cell' q13; have z14 := hW9.cell' q14; have z15 := hW9.cell' q15; have z16 := hW9.cell' q16; have z17 := hW9.cell' q17; go_simp; (try go_bits); (try with_reducible rfl); (try trivial)
              simp only [Act.put, List.setIfInBounds_toArray, List.set_cons_zero, List.set_cons_succ]
              refine take1 (i := 6) (some 135) rfl rfl (by kernel_rfl) (by kernel_rfl) (by kernel_rfl) (fun _ _ _ _ h => h) rfl hS ?_
              apply Exists.intro
              apply And.intro
              · intro W9 hW9; have z0 := hW9.cell' q0; have z1 := hW9.cell' q1; have z2 := hW9.cell' q2; have z3 := hW9.cell' q3; have z4 := hW9.cell' q4; have z5 := hW9.cell' q5; have z6 := hW9.cell' q6; have z7 := hW9.cell' q7; have z8 := hW9.cell' q8; have z9 := hW9.cell' q9; have z10 := hW9.cell' q10; have z11 := hW9.cell' q11; have z12 := hW9.cell' q12; have z13 := hW9.cell' q13; have z14 := hW9.cell' q14; have z15 := hW9.cell' q15; have z16 := hW9.cell' q16; have z17 := hW9.cell' q17; go_simp; try with_reducible rfl
              simp only [Act.put, List.setIfInBounds_toArray, List.set_cons_zero, List.set_cons_succ]
              refine take1 (i := 7) (some 136) rfl rfl (by kernel_rfl) (by kernel_rfl) (by kernel_rfl) (fun _ _ _ _ h => h) rfl hS ?_
              apply Exists.intro
              apply And.intro
              · intro W9 hW9; have z0 := hW9.cell' q0; have z1 := hW9.cell' q1; have z2 := hW9.cell' q2; have z3 := hW9.cell' q3; have z4 := hW9.cell' q4; have z5 := hW9.cell' q5; have z6 := hW9.cell' q6; have z7 := hW9.cell' q7; have z8 := hW9.cell' q8; have z9 := hW9.cell' q9; have z10 := hW9.cell' q10; have z11 := hW9.cell' q11; have z12 := hW9.cell' q12; have z13 := hW9.cell' q13; have z14 := hW9.cell' q14; have z15 := hW9.cell' q15; have z16 := hW9.cell' q16; have z17 := hW9.cell' q17; go_simp; try with_reducible rfl
              simp only [Act.put, List.setIfInBounds_toArray, List.set_cons_zero, List.set_cons_succ]
              refine take1 (i := 8) (some 137) rfl rfl (by kernel_rfl) (by kernel_rfl) (by kernel_rfl) (fun _ _ _ _ h => h) rfl hS ?_
              refine Exists.intro (.agg #[.int .i64 0, .int .i64 2, .slice a1 206 c1]) ?_
              apply And.intro
              · intro W9 hW9; have z0 := hW9.cell' q0; have z1 := hW9.cell' q1; have z2 := hW9.cell' q2; have z3 := hW9.cell' q3; have z4 := hW9.cell' q4; have z5 := hW9.cell' q5; have z6 := hW9.cell' q6; have z7 := hW9.cell' q7; have z8 := hW9.cell' q8; have z9 := hW9.cell' q9; have z10 := hW9.cell' q10; have z11 := hW9.cell' q11; have z12 := hW9.cell' q12; have z13 := hW9.cell' q13; have z14 := hW9.cell' q14; have z15 := hW9.cell' q15; have z16 := hW9.cell' q16; have z17 := hW9.cell' q17; go_simp; (try go_bits); (try with_reducible rfl); (try trivial)
              simp only [Act.put, List.setIfInBounds_toArray, List.set_cons_zero, List.set_cons_succ]
              refine wpAnyH_ready (rs := [9, 14]) (by kernel_rfl) (by simp) ?_
              refine AllReadyH.cons rfl (fun K hK => ?_) ?_
              go_simp
              have hba := Bw.alloc (Bw.refl wd) (.cells #[.int .i64 131071, .int .i64 1, .slice (some ⟨b0, o0, none⟩) 206 c0, .int .i64 131071, .int .i64 1, .slice (some ⟨b0, o0, none⟩) 206 c0, .int .i64 0, .int .i64 2, .slice a1 206 c1] 47)
              have NBK := Lib.hid (Blk.new wd 47 #[.int .i64 131071, .int .i64 1, .slice (some ⟨b0, o0, none⟩) 206 c0, .int .i64 131071, .int .i64 1, .slice (some ⟨b0, o0, none⟩) 206 c0, .int .i64 0, .int .i64 2, .slice a1 206 c1])
              obtain ⟨gb, hgb⟩ : ∃ gb, wd.heap.size = gb := ⟨_, rfl⟩
              rw [hgb] at NBK
              refine hK.out _ _ (hS.trans hba) (fun hS => ?_)
              clear hK K
              clear hba
              try rw [hgb]
              clear hgb
              generalize World.alloc wd _ = w13 at hS NBK ⊢
              refine wpAnyH_ready (rs := [10, 14]) (by kernel_rfl) (by simp) ?_
              refine AllReadyH.cons rfl (fun K hK => ?_) ?_
              go_simp
              go_wp2_with (go_at_call 18; (with_reducible refine Calls.mono (RE2.out _ _ hS NBK.out) ?_); rintro e1 w14 ⟨rfl, hb14⟩)
              refine hK.out _ _ (hS.trans hb14) (fun hS => ?_)
              clear hK K
              clear hb14
              refine take1 (i := 11) (some 128) rfl rfl (by kernel_rfl) (by kernel_rfl) (by kernel_rfl) (fun _ _ _ _ h => h) rfl hS ?_
              apply Exists.intro
              apply And.intro
              · intro W9 hW9; have z0 := hW9.cell' q0; have z1 := hW9.cell' q1; have z2 := hW9.cell' q2; have z3 := hW9.cell' q3; have z4 := hW9.cell' q4; have z5 := hW9.cell' q5; have z6 := hW9.cell' q6; have z7 := hW9.cell' q7; have z8 := hW9.cell' q8; have z9 := hW9.cell' q9; have z10 := hW9.cell' q10; have z11 := hW9.cell' q11; have z12 := hW9.cell' q12; have z13 := hW9.cell' q13; have z14 := hW9.cell' q14; have z15 := hW9.cell' q15; have z16 := hW9.cell' q16; have z17 := hW9.cell' q17; go_simp; try with_reducible rfl
              simp only [Act.put, List.setIfInBounds_toArray, List.set_cons_zero, List.set_cons_succ]
              refine take1 (i := 12) (some 140) rfl rfl (by kernel_rfl) (by kernel_rfl) (by kernel_rfl) (fun _ _ _ _ h => h) rfl hS ?_
              apply Exists.intro
              apply And.intro
              · intro W9 hW9; have z0 := hW9.cell' q0; have z1 := hW9.cell' q1; have z2 := hW9.cell' q2; have z3 := hW9.cell' q3; have z4 := hW9.cell' q4; have z5 := hW9.cell' q5; have z6 := hW9.cell' q6; have z7 := hW9.cell' q7; have z8 := hW9.cell' q8; have z9 := hW9.cell' q9; have z10 := hW9.cell' q10; have z11 := hW9.cell' q11; have z12 := hW9.cell' q12; have z13 := hW9.cell' q13; have z14 := hW9.cell' q14; have z15 := hW9.cell' q15; have z16 := hW9.cell' q16; have z17 := hW9.cell' q17; go_simp; try with_reducible rfl
              simp only [Act.put, List.setIfInBounds_toArray, List.set_cons_zero, List.set_cons_succ]
              refine take1 (i := 13) (some 141) rfl rfl (by kernel_rfl) (by kernel_rfl) (by kernel_rfl) (fun _ _ _ _ h => h) rfl hS ?_
              apply Exists.intro
              apply And.intro
              · intro W9 hW9; have z0 := hW9.cell' q0; have z1 := hW9.cell' q1; have z2 := hW9.cell' q2; have z3 := hW9.cell' q3; have z4 := hW9.cell' q4; have z5 := hW9.cell' q5; have z6 := hW9.cell' q6; have z7 := hW9.cell' q7; have z8 := hW9.cell' q8; have z9 := hW9.cell' q9; have z10 := hW9.cell' q10; have z11 := hW9.cell' q11; have z12 := hW9.cell' q12; have z13 := hW9.cell' q13; have z14 := hW9.cell' q14; have z15 := hW9.cell' q15; have z16 := hW9.cell' q16; have z17 := hW9.cell' q17; go_simp; try with_reducible rfl
              simp only [Act.put, List.setIfInBounds_toArray, List.set_cons_zero, List.set_cons_succ]
              refine wpAnyH_ready (rs := [14]) (by kernel_rfl) (by simp) ?_
              refine AllReadyH.cons rfl (fun K hK => ?_) ?_
              rw [if_pos (by rfl)]
              refine wp_alloc_new 25 rfl (some 12) rfl _ (zeroEp _) ?_
              intro g11 w5 hg9 hN hbw
              simp only [Act.put, List.setIfInBounds_toArray, List.set_cons_zero, List.set_cons_succ]
              have K11 := Lib.hid hN
              have H11 := Lib.hid (Nat.le_trans hS.size hg9)
              clear hN
              refine hK.out _ _ (hS.trans hbw) (fun hS => ?_)
              clear hK K
              clear hbw hg9
              refine wpAnyH_ready (rs := [15]) (by kernel_rfl) (by simp) ?_
              refine AllReadyH.cons rfl (fun K hK => ?_) ?_
              rw [if_pos (by rfl)]
              refine wp_store_row0 25 _ _ rfl rfl g11 (eV zE) rfl rfl 25 #[.int .i64 0, .int .i64 0, .int .i64 0, .int .i64 0, .int .i64 0, .int .i64 0, .int .i64 0, .int .i64 0, .int .i64 0, .int .i64 0, .int .i64 0, .int .i64 0, .int .i64 0, .int .i64 0, .int .i64 0, .int .i64 0, .int .i64 0, .int .i64 0, .int .i64 0] K11.out (by kernel_rfl) rfl (by simp [Value.oneCell', eV]) ?_
              refine hK.out _ _ (Bw.setRow hS H11.out (eV zE)) (fun hS => ?_)
              clear hK K
              refine take1 (i := 16) (some 13) rfl rfl (by kernel_rfl) (by kernel_rfl) (by kernel_rfl) (fun _ _ _ _ h => h) rfl hS ?_
              apply Exists.intro
              apply And.intro
              · intro W9 hW9; have z0 := hW9.cell' q0; have z1 := hW9.cell' q1; have z2 := hW9.cell' q2; have z3 := hW9.cell' q3; have z4 := hW9.cell' q4; have z5 := hW9.cell' q5; have z6 := hW9.cell' q6; have z7 := hW9.cell' q7; have z8 := hW9.cell' q8; have z9 := hW9.cell' q9; have z10 := hW9.cell' q10; have z11 := hW9.cell' q11; have z12 := hW9.cell' q12; have z13 := hW9.cell' q13; have z14 := hW9.cell' q14; have z15 := hW9.cell' q15; have z16 := hW9.cell' q16; have z17 := hW9.cell' q17; go_simp; try with_reducible rfl
              simp only [Act.put, List.setIfInBounds_toArray, List.set_cons_zero, List.set_cons_succ]
              refine wpAnyH_done (by kernel_rfl) ?_ _
              rotate_left
              exact AllReadyH.nil
              exact AllReadyH.nil
              refine AllReadyH.cons rfl (fun K hK => ?_) ?_
              rw [if_pos (by rfl)]
              refine wp_alloc_new 25 rfl (some 12) rfl _ (zeroEp _) ?_
              intro g11 w5 hg9 hN hbw
              simp only [Act.put, List.setIfInBounds_toArray, List.set_cons_zero, List.set_cons_succ]
              have K11 := Lib.hid hN
              have H11 := Lib.hid (Nat.le_trans hS.size hg9)
              replace NBK := Lib.hid (NBK.out.bw hbw)
              clear hN
              refine hK.out _ _ (hS.trans hbw) (fun hS => ?_)
              clear hK K
              clear hbw hg9
              refine wpAnyH_ready (rs := [10]) (by kernel_rfl) (by simp) ?_
              refine AllReadyH.cons rfl (fun K hK => ?_) ?_
              go_simp
              go_wp2_with (go_at_call 18; (with_reducible refine Calls.mono (RE2.out _ _ hS NBK.out) ?_); rintro e1 w14 ⟨rfl, hb14⟩)
              replace K11 := Lib.hid (K11.out.bw hb14)
              refine hK.out _ _ (hS.trans hb14) (fun hS => ?_)
              clear hK K
              clear hb14
              refine take1 (i := 11) (some 128) rfl rfl (by kernel_rfl) (by kernel_rfl) (by kernel_rfl) (fun _ _ _ _ h => h) rfl hS ?_
              apply Exists.intro
              apply And.intro
              · intro W9 hW9; have z0 := hW9.cell' q0; have z1 := hW9.cell' q1; have z2 := hW9.cell' q2; have z3 := hW9.cell' q3; have z4 := hW9.cell' q4; have z5 := hW9.cell' q5; have z6 := hW9.cell' q6; have z7 := hW9.cell' q7; have z8 := hW9.cell' q8; have z9 := hW9.cell' q9; have z10 := hW9.cell' q10; have z11 := hW9.cell' q11; have z12 := hW9.cell' q12; have z13 := hW9.cell' q13; have z14 := hW9.cell' q14; have z15 := hW9.cell' q15; have z16 := hW9.cell' q16; have z17 := hW9.cell' q17; go_simp; try with_reducible rfl
              simp only [Act.put, List.setIfInBounds_toArray, List.set_cons_zero, List.set_cons_succ]
              refine take1 (i := 12) (some 140) rfl rfl (by kernel_rfl) (by kernel_rfl) (by kernel_rfl) (fun _ _ _ _ h => h) rfl hS ?_
              apply Exists.intro
              apply And.intro
              · intro W9 hW9; have z0 := hW9.cell' q0; have z1 := hW9.cell' q1; have z2 := hW9.cell' q2; have z3 := hW9.cell' q3; have z4 := hW9.cell' q4; have z5 := hW9.cell' q5; have z6 := hW9.cell' q6; have z7 := hW9.cell' q7; have z8 := hW9.cell' q8; have z9 := hW9.cell' q9; have z10 := hW9.cell' q10; have z11 := hW9.cell' q11; have z12 := hW9.cell' q12; have z13 := hW9.cell' q13; have z14 := hW9.cell' q14; have z15 := hW9.cell' q15; have z16 := hW9.cell' q16; have z17 := hW9.cell' q17; go_simp; try with_reducible rfl
              simp only [Act.put, List.setIfInBounds_toArray, List.set_cons_zero, List.set_cons_succ]
              refine take1 (i := 13) (some 141) rfl rfl (by kernel_rfl) (by kernel_rfl) (by kernel_rfl) (fun _ _ _ _ h => h) rfl hS ?_
              apply Exists.intro
              apply And.intro
              · intro W9 hW9; have z0 := hW9.cell' q0; have z1 := hW9.cell' q1; have z2 := hW9.cell' q2; have z3 := hW9.cell' q3; have z4 := hW9.cell' q4; have z5 := hW9.cell' q5; have z6 := hW9.cell' q6; have z7 := hW9.cell' q7; have z8 := hW9.cell' q8; have z9 := hW9.cell' q9; have z10 := hW9.cell' q10; have z11 := hW9.cell' q11; have z12 := hW9.cell' q12; have z13 := hW9.cell' q13; have z14 := hW9.cell' q14; have z15 := hW9.cell' q15; have z16 := hW9.cell' q16; have z17 := hW9.cell' q17; go_simp; try with_reducible rfl
              simp only [Act.put, List.setIfInBounds_toArray, List.set_cons_zero, List.set_cons_succ]
              refine wpAnyH_ready (rs := [15]) (by kernel_rfl) (by simp) ?_
              refine AllReadyH.cons rfl (fun K hK => ?_) ?_
              rw [if_pos (by rfl)]
              refine wp_store_row0 25 _ _ rfl rfl g11 (eV zE) rfl rfl 25 #[.int .i64 0, .int .i64 0, .int .i64 0, .int .i64 0, .int .i64 0, .int .i64 0, .int .i64 0, .int .i64 0, .int .i64 0, .int .i64 0, .int .i64 0, .int .i64 0, .int .i64 0, .int .i64 0, .int .i64 0, .int .i64 0, .int .i64 0, .int .i64 0, .int .i64 0] K11.out (by kernel_rfl) rfl (by simp [Value.oneCell', eV]) ?_
              refine hK.out _ _ (Bw.setRow hS H11.out (eV zE)) (fun hS => ?_)
              clear hK K
              refine take1 (i := 16) (some 13) rfl rfl (by kernel_rfl) (by kernel_rfl) (by kernel_rfl) (fun _ _ _ _ h => h) rfl hS ?_
              apply Exists.intro
              apply And.intro
              · intro W9 hW9; have z0 := hW9.cell' q0; have z1 := hW9.cell' q1; have z2 := hW9.cell' q2; have z3 := hW9.cell' q3; have z4 := hW9.cell' q4; have z5 := hW9.cell' q5; have z6 := hW9.cell' q6; have z7 := hW9.cell' q7; have z8 := hW9.cell' q8; have z9 := hW9.cell' q9; have z10 := hW9.cell' q10; have z11 := hW9.cell' q11; have z12 := hW9.cell' q12; have z13 := hW9.cell' q13; have z14 := hW9.cell' q14; have z15 := hW9.cell' q15; have z16 := hW9.cell' q16; have z17 := hW9.cell' q17; go_simp; try with_reducible rfl
              simp only [Act.put, List.setIfInBounds_toArray, List.set_cons_zero, List.set_cons_succ]
              refine wpAnyH_done (by kernel_rfl) ?_ _
              rotate_left
              exact AllReadyH.nil
              exact AllReadyH.nil
              exact AllReadyH.nil
              refine AllReadyH.cons rfl (fun K hK => ?_) ?_
              rw [if_pos (by rfl)]
              refine wp_alloc_new 25 rfl (some 12) rfl _ (zeroEp _) ?_
              intro g11 w5 hg9 hN hbw
              simp only [Act.put, List.setIfInBounds_toArray, List.set_cons_zero, List.set_cons_succ]
              have K11 := Lib.hid hN
              have H11 := Lib.hid (Nat.le_trans hS.size hg9)
              clear hN
              refine hK.out _ _ (hS.trans hbw) (fun hS => ?_)
              clear hK K
              clear hbw hg9
              refine wpAnyH_ready (rs := [9]) (by kernel_rfl) (by simp) ?_
              refine AllReadyH.cons rfl (fun K hK => ?_) ?_
              go_simp
              have hba := Bw.alloc (Bw.refl w5) (.cells #[.int .i64 131071, .int .i64 1, .slice (some ⟨b0, o0, none⟩) 206 c0, .int .i64 131071, .int .i64 1, .slice (some ⟨b0, o0, none⟩) 206 c0, .int .i64 0, .int .i64 2, .slice a1 206 c1] 47)
              have NBK := Lib.hid (Blk.new w5 47 #[.int .i64 131071, .int .i64 1, .slice (some ⟨b0, o0, none⟩) 206 c0, .int .i64 131071, .int .i64 1, .slice (some ⟨b0, o0, none⟩) 206 c0, .int .i64 0, .int .i64 2, .slice a1 206 c1])
              obtain ⟨gb, hgb⟩ : ∃ gb, w5.heap.size = gb := ⟨_, rfl⟩
              rw [hgb] at NBK
              replace K11 := Lib.hid (K11.out.bw hba)
              refine hK.out _ _ (hS.trans hba) (fun hS => ?_)
              clear hK K
              clear hba
              try rw [hgb]
              clear hgb
              generalize World.alloc w5 _ = w13 at hS NBK K11 ⊢
              refine wpAnyH_ready (rs := [10]) (by kernel_rfl) (by simp) ?_
              refine AllReadyH.cons rfl (fun K hK => ?_) ?_
              go_simp
              go_wp2_with (go_at_call 18; (with_reducible refine Calls.mono (RE2.out _ _ hS NBK.out) ?_); rintro e1 w14 ⟨rfl, hb14⟩)
              replace K11 := Lib.hid (K11.out.bw hb14)
              refine hK.out _ _ (hS.trans hb14) (fun hS => ?_)
              clear hK K
              clear hb14
              refine take1 (i := 11) (some 128) rfl rfl (by kernel_rfl) (by kernel_rfl) (by kernel_rfl) (fun _ _ _ _ h => h) rfl hS ?_
              apply Exists.intro
              apply And.intro
              · intro W9 hW9; have z0 := hW9.cell' q0; have z1 := hW9.cell' q1; have z2 := hW9.cell' q2; have z3 := hW9.cell' q3; have z4 := hW9.cell' q4; have z5 := hW9.cell' q5; have z6 := hW9.cell' q6; have z7 := hW9.cell' q7; have z8 := hW9.cell' q8; have z9 := hW9.cell' q9; have z10 := hW9.cell' q10; have z11 := hW9.cell' q11; have z12 := hW9.cell' q12; have z13 := hW9.cell' q13; have z14 := hW9.cell' q14; have z15 := hW9.cell' q15; have z16 := hW9.cell' q16; have z17 := hW9.cell' q17; go_simp; try with_reducible rfl
              simp only [Act.put, List.setIfInBounds_toArray, List.set_cons_zero, List.set_cons_succ]
              refine take1 (i := 12) (some 140) rfl rfl (by kernel_rfl) (by kernel_rfl) (by kernel_rfl) (fun _ _ _ _ h => h) rfl hS ?_
              apply Exists.intro
              apply And.intro
              · intro W9 hW9; have z0 := hW9.cell' q0; have z1 := hW9.cell' q1; have z2 := hW9.cell' q2; have z3 := hW9.cell' q3; have z4 := hW9.cell' q4; have z5 := hW9.cell' q5; have z6 := hW9.cell' q6; have z7 := hW9.cell' q7; have z8 := hW9.cell' q8; have z9 := hW9.cell' q9; have z10 := hW9.cell' q10; have z11 := hW9.cell' q11; have z12 := hW9.cell' q12; have z13 := hW9.cell' q13; have z14 := hW9.cell' q14; have z15 := hW9.cell' q15; have z16 := hW9.cell' q16; have z17 := hW9.cell' q17; go_simp; try with_reducible rfl
              simp only [Act.put, List.setIfInBounds_toArray, List.set_cons_zero, List.set_cons_succ]
              refine take1 (i := 13) (some 141) rfl rfl (by kernel_rfl) (by kernel_rfl) (by kernel_rfl) (fun _ _ _ _ h => h) rfl hS ?_
              apply Exists.intro
              apply And.intro
              · intro W9 hW9; have z0 := hW9.cell' q0; have z1 := hW9.cell' q1; have z2 := hW9.cell' q2; have z3 := hW9.cell' q3; have z4 := hW9.cell' q4; have z5 := hW9.cell' q5; have z6 := hW9.cell' q6; have z7 := hW9.cell' q7; have z8 := hW9.cell' q8; have z9 := hW9.cell' q9; have z10 := hW9.cell' q10; have z11 := hW9.cell' q11; have z12 := hW9.cell' q12; have z13 := hW9.cell' q13; have z14 := hW9.cell' q14; have z15 := hW9.cell' q15; have z16 := hW9.cell' q16; have z17 := hW9.cell' q17; go_simp; try with_reducible rfl
              simp only [Act.put, List.setIfInBounds_toArray, List.set_cons_zero, List.set_cons_succ]
              refine wpAnyH_ready (rs := [15]) (by kernel_rfl) (by simp) ?_
              refine AllReadyH.cons rfl (fun K hK => ?_) ?_
              rw [if_pos (by rfl)]
              refine wp_store_row0 25 _ _ rfl rfl g11 (eV zE) rfl rfl 25 #[.int .i64 0, .int .i64 0, .int .i64 0, .int .i64 0, .int .i64 0, .int .i64 0, .int .i64 0, .int .i64 0, .int .i64 0, .int .i64 0, .int .i64 0, .int .i64 0, .int .i64 0, .int .i64 0, .int .i64 0, .int .i64 0, .int .i64 0, .int .i64 0, .int .i64 0] K11.out (by kernel_rfl) rfl (by simp [Value.oneCell', eV]) ?_
              refine hK.out _ _ (Bw.setRow hS H11.out (eV zE)) (fun hS => ?_)
              clear hK K
              refine take1 (i := 16) (some 13) rfl rfl (by kernel_rfl) (by kernel_rfl) (by kernel_rfl) (fun _ _ _ _ h => h) rfl hS ?_
              apply Exists.intro
              apply And.intro
              · intro W9 hW9; have z0 := hW9.cell' q0; have z1 := hW9.cell' q1; have z2 := hW9.cell' q2; have z3 := hW9.cell' q3; have z4 := hW9.cell' q4; have z5 := hW9.cell' q5; have z6 := hW9.cell' q6; have z7 := hW9.cell' q7; have z8 := hW9.cell' q8; have z9 := hW9.cell' q9; have z10 := hW9.cell' q10; have z11 := hW9.cell' q11; have z12 := hW9.cell' q12; have z13 := hW9.cell' q13; have z14 := hW9.cell' q14; have z15 := hW9.cell' q15; have z16 := hW9.cell' q16; have z17 := hW9.cell' q17; go_simp; try with_reducible rfl
              simp only [Act.put, List.setIfInBounds_toArray, List.set_cons_zero, List.set_cons_succ]
              refine wpAnyH_done (by kernel_rfl) ?_ _
              rotate_left
              exact AllReadyH.nil
              exact AllReadyH.nil
              exact AllReadyH.nil
              exact AllReadyH.nil
              all_goals
                go_wp2
                go_meet
                exact ⟨g11, rfl, rfl, Lib.hid hS⟩
            case rest =>
              obtain ⟨g12, rfl, rfl, hb9⟩ := hcut
              replace HB0 := hb9
              clear hb9
              obtain ⟨wz, hwz⟩ : ∃ wz, wz = wc := ⟨_, rfl⟩
              subst hwz
              have hclz : (2 : Int) ≤ cl := by omega
              have KNW := Lib.hid (fun (W : World) => Blk.new W 25 #[.int .i64 0, .int .i64 0, .int .i64 0, .int .i64 0, .int .i64 0, .int .i64 0, .int .i64 0, .int .i64 0, .int .i64 0, .int .i64 0, .int .i64 0, .int .i64 0, .int .i64 0, .int .i64 0, .int .i64 0, .int .i64 0, .int .i64 0, .int .i64 0, .int .i64 0])
              go_upto_region 25 with (first | (go_at_call 18; (with_reducible refine Calls.mono (RE3.out _ HB0.out) ?_); rintro e1 w9 ⟨rfl, hb9⟩; replace HB0 := Lib.hid (HB0.out.trans hb9); clear hb9) | ((with_reducible refine at_store 25 (.tmp 14) (.tmp 146) ?_); refine wpList_store_row rfl 25 (.tmp 14) (.tmp 146) rfl w9.heap.size (eV zE) rfl rfl 25 _ (KNW.out w9) (by kernel_rfl) rfl (by simp [Value.oneCell', eV]) ?_))
              have hb9 := Bw.setRow (Bw.alloc (Bw.refl w9) (.cells #[.int .i64 0, .int .i64 0, .int .i64 0, .int .i64 0, .int .i64 0, .int .i64 0, .int .i64 0, .int .i64 0, .int .i64 0, .int .i64 0, .int .i64 0, .int .i64 0, .int .i64 0, .int .i64 0, .int .i64 0, .int .i64 0, .int .i64 0, .int .i64 0, .int .i64 0] 25)) (Nat.le_refl _) (eV zE)
              obtain ⟨W5, hW5⟩ : ∃ W5, (w9.alloc (.cells #[.int .i64 0, .int .i64 0, .int .i64 0, .int .i64 0, .int .i64 0, .int .i64 0, .int .i64 0, .int .i64 0, .int .i64 0, .int .i64 0, .int .i64 0, .int .i64 0, .int .i64 0, .int .i64 0, .int .i64 0, .int .i64 0, .int .i64 0, .int .i64 0, .int .i64 0] 25)).setRow w9.heap.size (eV zE) = W5 := ⟨_, rfl⟩
              rw [hW5] at hb9 ⊢
              clear hW5
              replace HB0 := Lib.hid (HB0.out.trans hb9)
              clear hb9
              (try simp only [Act.put])
              have cl5 := HB0.out.cell' cl2
              go_upto_region 27 with fail
              clear cl5
              obtain ⟨gp, hgp⟩ : ∃ gp, W5.heap.size = gp := ⟨_, rfl⟩
              have KN := Lib.hid (Blk.new W5 43 #[.bool false, .bool false, .bool false, .int .i64 0, .int .i64 0, .slice none 0 0, .slice none 0 0, .slice none 0 0])
              have hb9 := Bw.alloc (Bw.refl W5) (.cells #[.bool false, .bool false, .bool false, .int .i64 0, .int .i64 0, .slice none 0 0, .slice none 0 0, .slice none 0 0] 43)
              rw [hgp] at KN
              have HGP := Lib.hid (show WW.heap.size ≤ gp by have := HB0.out.size; omega)
              go_upto_region 28 with fail
              obtain ⟨W6, hW6⟩ : ∃ W6, W5.alloc (.cells #[.bool false, .bool false, .bool false, .int .i64 0, .int .i64 0, .slice none 0 0, .slice none 0 0, .slice none 0 0] 43) = W6 := ⟨_, rfl⟩
              rw [hW6] at KN hb9 ⊢
              clear hW6 hgp
              replace HB0 := Lib.hid (HB0.out.trans hb9)
              clear hb9
              refine wp_region_held_drew (S := Bw WW) (by kernel_rfl) (Bw.drew HB0.out) (fun hS => ?_)
              replace KN := Lib.hid (KN.out.bw (Bw.drew (Bw.refl _)))
              generalize World.drew _ = wd at hS KN ⊢
              refine take1 (i := 0) (some 170) rfl rfl (by kernel_rfl) (by kernel_rfl) (by kernel_rfl) (fun _ _ _ _ h => h) rfl hS ?_
              apply Exists.intro
              apply And.intro
              · intro W9 hW9; have z0 := hW9.cell' q0; have z1 := hW9.cell' q1; have z2 := hW9.cell' q2; have z3 := hW9.cell' q3; have z4 := hW9.cell' q4; have z5 := hW9.cell' q5; have z6 := hW9.cell' q6; have z7 := hW9.cell' q7; have z8 := hW9.cell' q8; have z9 := hW9.cell' q9; have z10 := hW9.cell' q10; have z11 := hW9.cell' q11; have z12 := hW9.cell' q12; have z13 := hW9.cell' q13; have z14 := hW9.cell' q14; have z15 := hW9.cell' q15; have z16 := hW9.cell' q16; have z17 := hW9.cell' q17; go_simp; try with_reducible rfl
              simp only [Act.put, List.setIfInBounds_toArray, List.set_cons_zero, List.set_cons_succ]
              refine take1 (i := 1) (some 171) rfl rfl (by kernel_rfl) (by kernel_rfl) (by kernel_rfl) (fun _ _ _ _ h => h) rfl hS ?_
              apply Exists.intro
              apply And.intro
              · intro W9 hW9; have z0 := hW9.cell' q0; have z1 := hW9.cell' q1; have z2 := hW9.cell' q2; have z3 := hW9.cell' q3; have z4 := hW9.cell' q4; have z5 := hW9.cell' q5; have z6 := hW9.cell' q6; have z7 := hW9.cell' q7; have z8 := hW9.cell' q8; have z9 := hW9.cell' q9; have z10 := hW9.cell' q10; have z11 := hW9.cell' q11; have z12 := hW9.cell' q12; have z13 := hW9.cell' q13; have z14 := hW9.cell' q14; have z15 := hW9.cell' q15; have z16 := hW9.cell' q16; have z17 := hW9.cell' q17; go_simp; try with_reducible rfl
              simp only [Act.put, List.setIfInBounds_toArray, List.set_cons_zero, List.set_cons_succ]
              refine take1 (i := 2) (some 172) rfl rfl (by kernel_rfl) (by kernel_rfl) (by kernel_rfl) (fun _ _ _ _ h => h) rfl hS ?_
              refine Exists.intro (.agg #[.int .i64 131071, .int .i64 1, .slice (some ⟨b0, o0, none⟩) 206 c0]) ?_
              apply And.intro
              · intro W9 hW9; have z0 := hW9.cell' q0; have z1 := hW9.cell' q1; have z2 := hW9.cell' q2; have z3 := hW9.cell' q3; have z4 := hW9.cell' q4; have z5 := hW9.cell' q5; have z6 := hW9.cell' q6; have z7 := hW9.cell' q7; have z8 := hW9.cell' q8; have z9 := hW9.cell' q9; have z10 := hW9.cell' q10; have z11 := hW9.cell' q11; have z12 := hW9.cell' q12; have z13 := hW9.cell' q13; have z14 := hW9.cell' q14; have z15 := hW9.cell' q15; have z16 := hW9.cell' q16; have z17 := hW9.cell' q17; go_simp; (try go_bits); (try with_reducible rfl); (try trivial)
              simp only [Act.put, List.setIfInBounds_toArray, List.set_cons_zero, List.set_cons_succ]
              refine take1 (i := 3) (some 173) rfl rfl (by kernel_rfl) (by kernel_rfl) (by kernel_rfl) (fun _ _ _ _ h => h) rfl hS ?_
              apply Exists.intro
              apply And.intro
              · intro W9 hW9; have z0 := hW9.cell' q0; have z1 := hW9.cell' q1; have z2 := hW9.cell' q2; have z3 := hW9.cell' q3; have z4 := hW9.cell' q4; have z5 := hW9.cell' q5; have z6 := hW9.cell' q6; have z7 := hW9.cell' q7; have z8 := hW9.cell' q8; have z9 := hW9.cell' q9; have z10 := hW9.cell' q10; have z11 := hW9.cell' q11; have z12 := hW9.cell' q12; have z13 := hW9.cell' q13; have z14 := hW9.cell' q14; have z15 := hW9.cell' q15; have z16 := hW9.cell' q16; have z17 := hW9.cell' q17; go_simp; try with_reducible rfl
              simp only [Act.put, List.setIfInBounds_toArray, List.set_cons_zero, List.set_cons_succ]
              refine take1 (i := 4) (some 174) rfl rfl (by kernel_rfl) (by kernel_rfl) (by kernel_rfl) (fun _ _ _ _ h => h) rfl hS ?_
              apply Exists.intro
              apply And.intro
              · intro W9 hW9; have z0 := hW9.cell' q0; have z1 := hW9.cell' q1; have z2 := hW9.cell' q2; have z3 := hW9.cell' q3; have z4 := hW9.cell' q4; have z5 := hW9.cell' q5; have z6 := hW9.cell' q6; have z7 := hW9.cell' q7; have z8 := hW9.cell' q8; have z9 := hW9.cell' q9; have z10 := hW9.cell' q10; have z11 := hW9.cell' q11; have z12 := hW9.cell' q12; have z13 := hW9.cell' q13; have z14 := hW9.cell' q14; have z15 := hW9.cell' q15; have z16 := hW9.cell' q16; have z17 := hW9.cell' q17; go_simp; try with_reducible rfl
              simp only [Act.put, List.setIfInBounds_toArray, List.set_cons_zero, List.set_cons_succ]
              refine take1 (i := 5) (some 175) rfl rfl (by kernel_rfl) (by kernel_rfl) (by kernel_rfl) (fun _ _ _ _ h => h) rfl hS ?_
              refine Exists.intro (.agg #[.int .i64 0, .int .i64 2, .slice a1 206 c1]) ?_
              apply And.intro
              · intro W9 hW9; have z0 := hW9.cell' q0; have z1 := hW9.cell' q1; have z2 := hW9.cell' q2; have z3 := hW9.cell' q3; have z4 := hW9.cell' q4; have z5 := hW9.cell' q5; have z6 := hW9.cell' q6; have z7 := hW9.cell' q7; have z8 := hW9.cell' q8; have z9 := hW9.cell' q9; have z10 := hW9.cell' q10; have z11 := hW9.cell' q11; have z12 := hW9.cell' q12; have z13 := hW9.cell' q13; have z14 := hW9.cell' q14; have z15 := hW9.cell' q15; have z16 := hW9.cell' q16; have z17 := hW9.cell' q17; go_simp; (try go_bits); (try with_reducible rfl); (try trivial)
              simp only [Act.put, List.setIfInBounds_toArray, List.set_cons_zero, List.set_cons_succ]
              refine take1 (i := 6) (some 176) rfl rfl (by kernel_rfl) (by kernel_rfl) (by kernel_rfl) (fun _ _ _ _ h => h) rfl hS ?_
              apply Exists.intro
              apply And.intro
              · intro W9 hW9; have z0 := hW9.cell' q0; have z1 := hW9.cell' q1; have z2 := hW9.cell' q2; have z3 := hW9.cell' q3; have z4 := hW9.cell' q4; have z5 := hW9.cell' q5; have z6 := hW9.cell' q6; have z7 := hW9.cell' q7; have z8 := hW9.cell' q8; have z9 := hW9.cell' q9; have z10 := hW9.cell' q10; have z11 := hW9.cell' q11; have z12 := hW9.cell' q12; have z13 := hW9.cell' q13; have z14 := hW9.cell' q14; have z15 := hW9.cell' q15; have z16 := hW9.cell' q16; have z17 := hW9.cell' q17; go_simp; try with_reducible rfl
              simp only [Act.put, List.setIfInBounds_toArray, List.set_cons_zero, List.set_cons_succ]
              refine take1 (i := 7) (some 177) rfl rfl (by kernel_rfl) (by kernel_rfl) (by kernel_rfl) (fun _ _ _ _ h => h) rfl hS ?_
              apply Exists.intro
              apply And.intro
              · intro W9 hW9; have z0 := hW9.cell' q0; have z1 := hW9.cell' q1; have z2 := hW9.cell' q2; have z3 := hW9.cell' q3; have z4 := hW9.cell' q4; have z5 := hW9.cell' q5; have z6 := hW9.cell' q6; have z7 := hW9.cell' q7; have z8 := hW9.cell' q8; have z9 := hW9.cell' q9; have z10 := hW9.cell' q10; have z11 := hW9.cell' q11; have z12 := hW9.cell' q12; have z13 := hW9.cell' q13; have z14 := hW9.cell' q14; have z15 := hW9.cell' q15; have z16 := hW9.cell' q16; have z17 := hW9.cell' q17; go_simp; try with_reducible rfl
              simp only [Act.put, List.setIfInBounds_toArray, List.set_cons_zero, List.set_cons_succ]
              refine take1 (i := 8) (some 178) rfl rfl (by kernel_rfl) (by kernel_rfl) (by kernel_rfl) (fun _ _ _ _ h => h) rfl hS ?_
              refine Exists.intro (.agg #[.int .i64 7, .int .i64 3, .slice x2 206 y2]) ?_
              apply And.intro
              · intro W9 hW9; have z0 := hW9.cell' q0; have z1 := hW9.cell' q1; have z2 := hW9.cell' q2; have z3 := hW9.cell' q3; have z4 := hW9.cell' q4; have z5 := hW9.cell' q5; have z6 := hW9.cell' q6; have z7 := hW9.cell' q7; have z8 := hW9.cell' q8; have z9 := hW9.cell' q9; have z10 := hW9.cell' q10; have z11 := hW9.cell' q11; have z12 := hW9.cell' q12; have z13 := hW9.cell' q13; have z14 := hW9.cell' q14; have z15 := hW9.cell' q15; have z16 := hW9.cell' q16; have z17 := hW9.cell' q17; go_simp; (try go_bits); (try with_reducible rfl); (try trivial)
              simp only [Act.put, List.setIfInBounds_toArray, List.set_cons_zero, List.set_cons_succ]
              refine take1 (i := 9) (some 179) rfl rfl (by kernel_rfl) (by kernel_rfl) (by kernel_rfl) (fun _ _ _ _ h => h) rfl hS ?_
              apply Exists.intro
              apply And.intro
              · intro W9 hW9; have z0 := hW9.cell' q0; have z1 := hW9.cell' q1; have z2 := hW9.cell' q2; have z3 := hW9.cell' q3; have z4 := hW9.cell' q4; have z5 := hW9.cell' q5; have z6 := hW9.cell' q6; have z7 := hW9.cell' q7; have z8 := hW9.cell' q8; have z9 := hW9.cell' q9; have z10 := hW9.cell' q10; have z11 := hW9.cell' q11; have z12 := hW9.cell' q12; have z13 := hW9.cell' q13; have z14 := hW9.cell' q14; have z15 := hW9.cell' q15; have z16 := hW9.cell' q16; have z17 := hW9.cell' q17; go_simp; try with_reducible rfl
              simp only [Act.put, List.setIfInBounds_toArray, List.set_cons_zero, List.set_cons_succ]
              refine take1 (i := 10) (some 180) rfl rfl (by kernel_rfl) (by kernel_rfl) (by kernel_rfl) (fun _ _ _ _ h => h) rfl hS ?_
              apply Exists.intro
              apply And.intro
              · intro W9 hW9; have z0 := hW9.cell' q0; have z1 := hW9.cell' q1; have z2 := hW9.cell' q2; have z3 := hW9.cell' q3; have z4 := hW9.cell' q4; have z5 := hW9.cell' q5; have z6 := hW9.cell' q6; have z7 := hW9.cell' q7; have z8 := hW9.cell' q8; have z9 := hW9.cell' q9; have z10 := hW9.cell' q10; have z11 := hW9.cell' q11; have z12 := hW9.cell' q12; have z13 := hW9.cell' q13; have z14 := hW9.cell' q14; have z15 := hW9.cell' q15; have z16 := hW9.cell' q16; have z17 := hW9.cell' q17; go_simp; try with_reducible rfl
              simp only [Act.put, List.setIfInBounds_toArray, List.set_cons_zero, List.set_cons_succ]
              refine take1 (i := 11) (some 181) rfl rfl (by kernel_rfl) (by kernel_rfl) (by kernel_rfl) (fun _ _ _ _ h => h) rfl hS ?_
              refine Exists.intro (.agg #[.int .i64 131071, .int .i64 1, .slice (some ⟨b0, o0, none⟩) 206 c0]) ?_
              apply And.intro
              · intro W9 hW9; have z0 := hW9.cell' q0; have z1 := hW9.cell' q1; have z2 := hW9.cell' q2; have z3 := hW9.cell' q3; have z4 := hW9.cell' q4; have z5 := hW9.cell' q5; have z6 := hW9.cell' q6; have z7 := hW9.cell' q7; have z8 := hW9.cell' q8; have z9 := hW9.cell' q9; have z10 := hW9.cell' q10; have z11 := hW9.cell' q11; have z12 := hW9.cell' q12; have z13 := hW9.cell' q13; have z14 := hW9.cell' q14; have z15 := hW9.cell' q15; have z16 := hW9.cell' q16; have z17 := hW9.cell' q17; go_simp; (try go_bits); (try with_reducible rfl); (try trivial)
              simp only [Act.put, List.setIfInBounds_toArray, List.set_cons_zero, List.set_cons_succ]
              refine take1 (i := 12) (some 182) rfl rfl (by kernel_rfl) (by kernel_rfl) (by kernel_rfl) (fun _ _ _ _ h => h) rfl hS ?_
              apply Exists.intro
              apply And.intro
              · intro W9 hW9; have z0 := hW9.cell' q0; have z1 := hW9.cell' q1; have z2 := hW9.cell' q2; have z3 := hW9.cell' q3; have z4 := hW9.cell' q4; have z5 := hW9.cell' q5; have z6 := hW9.cell' q6; have z7 := hW9.cell' q7; have z8 := hW9.cell' q8; have z9 := hW9.cell' q9; have z10 := hW9.cell' q10; have z11 := hW9.cell' q11; have z12 := hW9.cell' q12; have z13 := hW9.cell' q13; have z14 := hW9.cell' q14; have z15 := hW9.cell' q15; have z16 := hW9.cell' q16; have z17 := hW9.cell' q17; go_simp; try with_reducible rfl
              simp only [Act.put, List.setIfInBounds_toArray, List.set_cons_zero, List.set_cons_succ]
              refine take1 (i := 13) (some 183) rfl rfl (by kernel_rfl) (by kernel_rfl) (by kernel_rfl) (fun _ _ _ _ h => h) rfl hS ?_
              apply Exists.intro
              apply And.intro
              · intro W9 hW9; have z0 := hW9.cell' q0; have z1 := hW9.cell' q1; have z2 := hW9.cell' q2; have z3 := hW9.cell' q3; have z4 := hW9.cell' q4; have z5 := hW9.cell' q5; have z6 := hW9.cell' q6; have z7 := hW9.cell' q7; have z8 := hW9.cell' q8; have z9 := hW9.cell' q9; have z10 := hW9.cell' q10; have z11 := hW9.cell' q11; have z12 := hW9.cell' q12; have z13 := hW9.cell' q13; have z14 := hW9.cell' q14; have z15 := hW9.cell' q15; have z16 := hW9.cell' q16; have z17 := hW9.cell' q17; go_simp; try with_reducible rfl
              simp only [Act.put, List.setIfInBounds_toArray, List.set_cons_zero, List.set_cons_succ]
              refine take1 (i := 14) (some 184) rfl rfl (by kernel_rfl) (by kernel_rfl) (by kernel_rfl) (fun _ _ _ _ h => h) rfl hS ?_
              refine Exists.intro (.agg #[.int .i64 1, .int .i64 3, .slice a2 206 c2]) ?_
              apply And.intro
              · intro W9 hW9; have z0 := hW9.cell' q0; have z1 := hW9.cell' q1; have z2 := hW9.cell' q2; have z3 := hW9.cell' q3; have z4 := hW9.cell' q4; have z5 := hW9.cell' q5; have z6 := hW9.cell' q6; have z7 := hW9.cell' q7; have z8 := hW9.cell' q8; have z9 := hW9.cell' q9; have z10 := hW9.cell' q10; have z11 := hW9.cell' q11; have z12 := hW9.cell' q12; have z13 := hW9.cell' q13; have z14 := hW9.cell' q14; have z15 := hW9.cell' q15; have z16 := hW9.cell' q16; have z17 := hW9.cell' q17; go_simp; (try go_bits); (try with_reducible rfl); (try trivial)
              simp only [Act.put, List.setIfInBounds_toArray, List.set_cons_zero, List.set_cons_succ]
              refine take1 (i := 15) (some 185) rfl rfl (by kernel_rfl) (by kernel_rfl) (by kernel_rfl) (fun _ _ _ _ h => h) rfl hS ?_
              apply Exists.intro
              apply And.intro
              · intro W9 hW9; have z0 := hW9.cell' q0; have z1 := hW9.cell' q1; have z2 := hW9.cell' q2; have z3 := hW9.cell' q3; have z4 := hW9.cell' q4; have z5 := hW9.cell' q5; have z6 := hW9.cell' q6; have z7 := hW9.cell' q7; have z8 := hW9.cell' q8; have z9 := hW9.cell' q9; have z10 := hW9.cell' q10; have z11 := hW9.cell' q11; have z12 := hW9.cell' q12; have z13 := hW9.cell' q13; have z14 := hW9.cell' q14; have z15 := hW9.cell' q15; have z16 := hW9.cell' q16; have z17 := hW9.cell' q17; go_simp; try with_reducible rfl
              simp only [Act.put, List.setIfInBounds_toArray, List.set_cons_zero, List.set_cons_succ]
              refine take1 (i := 16) (some 186) rfl rfl (by kernel_rfl) (by kernel_rfl) (by kernel_rfl) (fun _ _ _ _ h => h) rfl hS ?_
              apply Exists.intro
              apply And.intro
              · intro W9 hW9; have z0 := hW9.cell' q0; have z1 := hW9.cell' q1; have z2 := hW9.cell' q2; have z3 := hW9.cell' q3; have z4 := hW9.cell' q4; have z5 := hW9.cell' q5; have z6 := hW9.cell' q6; have z7 := hW9.cell' q7; have z8 := hW9.cell' q8; have z9 := hW9.cell' q9; have z10 := hW9.cell' q10; have z11 := hW9.cell' q11; have z12 := hW9.cell' q12; have z13 := hW9.cell' q13; have z14 := hW9.cell' q14; have z15 := hW9.cell' q15; have z16 := hW9.cell' q16; have z17 := hW9.cell' q17; go_simp; try with_reducible rfl
              simp only [Act.put, List.setIfInBounds_toArray, List.set_cons_zero, List.set_cons_succ]
              refine take1 (i := 17) (some 187) rfl rfl (by kernel_rfl) (by kernel_rfl) (by kernel_rfl) (fun _ _ _ _ h => h) rfl hS ?_
              refine Exists.intro (.agg #[.int .i64 0, .int .i64 2, .slice a1 206 c1]) ?_
              apply And.intro
              · intro W9 hW9; have z0 := hW9.cell' q0; have z1 := hW9.cell' q1; have z2 := hW9.cell' q2; have z3 := hW9.cell' q3; have z4 := hW9.cell' q4; have z5 := hW9.cell' q5; have z6 := hW9.cell' q6; have z7 := hW9.cell' q7; have z8 := hW9.cell' q8; have z9 := hW9.cell' q9; have z10 := hW9.cell' q10; have z11 := hW9.cell' q11; have z12 := hW9.cell' q12; have z13 := hW9.cell' q13; have z14 := hW9.cell' q14; have z15 := hW9.cell' q15; have z16 := hW9.cell' q16; have z17 := hW9.cell' q17; go_simp; (try go_bits); (try with_reducible rfl); (try trivial)
              simp only [Act.put, List.setIfInBounds_toArray, List.set_cons_zero, List.set_cons_succ]
              refine take1 (i := 20) (some 190) rfl rfl (by kernel_rfl) (by kernel_rfl) (by kernel_rfl) (fun _ _ _ _ h => h) rfl hS ?_
              apply Exists.intro
              apply And.intro
              · intro W9 hW9; have z0 := hW9.cell' q0; have z1 := hW9.cell' q1; have z2 := hW9.cell' q2; have z3 := hW9.cell' q3; have z4 := hW9.cell' q4; have z5 := hW9.cell' q5; have z6 := hW9.cell' q6; have z7 := hW9.cell' q7; have z8 := hW9.cell' q8; have z9 := hW9.cell' q9; have z10 := hW9.cell' q10; have z11 := hW9.cell' q11; have z12 := hW9.cell' q12; have z13 := hW9.cell' q13; have z14 := hW9.cell' q14; have z15 := hW9.cell' q15; have z16 := hW9.cell' q16; have z17 := hW9.cell' q17; go_simp; try with_reducible rfl
              simp only [Act.put, List.setIfInBounds_toArray, List.set_cons_zero, List.set_cons_succ]
              refine wpAnyH_ready (rs := [18]) (by kernel_rfl) (by simp) ?_
              refine AllReadyH.cons rfl (fun K hK => ?_) ?_
              go_simp
              have hba := Bw.alloc (Bw.refl wd) (.cells #[.int .i64 131071, .int .i64 1, .slice (some ⟨b0, o0, none⟩) 206 c0, .int .i64 0, .int .i64 2, .slice a1 206 c1, .int .i64 7, .int .i64 3, .slice x2 206 y2, .int .i64 131071, .int .i64 1, .slice (some ⟨b0, o0, none⟩) 206 c0, .int .i64 1, .int .i64 3, .slice a2 206 c2, .int .i64 0, .int .i64 2, .slice a1 206 c1] 47)
              have KB6 := Lib.hid (Blk.new wd 47 #[.int .i64 131071, .int .i64 1, .slice (some ⟨b0, o0, none⟩) 206 c0, .int .i64 0, .int .i64 2, .slice a1 206 c1, .int .i64 7, .int .i64 3, .slice x2 206 y2, .int .i64 131071, .int .i64 1, .slice (some ⟨b0, o0, none⟩) 206 c0, .int .i64 1, .int .i64 3, .slice a2 206 c2, .int .i64 0, .int .i64 2, .slice a1 206 c1])
              obtain ⟨gb, hgb⟩ : ∃ gb, wd.heap.size = gb := ⟨_, rfl⟩
              rw [hgb] at KB6
              have HGB := Lib.hid (show gp < gb by have := KN.out.lt; omega)
              replace KN := Lib.hid (KN.out.bw hba)
              refine hK.out _ _ (hS.trans hba) (fun hS => ?_)
              clear hK K
              clear hba
              try rw [hgb]
              clear hgb
              generalize World.alloc wd _ = w13 at hS KB6 KN ⊢
              refine take1 (i := 19) (some 189) rfl rfl (by kernel_rfl) (by kernel_rfl) (by kernel_rfl) (fun _ _ _ _ h => h) rfl hS ?_
              refine Exists.intro (.int .i64 6) ?_
              apply And.intro
              · intro W9 hW9; have z0 := hW9.cell' q0; have z1 := hW9.cell' q1; have z2 := hW9.cell' q2; have z3 := hW9.cell' q3; have z4 := hW9.cell' q4; have z5 := hW9.cell' q5; have z6 := hW9.cell' q6; have z7 := hW9.cell' q7; have z8 := hW9.cell' q8; have z9 := hW9.cell' q9; have z10 := hW9.cell' q10; have z11 := hW9.cell' q11; have z12 := hW9.cell' q12; have z13 := hW9.cell' q13; have z14 := hW9.cell' q14; have z15 := hW9.cell' q15; have z16 := hW9.cell' q16; have z17 := hW9.cell' q17; go_simp; (try go_bits); (try with_reducible rfl); (try trivial)
              simp only [Act.put, List.setIfInBounds_toArray, List.set_cons_zero, List.set_cons_succ]
              refine wpAnyH_done (by kernel_rfl) ?_ _
              rotate_left
              exact AllReadyH.nil
              replace HB0 := Lib.hid hS
              clear hS
              obtain ⟨dS, hdS⟩ : ∃ dS : Nat → Value, dS = fun i => [Dl 0, Dl 1, Dm 2, Dl 0, Dl 2, Dl 1].getD i (.slice none 0 0) := ⟨_, rfl⟩
              have HC6 := Lib.hid (show ∀ i, i < 6 → w13.cell? ⟨gb, i * 3, none⟩ = some (.int .i64 (tS i)) ∧ w13.cell? ⟨gb, i * 3 + 1, none⟩ = some (.int .i64 ((kS i : Int) + 1)) ∧ w13.cell? ⟨gb, i * 3 + 2, none⟩ = some (dS i) from fun i hi => by
                rw [← v0, ← v1, ← v2, ← e2] at KB6
                rw [hdS]
                rcases (by omega : i = 0 ∨ i = 1 ∨ i = 2 ∨ i = 3 ∨ i = 4 ∨ i = 5) with rfl | rfl | rfl | rfl | rfl | rfl
                · exact ⟨KB6.out.cell (j := 0) rfl, KB6.out.cell (j := 1) rfl, KB6.out.cell (j := 2) rfl⟩
                · exact ⟨KB6.out.cell (j := 3) rfl, KB6.out.cell (j := 4) rfl, KB6.out.cell (j := 5) rfl⟩
                · exact ⟨KB6.out.cell (j := 6) rfl, KB6.out.cell (j := 7) rfl, KB6.out.cell (j := 8) rfl⟩
                · exact ⟨KB6.out.cell (j := 9) rfl, KB6.out.cell (j := 10) rfl, KB6.out.cell (j := 11) rfl⟩
                · exact ⟨KB6.out.cell (j := 12) rfl, KB6.out.cell (j := 13) rfl, KB6.out.cell (j := 14) rfl⟩
                · exact ⟨KB6.out.cell (j := 15) rfl, KB6.out.cell (j := 16) rfl, KB6.out.cell (j := 17) rfl⟩)
              have HD6 := Lib.hid (show ∀ i, i < 6 → RdI w13 (dS i) (FrE (plE (xS i)) (kS i)) ∧ Capd (dS i) from fun i hi => by
                rw [hdS]
                rcases (by omega : i = 0 ∨ i = 1 ∨ i = 2 ∨ i = 3 ∨ i = 4 ∨ i = 5) with rfl | rfl | rfl | rfl | rfl | rfl
                · exact (HRL.out.bw HB0.out).d 0 (by omega)
                · exact (HRL.out.bw HB0.out).d 1 (by omega)
                · exact (HRM.out.bw HB0.out).d 2 (by omega)
                · exact (HRL.out.bw HB0.out).d 0 (by omega)
                · exact (HRL.out.bw HB0.out).d 2 (by omega)
                · exact (HRL.out.bw HB0.out).d 1 (by omega))
              clear hdS KB6 RE1 RE2 RE3
              obtain ⟨wm, hwm⟩ : ∃ wm, wm = w13 := ⟨_, rfl⟩
              subst hwm
              go_wp2_with fail
              go_loopg [190] 6 (fun gg s190 wr => ∃ i : Nat, i ≤ 6 ∧ 6 - i ≤ gg ∧ s190 = .int .i64 i ∧ Hid (Bw WW wr) ∧ Hid (∀ i, i < 6 → wr.cell? ⟨gb, i * 3, none⟩ = some (.int .i64 (tS i)) ∧ wr.cell? ⟨gb, i * 3 + 1, none⟩ = some (.int .i64 ((kS i : Int) + 1)) ∧ wr.cell? ⟨gb, i * 3 + 2, none⟩ = some (dS i)) ∧ Hid (∀ i, i < 6 → RdI wr (dS i) (FrE (plE (xS i)) (kS i)) ∧ Capd (dS i)) ∧ ∃ (P : Pm) (Da : Nat → Value), Hid (Blk wr gp 43 (ptV P.h P.is P.pr Da)) ∧ Hid (Dat3 wr Da P.Z) ∧ Hid (StK i P))
              case atStart => exact ⟨0, by omega, by omega, rfl, HB0, HC6, HD6, zP, fun _ => .slice none 0 0, KN, Lib.hid (fun j hj => ⟨RdI.nil _, Capd.nil⟩), Lib.hid stk_zero⟩
              case round =>
                clear HB0 HC6 HD6 KN
                obtain ⟨i, hi, hgg, rfl, HB0, HC6, HD6, P, Da, KN, HDA, HST⟩ := hrel
                obtain ⟨wb, rfl⟩ : ∃ wb, wb = wr := ⟨_, rfl⟩
                by_cases hl6 : i < 6
                · have hiz : (i : Int) < 6 := by omega
                  have hi0 : (0 : Int) ≤ i := by omega
                  obtain ⟨d0, d1, d2⟩ := HC6.out i hl6
                  obtain ⟨af, cf, hfd⟩ := (HD6.out i hl6).1.form
                  have HDK := Lib.hid (HD6.out i hl6)
                  rw [hfd] at d2 HDK
                  clear hfd
                  obtain ⟨LN, hLN⟩ : ∃ LN, LN = (FrE (plE (xS i)) (kS i)).length := ⟨_, rfl⟩
                  rw [← hLN] at d2 HDK
                  clear hLN
                  have AD := Lib.hid (fun W (q : Bw wb W) => Add26_any P Da (tS i) ((kS i : Int) + 1) (FrE (plE (xS i)) (kS i)) (.slice af LN cf) W (HDA.out.bw q) (HDK.out.1.mono q) HDK.out.2)
                  obtain ⟨s1, s2, s3, s4⟩ := known_add hl6 HST.out
                  have HBIG := Lib.hid (add_big P (tS i) ((kS i : Int) + 1) (FrE (plE (xS i)) (kS i)))
                  generalize addR P (tS i) ((kS i : Int) + 1) (FrE (plE (xS i)) (kS i)) = R at AD HBIG s1 s2 s3 s4
                  obtain ⟨Q, XR, dn, er⟩ := R
                  unfold AddP at AD
                  dsimp only at AD HBIG s1 s2 s3 s4
                  subst s1
                  have H2 := Lib.hid s2
                  have H3 := Lib.hid s3
                  have HST2 := Lib.hid s4
                  clear s2 s3 s4
                  generalize tS i = t at *
                  generalize (kS i : Int) + 1 = kd at *
                  have HN47 := Lib.hid (fun (W : World) => Blk.new W 47 #[.int .i64 0, .int .i64 0, .slice none 0 0])
                  go_upto_region 31 with ((with_reducible refine at_store 47 (.tmp 18) (.tmp 194) ?_); refine wpList_store_row rfl 47 (.tmp 18) (.tmp 194) rfl wb.heap.size #[.int .i64 t, .int .i64 kd, .slice af LN cf] rfl rfl 47 _ (HN47.out wb) (by kernel_rfl) rfl (by simp [Value.oneCell']) ?_)
                  have K18 := Lib.hid ((HN47.out wb).row #[.int .i64 t, .int .i64 kd, .slice af LN cf])
                  have hb9 := Bw.setRow (Bw.alloc (Bw.refl wb) (.cells #[.int .i64 0, .int .i64 0, .slice none 0 0] 47)) (Nat.le_refl _) #[.int .i64 t, .int .i64 kd, .slice af LN cf]
                  obtain ⟨g18, hg18⟩ : ∃ g18, wb.heap.size = g18 := ⟨_, rfl⟩
                  rw [hg18] at K18 hb9 ⊢
                  obtain ⟨w30, hw30⟩ : ∃ w30, (wb.alloc (.cells #[.int .i64 0, .int .i64 0, .slice none 0 0] 47)).setRow g18 #[.int .i64 t, .int .i64 kd, .slice af LN cf] = w30 := ⟨_, rfl⟩
                  rw [hw30] at K18 hb9 ⊢
                  clear hw30 d0 d1 d2
                  (try simp only [Act.put])
                  have HWB := Lib.hid hb9
                  clear hb9
                  have KN1 := Lib.hid (KN.out.bw HWB.out)
                  go_upto_region 32 with (first | ((with_reducible refine at_load 43 (.tmp 16) ?_); refine wpList_load_row rfl 43 _ rfl gp rfl 43 (ptV P.h P.is P.pr Da) (0, 0) _ KN1.out Try.underlying43 rfl (by kernel_rfl) ?_) | ((with_reducible refine at_load 47 (.tmp 18) ?_); refine wpList_load_row rfl 47 _ rfl g18 rfl 47 #[.int .i64 t, .int .i64 kd, .slice af LN cf] (0, 0) _ K18.out Try.underlying47 rfl (by kernel_rfl) ?_) | (go_at_call 20; (with_reducible refine Calls.mono (AD.out _ HWB.out) ?_); rintro e1 w31 ⟨⟨D9, rfl, hd9⟩, hb9⟩; have HD9 := Lib.hid (show Dat3 w31 D9 Q.Z from hd9); replace HWB := Lib.hid (HWB.out.trans hb9); replace KN1 := Lib.hid (KN1.out.bw hb9); clear hd9 hb9; have K19 := Lib.hid ((Blk.new w31 43 #[.bool false, .bool false, .bool false, .int .i64 0, .int .i64 0, .slice none 0 0, .slice none 0 0, .slice none 0 0]).alloc (.cells #[.int .i64 0, .int .i64 0, .int .i64 0, .int .i64 0, .int .i64 0, .int .i64 0, .int .i64 0, .int .i64 0, .int .i64 0, .int .i64 0, .int .i64 0, .int .i64 0, .int .i64 0, .int .i64 0, .int .i64 0, .int .i64 0, .int .i64 0, .int .i64 0, .int .i64 0] 25)); have K20 : Hid (Blk ((w31.alloc (.cells #[.bool false, .bool false, .bool false, .int .i64 0, .int .i64 0, .slice none 0 0, .slice none 0 0, .slice none 0 0] 43)).alloc (.cells #[.int .i64 0, .int .i64 0, .int .i64 0, .int .i64 0, .int .i64 0, .int .i64 0, .int .i64 0, .int .i64 0, .int .i64 0, .int .i64 0, .int .i64 0, .int .i64 0, .int .i64 0, .int .i64 0, .int .i64 0, .int .i64 0, .int .i64 0, .int .i64 0, .int .i64 0] 25)) (w31.heap.size + 1) 25 #[.int .i64 0, .int .i64 0, .int .i64 0, .int .i64 0, .int .i64 0, .int .i64 0, .int .i64 0, .int .i64 0, .int .i64 0, .int .i64 0, .int .i64 0, .int .i64 0, .int .i64 0, .int .i64 0, .int .i64 0, .int .i64 0, .int .i64 0, .int .i64 0, .int .i64 0]) := Lib.hid (by have h9 := Blk.new (w31.alloc (.cells #[.bool false, .bool false, .bool false, .int .i64 0, .int .i64 0, .slice none 0 0, .slice none 0 0, .slice none 0 0] 43)) 25 #[.int .i64 0, .int .i64 0, .int .i64 0, .int .i64 0, .int .i64 0, .int .i64 0, .int .i64 0, .int .i64 0, .int .i64 0, .int .i64 0, .int .i64 0, .int .i64 0, .int .i64 0, .int .i64 0, .int .i64 0, .int .i64 0, .int .i64 0, .int .i64 0, .int .i64 0]; simp only [World.size_alloc] at h9; exact h9); replace HD9 := Lib.hid ((HD9.out.bw (Bw.alloc (Bw.refl w31) (.cells #[.bool false, .bool false, .bool false, .int .i64 0, .int .i64 0, .slice none 0 0, .slice none 0 0, .slice none 0 0] 43))).bw (Bw.alloc (Bw.refl _) (.cells #[.int .i64 0, .int .i64 0, .int .i64 0, .int .i64 0, .int .i64 0, .int .i64 0, .int .i64 0, .int .i64 0, .int .i64 0, .int .i64 0, .int .i64 0, .int .i64 0, .int .i64 0, .int .i64 0, .int .i64 0, .int .i64 0, .int .i64 0, .int .i64 0, .int .i64 0] 25)))) | ((with_reducible refine at_store 43 (.tmp 19) (.tmp 199) ?_); refine wpList_store_row rfl 43 (.tmp 19) (.tmp 199) rfl w31.heap.size (ptV Q.h Q.is Q.pr D9) rfl rfl 43 _ K19.out (by kernel_rfl) rfl (HD9.out.one _ _ _) ?_; replace HD9 := Lib.hid (HD9.out.row HBIG.out K19.out (by decide) (ptV Q.h Q.is Q.pr D9)); replace K20 := Lib.hid (K20.out.row_other (g' := w31.heap.size) (by omega) (ptV Q.h Q.is Q.pr D9)); replace K19 := Lib.hid (K19.out.row (ptV Q.h Q.is Q.pr D9))) | ((with_reducible refine at_store 25 (.tmp 20) (.tmp 200) ?_); refine wpList_store_row rfl 25 (.tmp 20) (.tmp 200) rfl (w31.heap.size + 1) (eV XR) rfl rfl 25 _ K20.out (by kernel_rfl) rfl (by simp [Value.oneCell', eV]) ?_; replace HD9 := Lib.hid (HD9.out.row HBIG.out K20.out (by decide) (eV XR)); replace K19 := Lib.hid (K19.out.row_other (g' := w31.heap.size + 1) (by omega) (eV XR)); replace K20 := Lib.hid (K20.out.row (eV XR))))
                  have hb9 := Bw.setRow (Bw.setRow (Bw.alloc (Bw.alloc (Bw.refl w31) (.cells #[.bool false, .bool false, .bool false, .int .i64 0, .int .i64 0, .slice none 0 0, .slice none 0 0, .slice none 0 0] 43)) (.cells #[.int .i64 0, .int .i64 0, .int .i64 0, .int .i64 0, .int .i64 0, .int .i64 0, .int .i64 0, .int .i64 0, .int .i64 0, .int .i64 0, .int .i64 0, .int .i64 0, .int .i64 0, .int .i64 0, .int .i64 0, .int .i64 0, .int .i64 0, .int .i64 0, .int .i64 0] 25)) (Nat.le_refl _) (ptV Q.h Q.is Q.pr D9)) (Nat.le_succ _) (eV XR)
                  obtain ⟨w32, hw32⟩ : ∃ w32, (((w31.alloc (.cells #[.bool false, .bool false, .bool false, .int .i64 0, .int .i64 0, .slice none 0 0, .slice none 0 0, .slice none 0 0] 43)).alloc (.cells #[.int .i64 0, .int .i64 0, .int .i64 0, .int .i64 0, .int .i64 0, .int .i64 0, .int .i64 0, .int .i64 0, .int .i64 0, .int .i64 0, .int .i64 0, .int .i64 0, .int .i64 0, .int .i64 0, .int .i64 0, .int .i64 0, .int .i64 0, .int .i64 0, .int .i64 0] 25)).setRow w31.heap.size (ptV Q.h Q.is Q.pr D9)).setRow (w31.heap.size + 1) (eV XR) = w32 := ⟨_, rfl⟩
                  obtain ⟨g19, hg19⟩ : ∃ g19, w31.heap.size = g19 := ⟨_, rfl⟩
                  have HG19 := Lib.hid (show gp < g19 by have := KN1.out.lt; omega)
                  rw [hg19] at hw32 hb9 K19 K20 HD9 ⊢
                  rw [hw32] at hb9 K19 K20 HD9 ⊢
                  clear hw32
                  (try simp only [Act.put])
                  replace HWB := Lib.hid (HWB.out.trans hb9)
                  replace KN1 := Lib.hid (KN1.out.bw hb9)
                  clear hb9 hg19
                  have hq1 := fun W => eqE_self (plE 7) W
                  have hq2 := fun W op x y => eqE_guard (plE 7) (plE 7) op x y W
                  have HS7 : Hid ((Try.prog.info? 25).map (·.size) = some A7.size) := Lib.hid (by rw [HA7.out]; kernel_rfl)
                  rw [← HA7.out] at hq1 hq2
                  by_cases h5 : i = 5
                  · have hdn : dn = true := H2.out.trans (decide_eq_true h5)
                    subst hdn
                    have hA : eV XR = A7 := (H3.out.trans (if_pos h5)).trans HA7.out.symm
                    rw [hA] at K20
                    have hib : ((i : Int) == 5) = true := by subst h5; rfl
                    clear hA h5
                    refine wp_region_quiet_ext (by kernel_rfl) (by kernel_rfl) ?_
                    (repeat (go_big_quiet_step ((fail))))
                    go_big_quiet_want
                    refine quiet_load (.agg A7) (some 214) rfl (fun W hW => ?_) ?_
                    · obtain ⟨p9, rfl⟩ := hW
                      exact run_load_row 25 _ rfl (g19 + 1) rfl 25 A7 _ (K20.out.bw p9.b) Try.underlying25 rfl HS7.out
                    simp only [Act.put, List.setIfInBounds_toArray, List.set_cons_zero, List.set_cons_succ]
                    go_big_quiet_on
                    (repeat (go_big_quiet_step ((go_at_call 23; with_reducible refine Calls.ext_of (PL7.out _)))))
                    refine wpQuiet_nil ?_
                    rintro wq ⟨⟨_, hbq⟩, rfl⟩
                    replace HWB := Lib.hid (HWB.out.trans hbq)
                    replace KN1 := Lib.hid (KN1.out.bw hbq)
                    replace K19 := Lib.hid (K19.out.bw hbq)
                    replace HD9 := Lib.hid (HD9.out.bw hbq)
                    go_upto_region 35 with (first | ((with_reducible refine at_load 43 (.tmp 19) ?_); refine wpList_load_row rfl 43 _ rfl g19 rfl 43 (ptV Q.h Q.is Q.pr D9) (0, 0) _ K19.out Try.underlying43 rfl (by kernel_rfl) ?_) | ((with_reducible refine at_store 43 (.tmp 16) (.tmp 228) ?_); refine wpList_store_row rfl 43 (.tmp 16) (.tmp 228) rfl gp (ptV Q.h Q.is Q.pr D9) rfl rfl 43 _ KN1.out (by kernel_rfl) rfl (HD9.out.one _ _ _) ?_))
                    have hkx := Kx.row KN1.out.lt (ptV Q.h Q.is Q.pr D9)
                    have HB1 := Bw.setRow (HB0.out.trans HWB.out) HGP.out (ptV Q.h Q.is Q.pr D9)
                    have HC7 : ∀ i, i < 6 → (wq.setRow gp (ptV Q.h Q.is Q.pr D9)).cell? ⟨gb, i * 3, none⟩ = some (.int .i64 (tS i)) ∧ (wq.setRow gp (ptV Q.h Q.is Q.pr D9)).cell? ⟨gb, i * 3 + 1, none⟩ = some (.int .i64 ((kS i : Int) + 1)) ∧ (wq.setRow gp (ptV Q.h Q.is Q.pr D9)).cell? ⟨gb, i * 3 + 2, none⟩ = some (dS i) := fun j hj => by
                      obtain ⟨u0, u1, u2⟩ := HC6.out j hj
                      have hne : gb ≠ gp := by have := HGB.out; omega
                      exact ⟨cell_kx hkx hne (HWB.out.cell' u0), cell_kx hkx hne (HWB.out.cell' u1), cell_kx hkx hne (HWB.out.cell' u2)⟩
                    have HD7 : ∀ i, i < 6 → RdI (wq.setRow gp (ptV Q.h Q.is Q.pr D9)) (dS i) (FrE (plE (xS i)) (kS i)) ∧ Capd (dS i) := fun j hj =>
                      ⟨((HD6.out j hj).1.mono HWB.out).kxn hkx (rdI_ne ((HD6.out j hj).1.mono HWB.out) (by rw [(packedE (xs_ok hj) (kS j) (ks_lt j hj).1).1]; omega) KN1.out (show (ptV P.h P.is P.pr Da).size ≤ 19 from (by decide : 8 ≤ 19))), (HD6.out j hj).2⟩
                    have HDQ := HD9.out.row HBIG.out KN1.out (show (ptV P.h P.is P.pr Da).size ≤ 19 from (by decide : 8 ≤ 19)) (ptV Q.h Q.is Q.pr D9)
                    have KQ := KN1.out.row (ptV Q.h Q.is Q.pr D9)
                    (try simp only [Act.put])
                    go_wp2
                    go_roundg (6 - (i + 1))
                    case measure => omega
                    case rel => exact ⟨i + 1, by omega, by omega, by go_num, Lib.hid HB1, Lib.hid HC7, Lib.hid HD7, Q, D9, Lib.hid KQ, Lib.hid HDQ, HST2⟩
                  · have hdn : dn = false := H2.out.trans (decide_eq_false h5)
                    subst hdn
                    have hA : eV XR = #[.int .i64 0, .int .i64 0, .int .i64 0, .int .i64 0, .int .i64 0, .int .i64 0, .int .i64 0, .int .i64 0, .int .i64 0, .int .i64 0, .int .i64 0, .int .i64 0, .int .i64 0, .int .i64 0, .int .i64 0, .int .i64 0, .int .i64 0, .int .i64 0, .int .i64 0] := (H3.out.trans (if_neg h5)).trans zE_V
                    rw [hA] at K20
                    have hib : ((i : Int) == 5) = false := by simp; omega
                    have hz1 : ∀ W, (Op.equalIn 10000 25 (.agg #[.int .i64 0, .int .i64 0, .int .i64 0, .int .i64 0, .int .i64 0, .int .i64 0, .int .i64 0, .int .i64 0, .int .i64 0, .int .i64 0, .int .i64 0, .int .i64 0, .int .i64 0, .int .i64 0, .int .i64 0, .int .i64 0, .int .i64 0, .int .i64 0, .int .i64 0]) (.agg #[.int .i64 0, .int .i64 0, .int .i64 0, .int .i64 0, .int .i64 0, .int .i64 0, .int .i64 0, .int .i64 0, .int .i64 0, .int .i64 0, .int .i64 0, .int .i64 0, .int .i64 0, .int .i64 0, .int .i64 0, .int .i64 0, .int .i64 0, .int .i64 0, .int .i64 0])).run Try.prog W = .ok true W := fun W => by have h9 := eqE_self zE W; rw [zE_V] at h9; exact h9
                    have hz2 : ∀ W op x y, (eqGuard op 25 x y (.agg #[.int .i64 0, .int .i64 0, .int .i64 0, .int .i64 0, .int .i64 0, .int .i64 0, .int .i64 0, .int .i64 0, .int .i64 0, .int .i64 0, .int .i64 0, .int .i64 0, .int .i64 0, .int .i64 0, .int .i64 0, .int .i64 0, .int .i64 0, .int .i64 0, .int .i64 0]) (.agg #[.int .i64 0, .int .i64 0, .int .i64 0, .int .i64 0, .int .i64 0, .int .i64 0, .int .i64 0, .int .i64 0, .int .i64 0, .int .i64 0, .int .i64 0, .int .i64 0, .int .i64 0, .int .i64 0, .int .i64 0, .int .i64 0, .int .i64 0, .int .i64 0, .int .i64 0])).run Try.prog W = .ok () W := fun W op x y => by have h9 := eqE_guard zE zE op x y W; rw [zE_V] at h9; exact h9
                    clear hA h5
                    refine wp_region_quiet_ext (by kernel_rfl) (by kernel_rfl) ?_
                    (repeat (go_big_quiet_step ((fail))))
                    go_big_quiet_want
                    refine quiet_load (.agg #[.int .i64 0, .int .i64 0, .int .i64 0, .int .i64 0, .int .i64 0, .int .i64 0, .int .i64 0, .int .i64 0, .int .i64 0, .int .i64 0, .int .i64 0, .int .i64 0, .int .i64 0, .int .i64 0, .int .i64 0, .int .i64 0, .int .i64 0, .int .i64 0, .int .i64 0]) (some 223) rfl (fun W hW => ?_) ?_
                    · obtain ⟨p9, rfl⟩ := hW
                      exact run_load_row 25 _ rfl (g19 + 1) rfl 25 #[.int .i64 0, .int .i64 0, .int .i64 0, .int .i64 0, .int .i64 0, .int .i64 0, .int .i64 0, .int .i64 0, .int .i64 0, .int .i64 0, .int .i64 0, .int .i64 0, .int .i64 0, .int .i64 0, .int .i64 0, .int .i64 0, .int .i64 0, .int .i64 0, .int .i64 0] _ (K20.out.bw p9.b) Try.underlying25 rfl (by kernel_rfl)
                    simp only [Act.put, List.setIfInBounds_toArray, List.set_cons_zero, List.set_cons_succ]
                    go_big_quiet_on
                    (repeat (go_big_quiet_step ((fail))))
                    refine wpQuiet_nil ?_
                    rintro wq ⟨⟨_, hbq⟩, rfl⟩
                    replace HWB := Lib.hid (HWB.out.trans hbq)
                    replace KN1 := Lib.hid (KN1.out.bw hbq)
                    replace K19 := Lib.hid (K19.out.bw hbq)
                    replace HD9 := Lib.hid (HD9.out.bw hbq)
                    go_upto_region 35 with (first | ((with_reducible refine at_load 43 (.tmp 19) ?_); refine wpList_load_row rfl 43 _ rfl g19 rfl 43 (ptV Q.h Q.is Q.pr D9) (0, 0) _ K19.out Try.underlying43 rfl (by kernel_rfl) ?_) | ((with_reducible refine at_store 43 (.tmp 16) (.tmp 228) ?_); refine wpList_store_row rfl 43 (.tmp 16) (.tmp 228) rfl gp (ptV Q.h Q.is Q.pr D9) rfl rfl 43 _ KN1.out (by kernel_rfl) rfl (HD9.out.one _ _ _) ?_))
                    have hkx := Kx.row KN1.out.lt (ptV Q.h Q.is Q.pr D9)
                    have HB1 := Bw.setRow (HB0.out.trans HWB.out) HGP.out (ptV Q.h Q.is Q.pr D9)
                    have HC7 : ∀ i, i < 6 → (wq.setRow gp (ptV Q.h Q.is Q.pr D9)).cell? ⟨gb, i * 3, none⟩ = some (.int .i64 (tS i)) ∧ (wq.setRow gp (ptV Q.h Q.is Q.pr D9)).cell? ⟨gb, i * 3 + 1, none⟩ = some (.int .i64 ((kS i : Int) + 1)) ∧ (wq.setRow gp (ptV Q.h Q.is Q.pr D9)).cell? ⟨gb, i * 3 + 2, none⟩ = some (dS i) := fun j hj => by
                      obtain ⟨u0, u1, u2⟩ := HC6.out j hj
                      have hne : gb ≠ gp := by have := HGB.out; omega
                      exact ⟨cell_kx hkx hne (HWB.out.cell' u0), cell_kx hkx hne (HWB.out.cell' u1), cell_kx hkx hne (HWB.out.cell' u2)⟩
                    have HD7 : ∀ i, i < 6 → RdI (wq.setRow gp (ptV Q.h Q.is Q.pr D9)) (dS i) (FrE (plE (xS i)) (kS i)) ∧ Capd (dS i) := fun j hj =>
                      ⟨((HD6.out j hj).1.mono HWB.out).kxn hkx (rdI_ne ((HD6.out j hj).1.mono HWB.out) (by rw [(packedE (xs_ok hj) (kS j) (ks_lt j hj).1).1]; omega) KN1.out (show (ptV P.h P.is P.pr Da).size ≤ 19 from (by decide : 8 ≤ 19))), (HD6.out j hj).2⟩
                    have HDQ := HD9.out.row HBIG.out KN1.out (show (ptV P.h P.is P.pr Da).size ≤ 19 from (by decide : 8 ≤ 19)) (ptV Q.h Q.is Q.pr D9)
                    have KQ := KN1.out.row (ptV Q.h Q.is Q.pr D9)
                    (try simp only [Act.put])
                    go_wp2
                    go_roundg (6 - (i + 1))
                    case measure => omega
                    case rel => exact ⟨i + 1, by omega, by omega, by go_num, Lib.hid HB1, Lib.hid HC7, Lib.hid HD7, Q, D9, Lib.hid KQ, Lib.hid HDQ, HST2⟩
                · obtain rfl : i = 6 := by omega
                  have hiz : ¬ ((6 : Nat) : Int) < 6 := by omega
                  have KZ := Lib.hid (show Blk wb gp 43 (ptV zP.h zP.is zP.pr Da) from by
                    have h9 := KN.out
                    obtain ⟨n1, n2⟩ := HST.out.no rfl
                    rw [ptV_congr P.is P.pr Da (fun j hj => (HST.out.hh j hj).trans (show Go.Proofs.Sky.hS 6 j = zP.h j from by rcases (by omega : j = 0 ∨ j = 1 ∨ j = 2) with rfl | rfl | rfl <;> rfl)), n1, n2] at h9
                    exact h9)
                  have HDZ := Lib.hid (show ∀ j, j < 3 → RdI wb (Da j) [] from fun j hj => by
                    have h9 := (HDA.out j hj).1
                    rw [HST.out.hz j hj, show Go.Proofs.Sky.hS 6 j = false from by rcases (by omega : j = 0 ∨ j = 1 ∨ j = 2) with rfl | rfl | rfl <;> rfl] at h9
                    exact h9)
                  have SPZ : Hid (∀ W, Bw wb W → Calls Try.prog 22 #[.agg (ptV zP.h zP.is zP.pr Da), .agg #[.bool false, .bool false, .bool false, .int .i64 0, .int .i64 0, .slice none 0 0, .slice none 0 0, .slice none 0 0]] W fun e w' => e = .returned (.bool true) ∧ Bw W w') := Lib.hid (fun W q => sameParts_any zP.h zP.is zP.pr Da (fun _ => .slice none 0 0) (fun _ => []) W (fun j hj => (HDZ.out j hj).mono q) (fun j hj => RdI.nil W))
                  have AD1 : Hid (∀ W, Bw WW W → Calls Try.prog 20 #[.agg #[.bool false, .bool false, .bool false, .int .i64 1, .int .i64 0, .slice none 0 0, .slice none 0 0, .slice none 0 0], .agg #[.int .i64 131071, .int .i64 1, .slice (some ⟨b0, o0, none⟩) 206 c0]] W fun e w' => (∃ D, e = .returned (.tuple #[.agg (ptV zP.h zP.is zP.pr D), .agg (eV zE), .bool false, .int .i64 13])) ∧ Bw W w') := Lib.hid (fun W q => by
                    have hd := (HRL.out.bw q).d 0 (by omega)
                    rw [v0] at hd
                    have h9 := Add26_any ⟨fun _ => false, 1, 0, fun _ => []⟩ (fun _ => .slice none 0 0) 131071 1 (FrE (plE 7) 0) (.slice (some ⟨b0, o0, none⟩) 206 c0) W (fun j hj => ⟨RdI.nil W, Capd.nil⟩) hd.1 hd.2
                    rw [add_bad1] at h9
                    exact Calls.mono h9 (fun e w' ⟨⟨D, h1, _⟩, h3⟩ => ⟨⟨D, h1⟩, h3⟩))
                  have AD2 : Hid (∀ W, Bw WW W → Calls Try.prog 20 #[.agg #[.bool false, .bool false, .bool false, .int .i64 0, .int .i64 0, .slice none 0 0, .slice none 0 0, .slice none 0 0], .agg #[.int .i64 0, .int .i64 4, .slice (some ⟨b0, o0, none⟩) 206 c0]] W fun e w' => (∃ D, e = .returned (.tuple #[.agg (ptV zP.h zP.is zP.pr D), .agg (eV zE), .bool false, .int .i64 3])) ∧ Bw W w') := Lib.hid (fun W q => by
                    have hd := (HRL.out.bw q).d 0 (by omega)
                    rw [v0] at hd
                    have h9 := Add26_any zP (fun _ => .slice none 0 0) 0 4 (FrE (plE 7) 0) (.slice (some ⟨b0, o0, none⟩) 206 c0) W (fun j hj => ⟨RdI.nil W, Capd.nil⟩) hd.1 hd.2
                    rw [add_bad2] at h9
                    exact Calls.mono h9 (fun e w' ⟨⟨D, h1, _⟩, h3⟩ => ⟨⟨D, h1⟩, h3⟩))
                  have r0 := HB0.out.cell' q0
                  have r1 := HB0.out.cell' q1
                  have r2 := HB0.out.cell' q2
                  have HWX := Lib.hid (Bw.refl wb)
                  go_upto_region 37 with (go_at_call 20; (with_reducible refine Calls.mono (AD1.out _ (HB0.out.trans HWX.out)) ?_); rintro e1 y1 ⟨⟨Dx, rfl⟩, hb9⟩; replace HWX := Lib.hid (HWX.out.trans hb9); clear hb9 r0 r1 r2; have r2 := (HB0.out.trans HWX.out).cell' q2)
                  go_upto_region 38 with (go_at_call 20; (with_reducible refine Calls.mono (AD2.out _ (HB0.out.trans HWX.out)) ?_); rintro e1 y2 ⟨⟨Dy, rfl⟩, hb9⟩; replace HWX := Lib.hid (HWX.out.trans hb9); clear hb9 r2)
                  replace KZ := Lib.hid (KZ.out.bw HWX.out)
                  go_wp2_with (first | ((with_reducible refine at_load 43 (.tmp 16) ?_); refine wpList_load_row rfl 43 _ rfl gp rfl 43 (ptV zP.h zP.is zP.pr Da) (0, 0) _ KZ.out Try.underlying43 rfl (by kernel_rfl) ?_) | (go_at_call 22; (with_reducible refine Calls.mono (SPZ.out _ HWX.out) ?_); rintro e1 y3 ⟨rfl, hb9⟩; replace HWX := Lib.hid (HWX.out.trans hb9); clear hb9) | (go_at_call 16; (with_reducible refine Calls.mono (AW.out _) ?_); rintro e2 y4 ⟨rfl, hb2⟩))
                  go_ret
                  exact ⟨rfl, (((HBW.out.trans HB0.out).trans HWX.out)).trans hb2⟩
end Go.Proofs.Sky
