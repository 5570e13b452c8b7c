/-
  lemmas for the theorems of this claim. No conditions beyond those written in the statements.
-/
import Derived.Test.YtmfiiocadhdhaaaSA26
import Derived.BigRegion
import Derived.Deep.Cut
import Derived.Test.YtmfiiocadhdhaaaHeld
import Derived.Test.YtmfiiocadhdhaaaAppP
set_option linter.unusedVariables false
set_option linter.unusedSimpArgs false
set_option linter.unnecessarySimpa false
namespace Go.Proofs.Sky
open Go Go.RowKit Go.Shelf
set_option maxHeartbeats 4000000
set_option maxRecDepth 8000
/-! chapter 26, plain: what Add's steps lead to -/
def anyH (h : Nat → Bool) : Bool := h 0 || (h 1 || h 2)
def rsB (p : Pm) (zs : List Int) (k : Nat) : Bool := anyH p.h && !(smP p zs k)
theorem snd_len {p : Pm} (hs : sndP p = true) {j : Nat} (hj : j < 3) : (p.Z j).length ≤ 206 ∧ (p.h j = false → p.Z j = []) ∧ (p.h j = true → rokV (p.Z j) ((j : Int) + 1) = true ∧ rvX (p.Z j) j 0 = p.is ∧ rvX (p.Z j) j 1 = p.pr) := by
  have h1 := sndP_at hs hj
  unfold sndK at h1
  cases hh : p.h j with
  | false =>
    rw [hh] at h1
    have h2 := of_decide_eq_true h1
    exact ⟨by omega, fun _ => List.length_eq_zero_iff.1 h2, fun h => by cases h⟩
  | true =>
    rw [hh] at h1
    simp only [if_true, Bool.and_eq_true, decide_eq_true_eq] at h1
    refine ⟨?_, fun h => (by cases h), fun _ => h1⟩
    have h3 := gdF_of (rok_gd1 hj h1.1)
    have := h3.len; omega
theorem rs_false {p : Pm} {zs : List Int} {k : Nat} (hs : sndP p = true) (hr : rsB p zs k = false) : ∀ j, j < 3 → (smP p zs k && p.h j) = p.h j ∧ (if smP p zs k then p.Z j else []) = p.Z j := by
  intro j hj
  cases hm : smP p zs k with
  | true => exact ⟨by simp, by simp⟩
  | false =>
    unfold rsB at hr
    rw [hm] at hr
    have ha : anyH p.h = false := by simpa using hr
    unfold anyH at ha
    simp only [Bool.or_eq_false_iff] at ha
    have hhj : p.h j = false := by
      match j, hj with
      | 0, _ => exact ha.1
      | 1, _ => exact ha.2.1
      | 2, _ => exact ha.2.2
    exact ⟨by rw [hhj]; rfl, by rw [(snd_len hs hj).2.1 hhj]; rfl⟩
theorem rs_true {p : Pm} {zs : List Int} {k : Nat} (hr : rsB p zs k = true) : smP p zs k = false := by
  unfold rsB at hr
  simp only [Bool.and_eq_true] at hr
  simpa using hr.2
theorem ptV_congr {h h' : Nat → Bool} (is pr : Int) (D : Nat → Value) (he : ∀ j, j < 3 → h j = h' j) : ptV h is pr D = ptV h' is pr D := by
  unfold ptV
  rw [he 0 (by omega), he 1 (by omega), he 2 (by omega)]
theorem eqF3d (d : Nat) (a b c : Bool) (w : World) : (Op.equalIn (d + 2) 39 (.agg #[.bool a, .bool b, .bool c]) (.agg #[.bool false, .bool false, .bool false])).run Try.prog w = .ok (!(a || (b || c))) w := by
  have hu : Try.prog.underlying 39 = some (.array 3 4) := by kernel_rfl
  have hi : Try.prog.underlying 4 = some .bool := by kernel_rfl
  have hs : ∀ w, (sizeOf 4).run Try.prog w = .ok 1 w := fun w => by kernel_rfl
  cases a with
  | true => simp [Op.equalIn, run_underlying hu, run_underlying hi, hs, go_sem, part, Std.Legacy.Range.forIn_eq_forIn_range', Std.Legacy.Range.size, List.range'_succ, List.range'_zero, List.forIn_cons, List.forIn_nil]
  | false =>
    cases b with
    | true => simp [Op.equalIn, run_underlying hu, run_underlying hi, hs, go_sem, part, Std.Legacy.Range.forIn_eq_forIn_range', Std.Legacy.Range.size, List.range'_succ, List.range'_zero, List.forIn_cons, List.forIn_nil]
    | false =>
      cases c with
      | true => simp [Op.equalIn, run_underlying hu, run_underlying hi, hs, go_sem, part, Std.Legacy.Range.forIn_eq_forIn_range', Std.Legacy.Range.size, List.range'_succ, List.range'_zero, List.forIn_cons, List.forIn_nil]
      | false => simp [Op.equalIn, run_underlying hu, run_underlying hi, hs, go_sem, part, Std.Legacy.Range.forIn_eq_forIn_range', Std.Legacy.Range.size, List.range'_succ, List.range'_zero, List.forIn_cons, List.forIn_nil]
theorem eqT3d (d : Nat) (a b c : Bool) (w : World) : (Op.equalIn (d + 2) 39 (.agg #[.bool a, .bool b, .bool c]) (.agg #[.bool true, .bool true, .bool true])).run Try.prog w = .ok (a && (b && c)) w := by
  have hu : Try.prog.underlying 39 = some (.array 3 4) := by kernel_rfl
  have hi : Try.prog.underlying 4 = some .bool := by kernel_rfl
  have hs : ∀ w, (sizeOf 4).run Try.prog w = .ok 1 w := fun w => by kernel_rfl
  cases a with
  | false => simp [Op.equalIn, run_underlying hu, run_underlying hi, hs, go_sem, part, Std.Legacy.Range.forIn_eq_forIn_range', Std.Legacy.Range.size, List.range'_succ, List.range'_zero, List.forIn_cons, List.forIn_nil]
  | true =>
    cases b with
    | false => simp [Op.equalIn, run_underlying hu, run_underlying hi, hs, go_sem, part, Std.Legacy.Range.forIn_eq_forIn_range', Std.Legacy.Range.size, List.range'_succ, List.range'_zero, List.forIn_cons, List.forIn_nil]
    | true =>
      cases c with
      | false => simp [Op.equalIn, run_underlying hu, run_underlying hi, hs, go_sem, part, Std.Legacy.Range.forIn_eq_forIn_range', Std.Legacy.Range.size, List.range'_succ, List.range'_zero, List.forIn_cons, List.forIn_nil]
      | true => simp [Op.equalIn, run_underlying hu, run_underlying hi, hs, go_sem, part, Std.Legacy.Range.forIn_eq_forIn_range', Std.Legacy.Range.size, List.range'_succ, List.range'_zero, List.forIn_cons, List.forIn_nil]
theorem eqS3d (d : Nat) (a b c : Bool) (w : World) : (Op.equalIn (d + 2) 39 (.agg #[.bool a, .bool b, .bool c]) (.agg #[.bool a, .bool b, .bool c])).run Try.prog w = .ok true w := by
  have hu : Try.prog.underlying 39 = some (.array 3 4) := by kernel_rfl
  have hi : Try.prog.underlying 4 = some .bool := by kernel_rfl
  have hs : ∀ w, (sizeOf 4).run Try.prog w = .ok 1 w := fun w => by kernel_rfl
  simp [Op.equalIn, run_underlying hu, run_underlying hi, hs, go_sem, part, Std.Legacy.Range.forIn_eq_forIn_range', Std.Legacy.Range.size, List.range'_succ, List.range'_zero, List.forIn_cons, List.forIn_nil]
theorem eqF3 (a b c : Bool) (w : World) : (Op.equalIn 10000 39 (.agg #[.bool a, .bool b, .bool c]) (.agg #[.bool false, .bool false, .bool false])).run Try.prog w = .ok (!(a || (b || c))) w := eqF3d 9998 a b c w
theorem eqT3 (a b c : Bool) (w : World) : (Op.equalIn 10000 39 (.agg #[.bool a, .bool b, .bool c]) (.agg #[.bool true, .bool true, .bool true])).run Try.prog w = .ok (a && (b && c)) w := eqT3d 9998 a b c w
theorem eqS3 (a b c : Bool) (w : World) : (Op.equalIn 10000 39 (.agg #[.bool a, .bool b, .bool c]) (.agg #[.bool a, .bool b, .bool c])).run Try.prog w = .ok true w := eqS3d 9998 a b c w
theorem eqB3_guard (a b c x y z : Bool) (op : BinOp) (p q : Operand) (w : World) : (eqGuard op 39 p q (.agg #[.bool a, .bool b, .bool c]) (.agg #[.bool x, .bool y, .bool z])).run Try.prog w = .ok () w := run_eqGuard_agg w op _ _ _ _ _ (by kernel_rfl)
end Go.Proofs.Sky

namespace Go.Proofs.Sky
open Go Go.RowKit Go.Shelf
set_option maxHeartbeats 4000000
set_option maxRecDepth 8000
/-! chapter 26: a copy of parts -/
theorem own0 {e : TypeId} (W : World) (n : Nat) (h : W.heap.size = n) : (W.alloc (.cells #[] e)).ownsRow n e 1 (.slice (some ⟨n, 0, none⟩) 0 0) ([] : List Int).length (([] : List Int).map (Value.int .i64)) := by
  subst h
  exact World.ownsRow_lit W #[] 0 (Nat.le_refl _) (by unfold maxLen; omega) (by simp)
theorem Clone26_any (zs : List Int) (v : Value) (w : World) (hv : RdI w v zs) (hn : zs.length ≤ 100000) :
    Calls Try.prog 42 #[v] w fun e w' => (∃ v', e = .returned v' ∧ RdN w' w.heap.size v' zs) ∧ Bw w w' := by
  have HV := Lib.hid hv
  obtain ⟨A, cap, rfl⟩ := hv.form
  have heq := fun W => Lib.run_eql_slice_nil (P := Try.prog) W 40 3 A zs.length cap 0 0 Try.underlying40
  cases A with
  | none =>
    have hz : zs = [] := by
      obtain ⟨_, a, c, e, h4⟩ := hv
      rcases h4 with h4 | ⟨b, off, h5, _⟩
      · exact h4
      · injection e with e1; rw [h5] at e1; cases e1
    subst hz
    simp only [Option.isNone_none, List.length_nil] at heq
    go_enter Try.func42, Try.ntmps42
    go_wp2
    refine bodyPost_ret (v := .slice none 0 0) ?_ rfl ⟨⟨_, rfl, RdN.nil _ _⟩, Bw.refl _⟩
    simp [results, Try.results42, go_sem]
  | some ad =>
    clear hv
    simp only [Option.isNone_some] at heq
    go_enter Try.func42, Try.ntmps42
    go_wp2_with (at_builtin; go_loud (refine wpList_append_int rfl (.tmp 5) (.tmp 6) _ rfl w.heap.size 3 Try.underlying40 infoInt _ [] zs rfl (own0 (e := 3) w w.heap.size rfl) (some ad) zs.length cap rfl (HV.out.mono (Bw.alloc (Bw.refl w) _)) (by simp; omega) (by simp) ?_; intro v0 w0 hown hgr; have hb0 : Bw w w0 := Bw.grownN rfl (Bw.alloc (Bw.refl _) _) (own0 (e := 3) w w.heap.size rfl) hgr; have HO := Lib.hid hown; clear hown hgr))
    go_ret
    have h9 := HO.out
    simp only [List.nil_append] at h9
    have h8 := own_rd h9 (by omega)
    exact ⟨⟨_, rfl, RdN.of h8.1 (own_capd h9) h8.2⟩, hb0⟩
end Go.Proofs.Sky

namespace Go.Proofs.Sky
open Go Go.RowKit Go.Shelf
set_option maxHeartbeats 4000000
set_option maxRecDepth 8000
/-! chapter 26: own -/
theorem own26_any (h : Nat → Bool) (is pr : Int) (D : Nat → Value) (Z : Nat → List Int) (w : World) (hD : ∀ j, j < 3 → RdI w (D j) (Z j) ∧ (Z j).length ≤ 100000) :
    Calls Try.prog 41 #[.agg (ptV h is pr D)] w fun e w' => (∃ D', e = .returned (.agg (ptV h is pr D')) ∧ ∀ j, j < 3 → RdN w' w.heap.size (D' j) (Z j)) ∧ Bw w w' := by
  have CL := Lib.hid (fun zs v W h1 h2 => Clone26_any zs v W h1 h2)
  have HD := Lib.hid hD
  clear hD
  have HBW := Lib.hid (Bw.alloc (Bw.alloc (Bw.refl w) (.cells (ptV h is pr D) 43)) (.cells #[.bool false, .bool false, .bool false, .int .i64 0, .int .i64 0, .slice none 0 0, .slice none 0 0, .slice none 0 0] 43))
  have KP := Lib.hid ((Blk.new w 43 (ptV h is pr D)).alloc (.cells #[.bool false, .bool false, .bool false, .int .i64 0, .int .i64 0, .slice none 0 0, .slice none 0 0, .slice none 0 0] 43))
  have KR : Hid (Blk ((w.alloc (.cells (ptV h is pr D) 43)).alloc (.cells #[.bool false, .bool false, .bool false, .int .i64 0, .int .i64 0, .slice none 0 0, .slice none 0 0, .slice none 0 0] 43)) (w.heap.size + 1) 43 #[.bool false, .bool false, .bool false, .int .i64 0, .int .i64 0, .slice none 0 0, .slice none 0 0, .slice none 0 0]) := Lib.hid (by have h9 := Blk.new (w.alloc (.cells (ptV h is pr D) 43)) 43 #[.bool false, .bool false, .bool false, .int .i64 0, .int .i64 0, .slice none 0 0, .slice none 0 0, .slice none 0 0]; simp only [World.size_alloc] at h9; exact h9)
  have HSZ : Hid (∀ D', (Try.prog.info? 43).map (·.size) = some (ptV h is pr D').size) := Lib.hid (fun D' => by kernel_rfl)
  go_enter Try.func41, Try.ntmps41
  go_upto_region 1 with fail
  obtain ⟨W0, hW0⟩ : ∃ W0, (w.alloc (.cells (ptV h is pr D) 43)).alloc (.cells #[.bool false, .bool false, .bool false, .int .i64 0, .int .i64 0, .slice none 0 0, .slice none 0 0, .slice none 0 0] 43) = W0 := ⟨_, rfl⟩
  rw [hW0] at HBW KP KR ⊢
  clear hW0
  go_wp2
  go_loopg [4] 3 (fun gg s4 wr => ∃ k : Nat, k ≤ 3 ∧ 3 - k ≤ gg ∧ s4 = .int .i64 k ∧ Hid (Bw w wr) ∧ Hid (Blk wr (w.heap.size + 1) 43 #[.bool false, .bool false, .bool false, .int .i64 0, .int .i64 0, .slice none 0 0, .slice none 0 0, .slice none 0 0]) ∧ ∃ D', Hid (Blk wr w.heap.size 43 (ptV h is pr D')) ∧ Hid (∀ j, j < 3 → (j < k → RdN wr (w.heap.size + 2) (D' j) (Z j)) ∧ (k ≤ j → D' j = D j)))
  case atStart => exact ⟨0, by omega, by omega, rfl, HBW, KR, D, KP, Lib.hid (fun j hj => ⟨fun h9 => absurd h9 (by omega), fun _ => rfl⟩)⟩
  case round =>
    obtain ⟨k, hk, hgg, rfl, HW, KR2, D', KP2, HR⟩ := hrel
    obtain ⟨wa, rfl⟩ : ∃ wa, wa = wr := ⟨_, rfl⟩
    by_cases hlt : k < 3
    · have hkz : (k : Int) < 3 := by omega
      have hk0 : (0 : Int) ≤ k := by omega
      have cx := KP2.out.cell (ptV_D h is pr D' k hlt)
      have hfz := KP2.out.frozen (5 + k)
      have hdk := (HR.out k hlt).2 (Nat.le_refl k)
      rw [hdk] at cx
      have CLK := Lib.hid (fun W (p : Bw w W) => CL.out (Z k) (D k) W ((HD.out k hlt).1.mono p) (HD.out k hlt).2)
      clear hdk
      go_wp2_with (go_at_call 42; (with_reducible refine Calls.mono (CLK.out _ HW.out) ?_); rintro e1 w1 ⟨⟨v1, rfl, hr1⟩, hb9⟩; obtain ⟨a1, c1, rfl⟩ := hr1.1.form; have HN1 := Lib.hid (hr1.down (show w.heap.size + 2 ≤ wa.heap.size from KR2.out.lt)); replace HW := Lib.hid (HW.out.trans hb9); replace KP2 := Lib.hid (KP2.out.bw hb9); replace KR2 := Lib.hid (KR2.out.bw hb9); replace HR := Lib.hid (fun j hj => And.intro (fun h9 => ((HR.out j hj).1 h9).bw hb9) (HR.out j hj).2); clear hr1 hb9 cx hfz; have cx := KP2.out.cell (ptV_D h is pr D' k hlt); have hfz := KP2.out.frozen (5 + k))
      have KP3 := KP2.out.set (5 + k) (.slice a1 (Z k).length c1)
      rw [ptV_setD h is pr D' k hlt] at KP3
      have KR3 := KR2.out.set_other (b := w.heap.size) (by omega) (5 + k) (.slice a1 (Z k).length c1)
      have HW3 := Bw.setCell HW.out (p := ⟨w.heap.size, 5 + k, none⟩) (Nat.le_refl _) (.slice a1 (Z k).length c1)
      have HR3 : ∀ j, j < 3 → (j < k + 1 → RdN (w1.setCell ⟨w.heap.size, 5 + k, none⟩ (.slice a1 (Z k).length c1)) (w.heap.size + 2) (upN D' k (.slice a1 (Z k).length c1) j) (Z j)) ∧ (k + 1 ≤ j → upN D' k (.slice a1 (Z k).length c1) j = D j) := fun j hj => by
        unfold upN
        by_cases e : j = k
        · subst e
          rw [if_pos rfl]
          exact ⟨fun _ => HN1.out.set (by omega) _ _, fun h9 => absurd h9 (by omega)⟩
        · rw [if_neg e]
          exact ⟨fun h9 => ((HR.out j hj).1 (by omega)).set (by omega) _ _, fun h9 => (HR.out j hj).2 (by omega)⟩
      go_roundg (3 - (k + 1))
      case measure => omega
      case rel => exact ⟨k + 1, by omega, by omega, by go_num, Lib.hid HW3, Lib.hid KR3, _, Lib.hid KP3, Lib.hid HR3⟩
    · obtain rfl : k = 3 := by omega
      have hkz : ¬ ((3 : Nat) : Int) < 3 := by omega
      have HONE : Hid ((ptV h is pr D').all (·.oneCell') = true) := Lib.hid (by
        have q := fun j (hj : j < 3) => ((HR.out j hj).1 hj).1.form
        obtain ⟨x0, y0, e0⟩ := q 0 (by omega)
        obtain ⟨x1, y1, e1⟩ := q 1 (by omega)
        obtain ⟨x2, y2, e2⟩ := q 2 (by omega)
        unfold ptV
        rw [e0, e1, e2]
        simp [Value.oneCell'])
      go_wp2_with (first | ((with_reducible refine at_load 43 (.tmp 1) ?_); refine wpList_load_row rfl 43 _ rfl w.heap.size rfl 43 _ (0, 0) _ KP2.out Try.underlying43 rfl (HSZ.out D') ?_) | ((with_reducible refine at_store 43 (.tmp 2) (.tmp 16) ?_); refine wpList_store_row rfl 43 (.tmp 2) (.tmp 16) rfl (w.heap.size + 1) (ptV h is pr D') rfl rfl 43 _ KR2.out (HSZ.out D') rfl HONE.out ?_))
      have F9 := KR2.out.row (ptV h is pr D')
      have B9 := Bw.setRow HW.out (show w.heap.size ≤ w.heap.size + 1 by omega) (ptV h is pr D')
      have K9 := Kx.row KR2.out.lt (ptV h is pr D')
      refine bodyPost_ret (v := .agg (ptV h is pr D')) ?_ rfl ⟨⟨D', rfl, fun j hj => (((HR.out j hj).1 hj).kx K9 (by omega)).down (by omega)⟩, B9⟩
      exact res_part (p := 2) rfl _ _ _ _ rfl rfl F9
end Go.Proofs.Sky

namespace Go.Proofs.Sky
open Go Go.RowKit Go.Shelf
set_option maxHeartbeats 4000000
set_option maxRecDepth 8000
/-! chapter 26: sound -/
theorem zE_V : eV zE = #[.int .i64 0, .int .i64 0, .int .i64 0, .int .i64 0, .int .i64 0, .int .i64 0, .int .i64 0, .int .i64 0, .int .i64 0, .int .i64 0, .int .i64 0, .int .i64 0, .int .i64 0, .int .i64 0, .int .i64 0, .int .i64 0, .int .i64 0, .int .i64 0, .int .i64 0] := rfl
theorem dec_and {a b : Int} (h : a = 0) : decide (a = 0 ∧ b = 0) = (b == 0) := by
  by_cases q2 : b = 0
  · simp [h, q2]
  · simp [h, q2]
theorem idx3 (h : Nat → Bool) (k : Nat) (hk : k < 3) (w : World) : (Instr.index 39 (.agg #[.bool (h 0), .bool (h 1), .bool (h 2)]) (.int .i64 k)).run Try.prog w = .ok (.bool (h k)) w := by
  match k, hk with
  | 0, _ => rfl
  | 1, _ => rfl
  | 2, _ => rfl
theorem sound26_any (p : Pm) (D : Nat → Value) (w : World) (hD : ∀ j, j < 3 → RdI w (D j) (p.Z j) ∧ Capd (D j)) :
    Calls Try.prog 40 #[.agg (ptV p.h p.is p.pr D)] w fun e w' => e = .returned (.bool (sndP p)) ∧ Bw w w' := by
  have FL := Lib.hid (fun g y kind zs v W h1 h2 h3 => fill_any g y kind zs v W h1 h2 h3)
  unfold FillP at FL
  have HD := Lib.hid hD
  clear hD
  have HNO := Lib.hid (fun k hk h9 => sndP_no (p := p) (k := k) hk h9)
  have HEN := Lib.hid (fun h9 => sndP_end (p := p) h9)
  generalize sndP p = S at *
  obtain ⟨h, is, pr, Z⟩ := p
  dsimp only at HD HNO HEN ⊢
  have HBW := Lib.hid (Bw.alloc (Bw.refl w) (.cells (ptV h is pr D) 43))
  have KP := Lib.hid (Blk.new w 43 (ptV h is pr D))
  go_enter Try.func40, Try.ntmps40
  go_upto_region 1 with fail
  obtain ⟨W0, hW0⟩ : ∃ W0, w.alloc (.cells (ptV h is pr D) 43) = W0 := ⟨_, rfl⟩
  rw [hW0] at HBW KP ⊢
  clear hW0
  obtain ⟨g, hg⟩ : ∃ g, w.heap.size = g := ⟨_, rfl⟩
  rw [hg] at KP ⊢
  have HG0 := Lib.hid hg
  clear hg
  have c0 := KP.out.cell (ptV_h h is pr D 0 (by omega))
  have c1 := KP.out.cell (ptV_h h is pr D 1 (by omega))
  have c2 := KP.out.cell (ptV_h h is pr D 2 (by omega))
  go_wp2
  clear c0 c1 c2
  go_loopg [3, 9] 3 (fun gg s3 s9 wr => ∃ k : Nat, k ≤ 3 ∧ 3 - k ≤ gg ∧ s9 = .int .i64 k ∧ s3 = .bool (anyU h k) ∧ Hid (Bw W0 wr) ∧ Hid (∀ j, j < k → sndK (h j) is pr (Z j) j = true))
  case atStart => exact ⟨0, by omega, by omega, rfl, rfl, Lib.hid (Bw.refl _), Lib.hid (fun j h9 => absurd h9 (by omega))⟩
  case round =>
    obtain ⟨k, hk, hgg, rfl, rfl, HW, HI⟩ := hrel
    obtain ⟨wa, rfl⟩ : ∃ wa, wa = wr := ⟨_, rfl⟩
    have KQ := Lib.hid (KP.out.bw HW.out)
    have c3 := KQ.out.cell (ptV_is h is pr D)
    have c4 := KQ.out.cell (ptV_pr h is pr D)
    by_cases hlt : k < 3
    · have HNK := Lib.hid (HNO.out k hlt)
      have HIN := Lib.hid (fun h9 : sndK (h k) is pr (Z k) k = true => (fun j (hj : j < k + 1) => (by
        rcases Nat.lt_succ_iff_lt_or_eq.1 hj with h8 | rfl
        · exact HI.out j h8
        · exact h9) : ∀ j, j < k + 1 → sndK (h j) is pr (Z j) j = true))
      have HDK := Lib.hid (And.intro ((HD.out k hlt).1.mono (HBW.out.trans HW.out)) (HD.out k hlt).2)
      obtain ⟨a9, cap9, hv9⟩ := HDK.out.1.form
      rw [hv9] at HDK
      have HAU := Lib.hid (show anyU h (k + 1) = (anyU h k || h k) from rfl)
      have KE := Lib.hid (Blk.new wa 25 (eV zE))
      have hba := Bw.alloc (Bw.refl wa) (.cells (eV zE) 25)
      have hlv := HDK.out.1.1
      rw [zE_V] at hba
      obtain ⟨n, hn⟩ : ∃ n, n = (Z k).length := ⟨_, rfl⟩
      rw [← hn] at hlv
      have HNN := Lib.hid hn
      clear hn
      have hix := fun W => idx3 h k hlt W
      clear c3 c4
      go_upto_region 6 with fail
      obtain ⟨ge, hge⟩ : ∃ ge, wa.heap.size = ge := ⟨_, rfl⟩
      rw [zE_V, hge] at KE
      have HGE := Lib.hid (show g < ge by have := KQ.out.lt; omega)
      have HGW0 := Lib.hid (show W0.heap.size ≤ ge by have := HW.out.size; omega)
      have HGW := Lib.hid (show w.heap.size ≤ ge by have := (HBW.out.trans HW.out).size; omega)
      rw [hge]
      obtain ⟨W1, hW1⟩ : ∃ W1, wa.alloc (.cells #[.int .i64 0, .int .i64 0, .int .i64 0, .int .i64 0, .int .i64 0, .int .i64 0, .int .i64 0, .int .i64 0, .int .i64 0, .int .i64 0, .int .i64 0, .int .i64 0, .int .i64 0, .int .i64 0, .int .i64 0, .int .i64 0, .int .i64 0, .int .i64 0, .int .i64 0] 25) = W1 := ⟨_, rfl⟩
      rw [hW1] at KE hba ⊢
      clear hW1 hge
      rw [← zE_V] at KE
      have HW1 := Lib.hid (HW.out.trans hba)
      have KQ1 := Lib.hid (KQ.out.bw hba)
      replace HDK := Lib.hid (And.intro (HDK.out.1.mono hba) HDK.out.2)
      have c3 := KQ1.out.cell (ptV_is h is pr D)
      have c4 := KQ1.out.cell (ptV_pr h is pr D)
      have cD := KQ1.out.cell (ptV_D h is pr D k hlt)
      rw [hv9, HNN.out.symm] at cD
      clear hba KQ
      cases hhk : h k with
      | false =>
        by_cases hz : 0 < n
        · have hzz : (0 : Int) < n := by omega
          have HG := Lib.hid (HNK.out (by unfold sndK; rw [hhk]; exact decide_eq_false (by have := HNN.out; omega)))
          go_wp2
          go_ret
          exact ⟨ret_bool HG.out.symm, HBW.out.trans HW1.out⟩
        · have hzz : ¬ (0 : Int) < n := by omega
          have HG := Lib.hid (HIN.out (by unfold sndK; rw [hhk]; exact decide_eq_true (by have := HNN.out; omega)))
          have HAK := Lib.hid (show anyU h k = anyU h (k + 1) by rw [HAU.out, hhk, Bool.or_false])
          go_wp2
          go_roundg (3 - (k + 1))
          case measure => omega
          case rel => exact ⟨k + 1, by omega, by omega, by go_num, by rw [← HAK.out], HW1, HG.out⟩
      | true =>
        have HFB := Lib.hid (fillB_rok hlt (Z k))
        have HFX := Lib.hid (fun h9 => fill_is hlt zE (zs := Z k) h9)
        have FLK := FL.out ge zE ((k : Int) + 1) (Z k) (.slice a9 (Z k).length cap9) W1 KE.out HDK.out.1 HDK.out.2
        have FLK := Lib.hid FLK
        rw [← HNN.out, HFB.out] at FLK
        have HSK : Hid (sndK (h k) is pr (Z k) k = (rokV (Z k) ((k : Int) + 1) && decide (rvX (Z k) k 0 = is ∧ rvX (Z k) k 1 = pr))) := Lib.hid (by unfold sndK; rw [hhk]; rfl)
        clear HFB
        generalize rokV (Z k) ((k : Int) + 1) = R at *
        generalize fillX zE ((k : Int) + 1) (Z k) = X at *
        have HAK := Lib.hid (show (true : Bool) = anyU h (k + 1) by rw [HAU.out, hhk, Bool.or_true])
        cases R with
        | false =>
          have HG := Lib.hid (HNK.out (by rw [HSK.out]; rfl))
          go_wp2_with (go_at_call 37; (with_reducible refine Calls.mono FLK.out ?_); rintro e1 w2 ⟨rfl, hk9, hb9⟩)
          go_ret
          exact ⟨ret_bool HG.out.symm, hk9.bw (HBW.out.trans HW1.out) HGW.out⟩
        | true =>
          obtain ⟨x1, x0⟩ := HFX.out rfl
          rw [← x1, ← x0] at HSK
          clear x1 x0 HFX
          go_upto_region 9 with (go_at_call 37; (with_reducible refine Calls.mono FLK.out ?_); rintro e1 w2 ⟨rfl, hk9, hb9⟩)
          have HW2 := Lib.hid (hk9.bw (HBW.out.trans HW1.out) HGW.out)
          have HW3 := Lib.hid (hk9.bw HW1.out HGW0.out)
          have k3 := (hk9.blk KQ1.out (by have := HGE.out; omega)).cell (ptV_is h is pr D)
          have k4 := (hk9.blk KQ1.out (by have := HGE.out; omega)).cell (ptV_pr h is pr D)
          have e0 := hb9.cell (eV_at X 0 (by omega))
          have e1 := hb9.cell (eV_at X 1 (by omega))
          clear hk9 hb9 c3 c4 cD
          generalize X 0 = x0 at *
          generalize X 1 = x1 at *
          by_cases q1 : x1 = is
          · have q1b : (x1 != is) = false := by simpa using q1
            by_cases q2 : x0 = pr
            · have q2b : (x0 != pr) = false := by simpa using q2
              have HG := Lib.hid (HIN.out (by rw [HSK.out, Bool.true_and]; exact decide_eq_true ⟨q1, q2⟩))
              clear q1 q2
              go_wp2
              go_roundg (3 - (k + 1))
              case measure => omega
              case rel => exact ⟨k + 1, by omega, by omega, by go_num, by rw [← HAK.out], HW3, HG.out⟩
            · have q2b : (x0 != pr) = true := by simpa using q2
              have HG := Lib.hid (HNK.out (by rw [HSK.out, Bool.true_and]; exact decide_eq_false (fun h9 => q2 h9.2)))
              clear q1 q2
              go_wp2
              go_ret
              exact ⟨ret_bool HG.out.symm, HW2.out⟩
          · have q1b : (x1 != is) = true := by simpa using q1
            have HG := Lib.hid (HNK.out (by rw [HSK.out, Bool.true_and]; exact decide_eq_false (fun h9 => q1 h9.1)))
            clear q1
            go_wp2
            go_ret
            exact ⟨ret_bool HG.out.symm, HW2.out⟩
    · obtain rfl : k = 3 := by omega
      have hkz : ¬ ((3 : Nat) : Int) < 3 := by omega
      have HG0 := Lib.hid (HEN.out HI.out)
      replace HBW := Lib.hid (HBW.out.trans HW.out)
      cases hau : anyU h 3 with
      | true =>
        have HG := Lib.hid (HG0.out.trans (by rw [hau]; rfl : _ = true))
        go_wp2
        go_ret
        exact ⟨ret_bool HG.out.symm, HBW.out⟩
      | false =>
        rw [hau, Bool.false_or] at HG0
        by_cases q1 : is = 0
        · have q1b : (is == 0) = true := by simpa using q1
          have HG := Lib.hid (HG0.out.trans (dec_and q1))
          clear q1
          go_wp2
          go_ret
          exact ⟨ret_bool HG.out.symm, HBW.out⟩
        · have q1b : (is == 0) = false := by simpa using q1
          have HG := Lib.hid (HG0.out.trans (show decide (is = 0 ∧ pr = 0) = false from decide_eq_false (fun h9 => q1 h9.1)))
          clear q1
          go_wp2
          go_ret
          exact ⟨ret_bool HG.out.symm, HBW.out⟩
end Go.Proofs.Sky
