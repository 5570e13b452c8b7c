/-
  lemmas for the theorems of this claim. No conditions beyond those written in the statements.
-/
import Derived.Test.YtpmopobjlpfdaaaDoorA40
import Derived.Test.YtpmopobjlpfdaaaDoorKxC
import Derived.Test.YtpmopobjlpfdaaaDoorBlkC
import Derived.Deep.CutBlock
import Derived.Deep.MidRow
import Derived.Test.YtpmopobjlpfdaaaDoorFD27
set_option linter.unusedVariables false
set_option linter.unusedSimpArgs false
set_option linter.unnecessarySimpa false
namespace Go.Proofs.Sky
open Go Go.RowKit Go.Shelf
set_option maxHeartbeats 4000000
set_option maxRecDepth 8000
/-! chapter 40: a question in memory: 33 numbers -/
def qV (x : Nat → Int) : Array Value := ((List.range 33).map fun i => Value.int .i64 (x i)).toArray
theorem qV_at (x : Nat → Int) (k : Nat) (h : k < 33) : (qV x)[k]? = some (.int .i64 (x k)) := by
  unfold qV
  rw [List.getElem?_toArray, List.getElem?_map, List.getElem?_range h]; rfl
def upX (x : Nat → Int) (j : Nat) (v : Int) : Nat → Int := fun i => if i = j then v else x i
theorem upX_same (x : Nat → Int) (j : Nat) (v : Int) : upX x j v j = v := if_pos rfl
theorem upX_ne (x : Nat → Int) {i j : Nat} (v : Int) (h : i ≠ j) : upX x j v i = x i := if_neg h
theorem qV_set (x : Nat → Int) (j : Nat) (v : Int) : (qV x).setIfInBounds j (.int .i64 v) = qV (upX x j v) := by
  apply Array.ext_getElem?
  intro i
  rw [Array.getElem?_setIfInBounds]
  unfold qV
  rw [List.size_toArray, List.length_map, List.length_range, List.getElem?_toArray, List.getElem?_map, List.getElem?_toArray, List.getElem?_map]
  by_cases h : j = i
  · subst h
    rw [if_pos rfl]
    by_cases h2 : j < 33
    · rw [if_pos h2, List.getElem?_range h2]; simp [upX]
    · rw [if_neg h2, List.getElem?_eq_none (by simpa using h2)]; rfl
  · rw [if_neg h]
    by_cases h2 : i < 33
    · rw [List.getElem?_range h2]; simp [upX, Ne.symm h]
    · rw [List.getElem?_eq_none (by simpa using h2)]; rfl
def QBlk (w : World) (g : Nat) (x : Nat → Int) : Prop := Blk w g 56 (qV x)
theorem QBlk.at {w : World} {g : Nat} {x : Nat → Int} (h : QBlk w g x) (k : Nat) (hk : k < 33) : w.cell? ⟨g, k, none⟩ = some (.int .i64 (x k)) := Blk.cell h (qV_at x k hk)
theorem QBlk.fz {w : World} {g : Nat} {x : Nat → Int} (h : QBlk w g x) (k : Nat) : w.frozen? ⟨g, k, none⟩ = false := Blk.frozen h k
theorem QBlk.bw {w w' : World} {g : Nat} {x : Nat → Int} (h : QBlk w g x) (hb : Bw w w') : QBlk w' g x := Blk.bw h hb
theorem QBlk.lt {w : World} {g : Nat} {x : Nat → Int} (h : QBlk w g x) : g < w.heap.size := Blk.lt h
theorem QBlk.set {w : World} {g : Nat} {x : Nat → Int} (h : QBlk w g x) (j : Nat) (v : Int) : QBlk (w.setCell ⟨g, j, none⟩ (.int .i64 v)) g (upX x j v) := by
  have h9 := Blk.set h j (.int .i64 v)
  rw [qV_set] at h9
  exact h9
theorem QBlk.rg3 {w : World} {g : Nat} {x : Nat → Int} (h : QBlk w g x) (j : Nat) (hj : j + 3 ≤ 33) : w.rangeAt g j [.int .i64 (x j), .int .i64 (x (j + 1)), .int .i64 (x (j + 2))] := fun i u hu => by
  have hi : i < 3 := (List.getElem?_eq_some_iff.1 hu).1
  match i, hi with
  | 0, _ => simp at hu; subst hu; exact h.at j (by omega)
  | 1, _ => simp at hu; subst hu; exact h.at (j + 1) (by omega)
  | 2, _ => simp at hu; subst hu; exact h.at (j + 2) (by omega)
theorem QBlk.pg {w : World} {g : Nat} {x : Nat → Int} (h : QBlk w g x) : w.rangeAt g 0 (pgV x).toList := fun i u hu => by
  have hi : i < 13 := (List.getElem?_eq_some_iff.1 hu).1
  have h9 : (pgV x)[i]? = some u := by simpa using hu
  rw [pgV_at x i hi] at h9
  injection h9 with h9
  subst h9
  rw [Nat.zero_add]
  exact h.at i (by omega)
theorem rg_bw9 {w w' : World} {b o : Nat} {cs : List Value} (h : w.rangeAt b o cs) (hb : Bw w w') : w'.rangeAt b o cs := fun j u hu => hb.cell' (h j u hu)
theorem blk_there {w : World} {g : Nat} {T : TypeId} {cs : Array Value} (h : Blk w g T cs) {o n : Nat} (hn : o + n ≤ cs.size) : w.there g o n := fun j hj =>
  ⟨by rw [h.cell (Array.getElem?_eq_getElem (show o + j < cs.size by omega))]; rfl, h.frozen _⟩
theorem qV_size (x : Nat → Int) : (qV x).size = 33 := by unfold qV; simp
theorem QBlk.there {w : World} {g : Nat} {x : Nat → Int} (h : QBlk w g x) {o n : Nat} (hn : o + n ≤ 33) : w.there g o n := blk_there h (by rw [qV_size]; exact hn)
theorem QBlk.set3 {w : World} {g : Nat} {x : Nat → Int} (h : QBlk w g x) (j : Nat) (a b c : Int) : QBlk (w.setCells g j [.int .i64 a, .int .i64 b, .int .i64 c]) g (upX (upX (upX x j a) (j + 1) b) (j + 2) c) := ((h.set j a).set (j + 1) b).set (j + 2) c
theorem Kx.set3 {g : Nat} {w : World} (hg : g < w.heap.size) (j : Nat) (a b c : Value) : Kx g w (w.setCells g j [a, b, c]) := ((Kx.set (j := j) hg a).trans (Kx.set (j := j + 1) (by simpa using hg) b)).trans (Kx.set (j := j + 2) (by simpa using hg) c)
theorem WdAt.kx {w w' : World} {g : Nat} (h : WdAt w) (hk : Kx g w w') (hg : 0 < g) : WdAt w' := ⟨Nat.lt_of_lt_of_le h.1 hk.size, fun j v hv => by rw [World.cell?_of_block (hk.oth 0 h.1 (by omega))]; exact h.2 j v hv⟩
theorem wp_store_mid0 {P : Program} {op : Oper} {a : Act} {w : World} {K : Act → World → Prop} {Q : Exit → Act → World → Prop} (ty : TypeId) (x y : Operand) (ho : op.op = .store ty x y) (hd : op.dst = none)
    (b o : Nat) (cells : Array Value) (hx : a.eval x = .pointer (some ⟨b, o, none⟩)) (hy : a.eval y = .agg cells)
    (ht : w.there b o cells.size) (hi : (P.info? ty).map (·.size) = some cells.size) (h1 : cells.all (·.oneCell') = true)
    (h : K a (w.setCells b o cells.toList)) : op.wp P a w K Q :=
  wp_store_mid ty x y ho b o cells hx hy ht hi h1 (by rw [hd]; exact h)
theorem run_load_3q {o : Oper} {ρ : Operand → Value} (x : Operand) (ho : o.op = .load 27 x) {w : World} (g b : Nat) (hx : ρ x = .pointer (some ⟨g, b, none⟩)) {x0 x1 x2 : Int} (hB : w.rangeAt g b [.int .i64 x0, .int .i64 x1, .int .i64 x2]) : (execOp ρ o).run Tryd.prog w = .ok (.value (.agg #[.int .i64 x0, .int .i64 x1, .int .i64 x2])) w := by
  have h9 : (Instr.loadAt 27 (.pointer (some ⟨g, b, none⟩))).run Tryd.prog w = .ok (.agg #[.int .i64 x0, .int .i64 x1, .int .i64 x2]) w := run_loadAt_mid w g b 27 _ _ hB Tryd.underlying27 rfl (by kernel_rfl)
  unfold execOp
  simp only [ho, hx, Sem.run_bind, Sem.run_pure, Result.andThen_ok, h9]
theorem upX_id (x : Nat → Int) (j : Nat) (v : Int) (h : x j = v) : upX x j v = x := by
  funext i
  unfold upX
  split
  · rename_i h2; rw [h2, h]
  · rfl
def szOk (n : Int) : Bool := decide (szW n ≤ 100000000)
def inR (n lo hi : Int) : Bool := decide (lo ≤ n ∧ n ≤ hi)
def rgB (x : Nat → Int) : Bool := (szOk (x 13) && szOk (x 14) && szOk (x 15)) && (inR (x 16) 0 10000000 && inR (x 17) 0 604799 && inR (x 18) 0 600 && inR (x 19) 0 1000000000 && inR (x 20) 1 8192)
end Go.Proofs.Sky

namespace Go.Proofs.Sky
open Go Go.RowKit Go.Shelf
attribute [local go_sem] Oper.semAt_some
set_option maxHeartbeats 4000000
set_option maxRecDepth 8000
/-! chapter 40: ranged -/
theorem idx3 (a b c : Int) (k : Nat) (hk : k < 3) (w : World) : (Instr.index 27 (.agg #[.int .i64 a, .int .i64 b, .int .i64 c]) (.int .i64 k)).run Tryd.prog w = .ok (.int .i64 ([a, b, c].getD k 0)) w := by
  rcases (by omega : k = 0 ∨ k = 1 ∨ k = 2) with rfl | rfl | rfl
  · show (Instr.index 27 (.agg #[.int .i64 a, .int .i64 b, .int .i64 c]) (.int .i64 0)).run Tryd.prog w = .ok (.int .i64 a) w
    kernel_rfl
  · show (Instr.index 27 (.agg #[.int .i64 a, .int .i64 b, .int .i64 c]) (.int .i64 1)).run Tryd.prog w = .ok (.int .i64 b) w
    kernel_rfl
  · show (Instr.index 27 (.agg #[.int .i64 a, .int .i64 b, .int .i64 c]) (.int .i64 2)).run Tryd.prog w = .ok (.int .i64 c) w
    kernel_rfl
def lim5 (r t l c m : Int) (k : Nat) : Int × Int × Int := [(r, 0, 10000000), (t, 0, 604799), (l, 0, 600), (c, 0, 1000000000), (m, 1, 8192)].getD k (0, 0, 0)
def lm0 (r t l c m : Int) (k : Nat) : Int := (lim5 r t l c m k).1
def lm1 (r t l c m : Int) (k : Nat) : Int := (lim5 r t l c m k).2.1
def lm2 (r t l c m : Int) (k : Nat) : Int := (lim5 r t l c m k).2.2
theorem lim_rg {w : World} {g : Nat} {r t l c m : Int} (h : Blk w g 27 #[.int .i64 r, .int .i64 0, .int .i64 10000000, .int .i64 t, .int .i64 0, .int .i64 604799, .int .i64 l, .int .i64 0, .int .i64 600, .int .i64 c, .int .i64 0, .int .i64 1000000000, .int .i64 m, .int .i64 1, .int .i64 8192]) (k : Nat) (hk : k < 5) : w.rangeAt g (k * 3) [.int .i64 (lm0 r t l c m k), .int .i64 (lm1 r t l c m k), .int .i64 (lm2 r t l c m k)] := fun j u hu => by
  have hj : j < 3 := (List.getElem?_eq_some_iff.1 hu).1
  match k, hk, j, hj with
  | 0, _, 0, _ | 0, _, 1, _ | 0, _, 2, _ | 1, _, 0, _ | 1, _, 1, _ | 1, _, 2, _ | 2, _, 0, _ | 2, _, 1, _ | 2, _, 2, _ | 3, _, 0, _ | 3, _, 1, _ | 3, _, 2, _ | 4, _, 0, _ | 4, _, 1, _ | 4, _, 2, _ =>
    simp at hu; subst hu; exact h.cell rfl
theorem szOk3 (x : Nat → Int) (h : ∀ k, k < 3 → szW (x (13 + k)) ≤ 100000000) : (szOk (x 13) && szOk (x 14) && szOk (x 15)) = true := by
  have h0 := h 0 (by omega)
  have h1 := h 1 (by omega)
  have h2 := h 2 (by omega)
  unfold szOk
  rw [decide_eq_true h0, decide_eq_true h1, decide_eq_true h2]; rfl
theorem szOk3_no (x : Nat → Int) (k : Nat) (hk : k < 3) (h : ¬ szW (x (13 + k)) ≤ 100000000) : rgB x = false := by
  unfold rgB szOk
  match k, hk with
  | 0, _ => rw [decide_eq_false h]; rfl
  | 1, _ => rw [decide_eq_false h]; simp
  | 2, _ => rw [decide_eq_false h]; simp
theorem inR5 (x : Nat → Int) (h : ∀ k, k < 5 → lm1 (x 16) (x 17) (x 18) (x 19) (x 20) k ≤ lm0 (x 16) (x 17) (x 18) (x 19) (x 20) k ∧ lm0 (x 16) (x 17) (x 18) (x 19) (x 20) k ≤ lm2 (x 16) (x 17) (x 18) (x 19) (x 20) k) : (inR (x 16) 0 10000000 && inR (x 17) 0 604799 && inR (x 18) 0 600 && inR (x 19) 0 1000000000 && inR (x 20) 1 8192) = true := by
  have h0 : 0 ≤ x 16 ∧ x 16 ≤ 10000000 := h 0 (by omega)
  have h1 : 0 ≤ x 17 ∧ x 17 ≤ 604799 := h 1 (by omega)
  have h2 : 0 ≤ x 18 ∧ x 18 ≤ 600 := h 2 (by omega)
  have h3 : 0 ≤ x 19 ∧ x 19 ≤ 1000000000 := h 3 (by omega)
  have h4 : 1 ≤ x 20 ∧ x 20 ≤ 8192 := h 4 (by omega)
  unfold inR
  rw [decide_eq_true h0, decide_eq_true h1, decide_eq_true h2, decide_eq_true h3, decide_eq_true h4]; rfl
theorem inR5_no (x : Nat → Int) (k : Nat) (hk : k < 5) (h : ¬ (lm1 (x 16) (x 17) (x 18) (x 19) (x 20) k ≤ lm0 (x 16) (x 17) (x 18) (x 19) (x 20) k ∧ lm0 (x 16) (x 17) (x 18) (x 19) (x 20) k ≤ lm2 (x 16) (x 17) (x 18) (x 19) (x 20) k)) : rgB x = false := by
  unfold rgB inR
  match k, hk with
  | 0, _ => rw [decide_eq_false (show ¬ (0 ≤ x 16 ∧ x 16 ≤ 10000000) from h)]; simp
  | 1, _ => rw [decide_eq_false (show ¬ (0 ≤ x 17 ∧ x 17 ≤ 604799) from h)]; simp
  | 2, _ => rw [decide_eq_false (show ¬ (0 ≤ x 18 ∧ x 18 ≤ 600) from h)]; simp
  | 3, _ => rw [decide_eq_false (show ¬ (0 ≤ x 19 ∧ x 19 ≤ 1000000000) from h)]; simp
  | 4, _ => rw [decide_eq_false (show ¬ (1 ≤ x 20 ∧ x 20 ≤ 8192) from h)]; simp
theorem ranged40_any (x : Nat → Int) (g : Nat) (w : World) (hq : QBlk w g x) (hu : ∀ k, k < 3 → -4000000000000000000 ≤ x (13 + k) ∧ x (13 + k) ≤ 4000000000000000000) : Calls Tryd.prog 37 #[.pointer (some ⟨g, 0, none⟩)] w fun e w' => e = .returned (.bool (rgB x)) ∧ Bw w w' := by
  have HR := Lib.hid (hq.rg3 13 (by omega))
  have D16 := hq.at 16 (by omega)
  have D17 := hq.at 17 (by omega)
  have D18 := hq.at 18 (by omega)
  have D19 := hq.at 19 (by omega)
  have D20 := hq.at 20 (by omega)
  have HY := Lib.hid (szOk3 x)
  have HYN := Lib.hid (szOk3_no x)
  have HZ := Lib.hid (inR5 x)
  have HZN := Lib.hid (inR5_no x)
  have SZ := Lib.hid (fun k (hk : k < 3) W => size40_any (x (13 + k)) (hu k hk) W)
  have HB := Lib.hid (show rgB x = ((szOk (x 13) && szOk (x 14) && szOk (x 15)) && (inR (x 16) 0 10000000 && inR (x 17) 0 604799 && inR (x 18) 0 600 && inR (x 19) 0 1000000000 && inR (x 20) 1 8192)) from rfl)
  have HID := Lib.hid (fun k (hk : k < 3) W => idx3 (x 13) (x 14) (x 15) k hk W)
  have HGD := Lib.hid (show ∀ k, k < 3 → [x 13, x 14, x 15].getD k 0 = x (13 + k) from fun k hk => by match k, hk with | 0, _ | 1, _ | 2, _ => rfl)
  generalize rgB x = RB at *
  generalize (szOk (x 13) && szOk (x 14) && szOk (x 15)) = RU at *
  generalize (inR (x 16) 0 10000000 && inR (x 17) 0 604799 && inR (x 18) 0 600 && inR (x 19) 0 1000000000 && inR (x 20) 1 8192) = RW at *
  generalize x 16 = r at *
  generalize x 17 = t at *
  generalize x 18 = l at *
  generalize x 19 = c at *
  generalize x 20 = m at *
  have HW := Lib.hid (Bw.refl w)
  have D := Lib.hid (And.intro D16 (And.intro D17 (And.intro D18 (And.intro D19 D20))))
  clear D16 D17 D18 D19 D20 hq
  go_enter Tryd.func37, Tryd.ntmps37
  go_upto_block 0 with ((with_reducible refine at_load 27 (.tmp 9) ?_); refine wpList_load_mid rfl 27 _ rfl g 13 (by simp [Act.eval, Act.put]) _ _ HR.out Tryd.underlying27 rfl (by kernel_rfl) ?_)
  go_wp2_with fail
  go_loopw [11] (fun s11 wr => ∃ k : Nat, k ≤ 3 ∧ s11 = .int .i64 k ∧ (∀ j, j < k → szW (x (13 + j)) ≤ 100000000) ∧ Hid (Bw w wr)) (fun s11 _ => 3 - (intOf s11).toNat)
  case atStart => exact ⟨0, by omega, rfl, fun j hj => absurd hj (by omega), HW⟩
  case round =>
    clear HW
    obtain ⟨k, hk, rfl, hin, HW⟩ := hrel
    have HIN := Lib.hid hin
    clear hin
    obtain ⟨wb, hwb⟩ : ∃ wb, wb = wr := ⟨_, rfl⟩
    subst hwb
    by_cases hlt : k < 3
    · have hkz : (k : Int) < 3 := by omega
      have hx0 := fun W => HID.out k hlt W
      rw [HGD.out k hlt] at hx0
      have SK := Lib.hid (fun W => SZ.out k hlt W)
      by_cases hs : szW (x (13 + k)) ≤ 100000000
      · have hsn : ¬ 100000000 < szW (x (13 + k)) := by omega
        have HS := Lib.hid hs
        clear hs
        go_wp2_with (go_at_call 44; (with_reducible refine Calls.mono (SK.out _) ?_); rintro e1 w1 ⟨rfl, hb1⟩; replace HW := Lib.hid (HW.out.trans hb1); clear hb1)
        go_roundw
        case rel => exact ⟨k + 1, by omega, by go_num, fun j hj => by rcases (by omega : j < k ∨ j = k) with h | rfl; exact HIN.out j h; exact HS.out, HW⟩
        case measure => simp [intOf]; omega
      · have hsn : 100000000 < szW (x (13 + k)) := by omega
        have HF := Lib.hid (HYN.out k hlt (by first | exact hs | omega))
        clear hs
        go_wp2_with (go_at_call 44; (with_reducible refine Calls.mono (SK.out _) ?_); rintro e1 w1 ⟨rfl, hb1⟩; replace HW := Lib.hid (HW.out.trans hb1); clear hb1)
        go_ret
        exact ⟨ret_bool HF.out.symm, HW.out⟩
    · obtain rfl : k = 3 := by omega
      have HU := Lib.hid (HY.out HIN.out)
      clear HY HYN HIN SZ HID HGD hu HR
      go_upto_region 7 with fail
      obtain ⟨D16, D17, D18, D19, D20⟩ := D.out
      have d16 := HW.out.cell' D16
      have d17 := HW.out.cell' D17
      have d18 := HW.out.cell' D18
      have d19 := HW.out.cell' D19
      have d20 := HW.out.cell' D20
      clear D16 D17 D18 D19 D20 D
      refine wp_region_held_drew (S := Bw wb) (by kernel_rfl) (Bw.drew (Bw.refl _)) (fun hS => ?_)
      generalize World.drew _ = wd at *
      refine take1 (i := 0) (some 18) rfl rfl (by kernel_rfl) (by kernel_rfl) (by kernel_rfl) (fun _ _ _ _ h => h) rfl hS ?_
      apply Exists.intro
      apply And.intro
      · intro W9 hW9; skip; go_simp; try with_reducible rfl
      simp only [Act.put, List.setIfInBounds_toArray, List.set_cons_zero, List.set_cons_succ]
      refine take1 (i := 1) (some 19) rfl rfl (by kernel_rfl) (by kernel_rfl) (by kernel_rfl) (fun _ _ _ _ h => h) rfl hS ?_
      apply Exists.intro
      apply And.intro
      · intro W9 hW9; skip; go_simp; try with_reducible rfl
      simp only [Act.put, List.setIfInBounds_toArray, List.set_cons_zero, List.set_cons_succ]
      refine take1 (i := 2) (some 20) rfl rfl (by kernel_rfl) (by kernel_rfl) (by kernel_rfl) (fun _ _ _ _ h => h) rfl hS ?_
      apply Exists.intro
      apply And.intro
      · intro W9 hW9; skip; go_simp; try with_reducible rfl
      simp only [Act.put, List.setIfInBounds_toArray, List.set_cons_zero, List.set_cons_succ]
      refine take1 (i := 3) (some 21) rfl rfl (by kernel_rfl) (by kernel_rfl) (by kernel_rfl) (fun _ _ _ _ h => h) rfl hS ?_
      refine Exists.intro (.int .i64 r) ?_
      apply And.intro
      · intro W9 hW9; skip; (have c0 := hW9.cell' d16); go_simp; try with_reducible rfl
      simp only [Act.put, List.setIfInBounds_toArray, List.set_cons_zero, List.set_cons_succ]
      refine take1 (i := 4) (some 22) rfl rfl (by kernel_rfl) (by kernel_rfl) (by kernel_rfl) (fun _ _ _ _ h => h) rfl hS ?_
      apply Exists.intro
      apply And.intro
      · intro W9 hW9; skip; go_simp; try with_reducible rfl
      simp only [Act.put, List.setIfInBounds_toArray, List.set_cons_zero, List.set_cons_succ]
      refine take1 (i := 5) (some 23) rfl rfl (by kernel_rfl) (by kernel_rfl) (by kernel_rfl) (fun _ _ _ _ h => h) rfl hS ?_
      apply Exists.intro
      apply And.intro
      · intro W9 hW9; skip; go_simp; try with_reducible rfl
      simp only [Act.put, List.setIfInBounds_toArray, List.set_cons_zero, List.set_cons_succ]
      refine take1 (i := 6) (some 24) rfl rfl (by kernel_rfl) (by kernel_rfl) (by kernel_rfl) (fun _ _ _ _ h => h) rfl hS ?_
      apply Exists.intro
      apply And.intro
      · intro W9 hW9; skip; go_simp; try with_reducible rfl
      simp only [Act.put, List.setIfInBounds_toArray, List.set_cons_zero, List.set_cons_succ]
      refine take1 (i := 7) (some 25) rfl rfl (by kernel_rfl) (by kernel_rfl) (by kernel_rfl) (fun _ _ _ _ h => h) rfl hS ?_
      apply Exists.intro
      apply And.intro
      · intro W9 hW9; skip; go_simp; try with_reducible rfl
      simp only [Act.put, List.setIfInBounds_toArray, List.set_cons_zero, List.set_cons_succ]
      refine take1 (i := 8) (some 26) rfl rfl (by kernel_rfl) (by kernel_rfl) (by kernel_rfl) (fun _ _ _ _ h => h) rfl hS ?_
      refine Exists.intro (.int .i64 t) ?_
      apply And.intro
      · intro W9 hW9; skip; (have c0 := hW9.cell' d17); go_simp; try with_reducible rfl
      simp only [Act.put, List.setIfInBounds_toArray, List.set_cons_zero, List.set_cons_succ]
      refine take1 (i := 9) (some 27) rfl rfl (by kernel_rfl) (by kernel_rfl) (by kernel_rfl) (fun _ _ _ _ h => h) rfl hS ?_
      apply Exists.intro
      apply And.intro
      · intro W9 hW9; skip; go_simp; try with_reducible rfl
      simp only [Act.put, List.setIfInBounds_toArray, List.set_cons_zero, List.set_cons_succ]
      refine take1 (i := 10) (some 28) rfl rfl (by kernel_rfl) (by kernel_rfl) (by kernel_rfl) (fun _ _ _ _ h => h) rfl hS ?_
      apply Exists.intro
      apply And.intro
      · intro W9 hW9; skip; go_simp; try with_reducible rfl
      simp only [Act.put, List.setIfInBounds_toArray, List.set_cons_zero, List.set_cons_succ]
      refine take1 (i := 11) (some 29) rfl rfl (by kernel_rfl) (by kernel_rfl) (by kernel_rfl) (fun _ _ _ _ h => h) rfl hS ?_
      apply Exists.intro
      apply And.intro
      · intro W9 hW9; skip; go_simp; try with_reducible rfl
      simp only [Act.put, List.setIfInBounds_toArray, List.set_cons_zero, List.set_cons_succ]
      refine take1 (i := 12) (some 30) rfl rfl (by kernel_rfl) (by kernel_rfl) (by kernel_rfl) (fun _ _ _ _ h => h) rfl hS ?_
      apply Exists.intro
      apply And.intro
      · intro W9 hW9; skip; go_simp; try with_reducible rfl
      simp only [Act.put, List.setIfInBounds_toArray, List.set_cons_zero, List.set_cons_succ]
      refine take1 (i := 13) (some 31) rfl rfl (by kernel_rfl) (by kernel_rfl) (by kernel_rfl) (fun _ _ _ _ h => h) rfl hS ?_
      refine Exists.intro (.int .i64 l) ?_
      apply And.intro
      · intro W9 hW9; skip; (have c0 := hW9.cell' d18); go_simp; try with_reducible rfl
      simp only [Act.put, List.setIfInBounds_toArray, List.set_cons_zero, List.set_cons_succ]
      refine take1 (i := 14) (some 32) rfl rfl (by kernel_rfl) (by kernel_rfl) (by kernel_rfl) (fun _ _ _ _ h => h) rfl hS ?_
      apply Exists.intro
      apply And.intro
      · intro W9 hW9; skip; go_simp; try with_reducible rfl
      simp only [Act.put, List.setIfInBounds_toArray, List.set_cons_zero, List.set_cons_succ]
      refine take1 (i := 15) (some 33) rfl rfl (by kernel_rfl) (by kernel_rfl) (by kernel_rfl) (fun _ _ _ _ h => h) rfl hS ?_
      apply Exists.intro
      apply And.intro
      · intro W9 hW9; skip; go_simp; try with_reducible rfl
      simp only [Act.put, List.setIfInBounds_toArray, List.set_cons_zero, List.set_cons_succ]
      refine take1 (i := 16) (some 34) rfl rfl (by kernel_rfl) (by kernel_rfl) (by kernel_rfl) (fun _ _ _ _ h => h) rfl hS ?_
      apply Exists.intro
      apply And.intro
      · intro W9 hW9; skip; go_simp; try with_reducible rfl
      simp only [Act.put, List.setIfInBounds_toArray, List.set_cons_zero, List.set_cons_succ]
      refine take1 (i := 17) (some 35) rfl rfl (by kernel_rfl) (by kernel_rfl) (by kernel_rfl) (fun _ _ _ _ h => h) rfl hS ?_
      apply Exists.intro
      apply And.intro
      · intro W9 hW9; skip; go_simp; try with_reducible rfl
      simp only [Act.put, List.setIfInBounds_toArray, List.set_cons_zero, List.set_cons_succ]
      refine take1 (i := 18) (some 36) rfl rfl (by kernel_rfl) (by kernel_rfl) (by kernel_rfl) (fun _ _ _ _ h => h) rfl hS ?_
      refine Exists.intro (.int .i64 c) ?_
      apply And.intro
      · intro W9 hW9; skip; (have c0 := hW9.cell' d19); go_simp; try with_reducible rfl
      simp only [Act.put, List.setIfInBounds_toArray, List.set_cons_zero, List.set_cons_succ]
      refine take1 (i := 19) (some 37) rfl rfl (by kernel_rfl) (by kernel_rfl) (by kernel_rfl) (fun _ _ _ _ h => h) rfl hS ?_
      apply Exists.intro
      apply And.intro
      · intro W9 hW9; skip; go_simp; try with_reducible rfl
      simp only [Act.put, List.setIfInBounds_toArray, List.set_cons_zero, List.set_cons_succ]
      refine take1 (i := 20) (some 38) rfl rfl (by kernel_rfl) (by kernel_rfl) (by kernel_rfl) (fun _ _ _ _ h => h) rfl hS ?_
      apply Exists.intro
      apply And.intro
      · intro W9 hW9; skip; go_simp; try with_reducible rfl
      simp only [Act.put, List.setIfInBounds_toArray, List.set_cons_zero, List.set_cons_succ]
      refine take1 (i := 21) (some 39) rfl rfl (by kernel_rfl) (by kernel_rfl) (by kernel_rfl) (fun _ _ _ _ h => h) rfl hS ?_
      apply Exists.intro
      apply And.intro
      · intro W9 hW9; skip; go_simp; try with_reducible rfl
      simp only [Act.put, List.setIfInBounds_toArray, List.set_cons_zero, List.set_cons_succ]
      refine take1 (i := 22) (some 40) rfl rfl (by kernel_rfl) (by kernel_rfl) (by kernel_rfl) (fun _ _ _ _ h => h) rfl hS ?_
      apply Exists.intro
      apply And.intro
      · intro W9 hW9; skip; go_simp; try with_reducible rfl
      simp only [Act.put, List.setIfInBounds_toArray, List.set_cons_zero, List.set_cons_succ]
      refine take1 (i := 23) (some 41) rfl rfl (by kernel_rfl) (by kernel_rfl) (by kernel_rfl) (fun _ _ _ _ h => h) rfl hS ?_
      refine Exists.intro (.int .i64 m) ?_
      apply And.intro
      · intro W9 hW9; skip; (have c0 := hW9.cell' d20); go_simp; try with_reducible rfl
      simp only [Act.put, List.setIfInBounds_toArray, List.set_cons_zero, List.set_cons_succ]
      refine take1 (i := 24) (some 42) rfl rfl (by kernel_rfl) (by kernel_rfl) (by kernel_rfl) (fun _ _ _ _ h => h) rfl hS ?_
      apply Exists.intro
      apply And.intro
      · intro W9 hW9; skip; go_simp; try with_reducible rfl
      simp only [Act.put, List.setIfInBounds_toArray, List.set_cons_zero, List.set_cons_succ]
      refine take1 (i := 27) (some 45) rfl rfl (by kernel_rfl) (by kernel_rfl) (by kernel_rfl) (fun _ _ _ _ h => h) rfl hS ?_
      apply Exists.intro
      apply And.intro
      · intro W9 hW9; skip; go_simp; try with_reducible rfl
      simp only [Act.put, List.setIfInBounds_toArray, List.set_cons_zero, List.set_cons_succ]
      refine wpAnyH_ready (rs := [25]) (by kernel_rfl) (by simp) ?_
      refine AllReadyH.cons rfl (fun K hK => ?_) ?_
      go_simp
      have NB := Lib.hid (Blk.new wd 27 #[.int .i64 r, .int .i64 0, .int .i64 10000000, .int .i64 t, .int .i64 0, .int .i64 604799, .int .i64 l, .int .i64 0, .int .i64 600, .int .i64 c, .int .i64 0, .int .i64 1000000000, .int .i64 m, .int .i64 1, .int .i64 8192])
      have hba := Bw.alloc (Bw.refl wd) (.cells #[.int .i64 r, .int .i64 0, .int .i64 10000000, .int .i64 t, .int .i64 0, .int .i64 604799, .int .i64 l, .int .i64 0, .int .i64 600, .int .i64 c, .int .i64 0, .int .i64 1000000000, .int .i64 m, .int .i64 1, .int .i64 8192] 27)
      obtain ⟨gb, hgb⟩ : ∃ gb, wd.heap.size = gb := ⟨_, rfl⟩
      rw [hgb] at NB ⊢
      have hS9 := hS.trans hba
      clear hba hS
      generalize World.alloc wd _ = we at *
      refine hK.out _ _ hS9 (fun hS => ?_)
      clear hK K
      clear hS9 hgb
      refine take1 (i := 26) (some 44) rfl rfl (by kernel_rfl) (by kernel_rfl) (by kernel_rfl) (fun _ _ _ _ h => h) rfl hS ?_
      apply Exists.intro
      apply And.intro
      · intro W9 hW9; skip; go_simp; try with_reducible rfl
      simp only [Act.put, List.setIfInBounds_toArray, List.set_cons_zero, List.set_cons_succ]
      refine wpAnyH_done (by kernel_rfl) ?_ _
      rotate_left
      exact AllReadyH.nil
      clear d16 d17 d18 d19 d20
      have HL := Lib.hid (fun k (hk : k < 5) => lim_rg NB.out k hk)
      replace HW := Lib.hid (HW.out.trans hS)
      clear hS NB
      generalize lm0 r t l c m = L0 at *
      generalize lm1 r t l c m = L1 at *
      generalize lm2 r t l c m = L2 at *
      obtain ⟨wz, hwz⟩ : ∃ wz, wz = we := ⟨_, rfl⟩
      subst hwz
      have HX := Lib.hid (Bw.refl wz)
      go_wp2_with fail
      go_loopw [45] (fun s45 wr => ∃ k : Nat, k ≤ 5 ∧ s45 = .int .i64 k ∧ (∀ j, j < k → L1 j ≤ L0 j ∧ L0 j ≤ L2 j) ∧ Hid (Bw wz wr)) (fun s45 _ => 5 - (intOf s45).toNat)
      case atStart => exact ⟨0, by omega, rfl, fun j hj => absurd hj (by omega), HX⟩
      case round =>
        clear HX
        obtain ⟨k, hk, rfl, hin, HX⟩ := hrel
        have HIN := Lib.hid hin
        clear hin
        obtain ⟨wb, hwb⟩ : ∃ wb, wb = wr := ⟨_, rfl⟩
        subst hwb
        by_cases hlt : k < 5
        · have hkz : (k : Int) < 5 := by omega
          have hk0 : (0 : Int) ≤ k := by omega
          have HR := Lib.hid (rg_bw9 (HL.out k hlt) HX.out)
          have HZK := Lib.hid (fun h => HZN.out k hlt h)
          generalize hq0 : L0 k = q0 at *
          generalize hq1 : L1 k = q1 at *
          generalize hq2 : L2 k = q2 at *
          have HQ := Lib.hid (And.intro hq0 (And.intro hq1 hq2))
          clear hq0 hq1 hq2
          go_upto_region 10 with (first | ((with_reducible refine at_load 27 (.tmp 47) ?_); refine wpList_load_mid rfl 27 _ rfl gb (k * 3) (by simp [Act.eval, Act.put]) _ _ HR.out Tryd.underlying27 rfl (by kernel_rfl) ?_) | ((with_reducible refine at_store 27 (.tmp 6) (.tmp 48) ?_); refine wpList_store_row rfl 27 (.tmp 6) (.tmp 48) rfl wb.heap.size #[.int .i64 q0, .int .i64 q1, .int .i64 q2] rfl rfl 27 #[.int .i64 0, .int .i64 0, .int .i64 0] (Blk.new wb 27 #[.int .i64 0, .int .i64 0, .int .i64 0]) (by kernel_rfl) rfl (by simp [Value.oneCell']) ?_))
          have hb2 := Bw.setRow (Bw.alloc (Bw.refl wb) (.cells #[.int .i64 0, .int .i64 0, .int .i64 0] 27)) (Nat.le_refl _) #[.int .i64 q0, .int .i64 q1, .int .i64 q2]
          have K6 := (Blk.new wb 27 #[.int .i64 0, .int .i64 0, .int .i64 0]).row #[.int .i64 q0, .int .i64 q1, .int .i64 q2]
          obtain ⟨g6, hg6⟩ : ∃ g6, wb.heap.size = g6 := ⟨_, rfl⟩
          rw [hg6] at K6 hb2 ⊢
          generalize World.setRow (World.alloc wb _) _ _ = z6 at *
          clear hg6
          (try simp only [Act.put])
          have c0 := K6.cell (show (#[.int .i64 q0, .int .i64 q1, .int .i64 q2] : Array Value)[0]? = some (.int .i64 q0) from rfl)
          have c1 := K6.cell (show (#[.int .i64 q0, .int .i64 q1, .int .i64 q2] : Array Value)[1]? = some (.int .i64 q1) from rfl)
          have c2 := K6.cell (show (#[.int .i64 q0, .int .i64 q1, .int .i64 q2] : Array Value)[2]? = some (.int .i64 q2) from rfl)
          replace HX := Lib.hid (HX.out.trans hb2)
          clear K6 hb2 HR
          by_cases h1 : q0 < q1
          · have HF := Lib.hid (HZK.out (by omega))
            go_wp2
            go_ret
            exact ⟨ret_bool HF.out.symm, HW.out.trans HX.out⟩
          · by_cases h2 : q2 < q0
            · have HF := Lib.hid (HZK.out (by omega))
              go_wp2
              go_ret
              exact ⟨ret_bool HF.out.symm, HW.out.trans HX.out⟩
            · have HS := Lib.hid (show q1 ≤ q0 ∧ q0 ≤ q2 by omega)
              go_wp2
              go_roundw
              case rel => exact ⟨k + 1, by omega, by go_num, fun j hj => by
                rcases (by omega : j < k ∨ j = k) with h | rfl
                · exact HIN.out j h
                · rw [HQ.out.1, HQ.out.2.1, HQ.out.2.2]; exact HS.out, HX⟩
              case measure => simp [intOf]; omega
        · obtain rfl : k = 5 := by omega
          have HF := Lib.hid (show RB = true by rw [HB.out, HU.out, HZ.out HIN.out]; rfl)
          go_wp2
          go_ret
          exact ⟨ret_bool HF.out.symm, HW.out.trans HX.out⟩
end Go.Proofs.Sky

namespace Go.Proofs.Sky
open Go Go.RowKit Go.Shelf
attribute [local go_sem] Oper.semAt_some
set_option maxHeartbeats 4000000
set_option maxRecDepth 8000
/-! chapter 40: check -/
theorem upX_upX (x : Nat → Int) (j : Nat) (a b : Int) : upX (upX x j a) j b = upX x j b := by
  funext i
  unfold upX
  split <;> rfl
theorem rgB_up (x : Nat → Int) (j : Nat) (v : Int) (h : 20 < j) : rgB (upX x j v) = rgB x := by
  unfold rgB
  rw [upX_ne x v (show 13 ≠ j by omega), upX_ne x v (show 14 ≠ j by omega), upX_ne x v (show 15 ≠ j by omega), upX_ne x v (show 16 ≠ j by omega), upX_ne x v (show 17 ≠ j by omega), upX_ne x v (show 18 ≠ j by omega), upX_ne x v (show 19 ≠ j by omega), upX_ne x v (show 20 ≠ j by omega)]
/-- the error of a question -/
def erQ (x : Nat → Int) : Int := if errPg x ≠ 0 then errPg x else if rgB x = true then 0 else 2
theorem check40_any (x : Nat → Int) (g : Nat) (w : World) (hw : WdAt w) (hq : QBlk w g x) (hu : ∀ k, k < 3 → -4000000000000000000 ≤ x (13 + k) ∧ x (13 + k) ≤ 4000000000000000000) : Calls Tryd.prog 24 #[.pointer (some ⟨g, 0, none⟩)] w fun e w' => e = .returned (.pointer (some ⟨g, 0, none⟩)) ∧ QBlk w' g (upX x 32 (erQ x)) ∧ Kx g w w' := by
  have CK := Lib.hid (fun W h => PgCheck_any x W h)
  have RG := Lib.hid (fun e W h => ranged40_any (upX x 32 e) g W h (fun k hk => by rw [upX_ne x e (by omega)]; exact hu k hk))
  have HPG := Lib.hid (show w.rangeAt g 0 (pgc x) from hq.pg)
  have HER := Lib.hid (show erQ x = if errPg x ≠ 0 then errPg x else if rgB x = true then 0 else 2 from rfl)
  have HRU := Lib.hid (fun e => rgB_up x 32 e (by omega))
  have HQ := Lib.hid hq
  have HWD := Lib.hid hw
  clear hq hw
  generalize erQ x = E at *
  generalize hE : errPg x = P at *
  have HP := Lib.hid hE
  clear hE
  have hlt := HQ.out.lt
  go_enter Tryd.func24, Tryd.ntmps24
  go_upto_region 1 with fail
  have d32 := HQ.out.at 32 (by omega)
  have f32 := HQ.out.fz 32
  generalize hx32 : x 32 = x32 at *
  go_upto_region 2 with (first | ((with_reducible refine at_load 29 (.tmp 6) ?_); refine wpList_load_pg rfl (.tmp 6) rfl g 0 (by simp [Act.eval, Act.put]) HPG.out ?_) | (go_at_call 43; (with_reducible refine Calls.mono (CK.out _ HWD.out) ?_); rintro e1 w1 ⟨rfl, hb1⟩; replace d32 := hb1.cell' d32; replace f32 := (HQ.out.bw hb1).fz 32))
  have HQ1 := Lib.hid ((HQ.out.bw hb1).set 32 P)
  have HK := Lib.hid ((Kx.of_bw hb1 (Nat.le_of_lt hlt)).trans (Kx.set (j := 32) (Nat.lt_of_lt_of_le hlt hb1.size) (.int .i64 P)))
  obtain ⟨W1, hW1⟩ : ∃ W1, w1.setCell ⟨g, 32, none⟩ (.int .i64 P) = W1 := ⟨_, rfl⟩
  rw [hW1] at HQ1 HK ⊢
  have hlt1 : g < W1.heap.size := HQ1.out.lt
  clear hW1 d32 f32
  have d32 := HQ1.out.at 32 (by omega)
  rw [upX_same] at d32
  have f32 := HQ1.out.fz 32
  by_cases hp : P = 0
  · subst hp
    have RG0 := Lib.hid (fun W h => RG.out 0 W h)
    rw [HRU.out 0] at RG0
    by_cases hr : rgB x = true
    · rw [hr] at RG0
      have HE := Lib.hid (show E = 0 by rw [HER.out, if_neg (by simp), if_pos hr])
      clear hr
      go_wp2_with (go_at_call 37; (with_reducible refine Calls.mono (RG0.out _ HQ1.out) ?_); rintro e1 w2 ⟨rfl, hb2⟩)
      go_ret
      exact ⟨rfl, by rw [HE.out]; exact HQ1.out.bw hb2, HK.out.trans (Kx.of_bw hb2 (Nat.le_of_lt hlt1))⟩
    · have hrf : rgB x = false := by simpa using hr
      rw [hrf] at RG0
      have HE := Lib.hid (show E = 2 by rw [HER.out, if_neg (by simp), if_neg hr])
      clear hr hrf
      go_wp2_with (go_at_call 37; (with_reducible refine Calls.mono (RG0.out _ HQ1.out) ?_); rintro e1 w2 ⟨rfl, hb2⟩; replace d32 := hb2.cell' d32; replace f32 := (HQ1.out.bw hb2).fz 32)
      go_ret
      refine ⟨rfl, ?_, (HK.out.trans (Kx.of_bw hb2 (Nat.le_of_lt hlt1))).trans (Kx.set (j := 32) (Nat.lt_of_lt_of_le hlt1 hb2.size) _)⟩
      have h9 := (HQ1.out.bw hb2).set 32 2
      rw [upX_upX] at h9
      rw [HE.out]; exact h9
  · have HE := Lib.hid (show E = P by rw [HER.out, if_pos hp])
    have hpb : (P == 0) = false := by simpa using hp
    go_wp2
    go_ret
    exact ⟨rfl, by rw [HE.out]; exact HQ1.out, HK.out⟩
end Go.Proofs.Sky

namespace Go.Proofs.Sky
open Go Go.RowKit Go.Shelf
set_option maxHeartbeats 4000000
set_option maxRecDepth 8000
/-! chapter 40: what a question comes to, plain -/
theorem rgB_lim {x : Nat → Int} (h : rgB x = true) : szW (x 13) ≤ 100000000 ∧ szW (x 14) ≤ 100000000 ∧ szW (x 15) ≤ 100000000 ∧ (0 ≤ x 16 ∧ x 16 ≤ 10000000) ∧ (0 ≤ x 17 ∧ x 17 ≤ 604799) ∧ (0 ≤ x 18 ∧ x 18 ≤ 600) ∧ (0 ≤ x 19 ∧ x 19 ≤ 1000000000) ∧ (1 ≤ x 20 ∧ x 20 ≤ 8192) := by
  unfold rgB szOk inR at h
  simp only [Bool.and_eq_true, decide_eq_true_eq] at h
  exact ⟨h.1.1.1, h.1.1.2, h.1.2, h.2.1.1.1.1, h.2.1.1.1.2, h.2.1.1.2, h.2.1.2, h.2.2⟩
def ageQ (x : Nat → Int) : Int := szW (arQ (x 17 - x 1)) + x 18
def vQ (c1 c2 a : Int) : Int := szW c1 + upW (2 * szW c2 * a) 1024
def sprK (x : Nat → Int) (late a : Int) : Nat → Int
  | 0 => 0
  | k + 1 => mx28 (sprK x late a k) (vQ (x (5 + 3 * k)) (x (6 + 3 * k)) a * late + 1)
def sprQ (x : Nat → Int) : Int := sprK x (x 18) (ageQ x) 3 + (x 2 + upW (x 3 * ageQ x) 3600)
def plA (x : Nat → Int) : Nat → Int := upX x 21 (ageQ x)
def plS (x : Nat → Int) : Nat → Int := upX (upX (upX (plA x) 23 (atP x (x 17) 0)) 24 (atP x (x 17) 1)) 25 (atP x (x 17) 2)
def plQ (x : Nat → Int) : Nat → Int := if 14400 < ageQ x then upX (plA x) 32 17 else upX (plS x) 22 (sprQ x)
theorem upW_bd {a b : Int} (ha : 0 ≤ a) (hb : 1 ≤ b) : 0 ≤ upW a b ∧ upW a b ≤ a ∧ a ≤ b * upW a b := by
  unfold upW
  have h1 : (-a) / b ≤ 0 := by
    have := Int.ediv_le_ediv (show 0 < b by omega) (show -a ≤ 0 by omega)
    rwa [Int.zero_ediv] at this
  have h2 : -a ≤ (-a) / b := by
    refine (Int.le_ediv_iff_mul_le (by omega)).2 ?_
    have : a * 1 ≤ a * b := Int.mul_le_mul_of_nonneg_left hb ha
    rw [Int.neg_mul]; omega
  have h3 : b * ((-a) / b) ≤ -a := Int.mul_ediv_self_le (by omega)
  refine ⟨by omega, by omega, ?_⟩
  rw [Int.mul_neg]; omega
theorem mx28_ge (a b : Int) : a ≤ mx28 a b ∧ b ≤ mx28 a b ∧ (mx28 a b = a ∨ mx28 a b = b) := by unfold mx28; split <;> omega
theorem vQ_bd {c1 c2 a : Int} (h1 : -8192 ≤ c1 ∧ c1 ≤ 8191) (h2 : -2048 ≤ c2 ∧ c2 ≤ 2047) (ha : 0 ≤ a ∧ a ≤ 14400) : 0 ≤ 2 * szW c2 * a ∧ 2 * szW c2 * a ≤ 58982400 ∧ 0 ≤ upW (2 * szW c2 * a) 1024 ∧ upW (2 * szW c2 * a) 1024 ≤ 57600 ∧ 0 ≤ vQ c1 c2 a ∧ vQ c1 c2 a ≤ 65792 := by
  have hs1 : 0 ≤ szW c1 ∧ szW c1 ≤ 8192 := by unfold szW; omega
  have hs2 : 0 ≤ szW c2 ∧ szW c2 ≤ 2048 := by unfold szW; omega
  have m0 : 0 ≤ 2 * szW c2 * a := Int.mul_nonneg (by omega) ha.1
  have m1 : 2 * szW c2 * a ≤ 4096 * 14400 := Int.mul_le_mul (by omega) ha.2 ha.1 (by omega)
  unfold vQ
  generalize 2 * szW c2 * a = m at *
  have hu : 0 ≤ upW m 1024 ∧ upW m 1024 ≤ 57600 := by unfold upW; omega
  omega
theorem sprK_bd {x : Nat → Int} {late a : Int} (hx : ∀ i, i < 3 → (-524288 ≤ x (4 + 3 * i) ∧ x (4 + 3 * i) ≤ 524287) ∧ (-8192 ≤ x (5 + 3 * i) ∧ x (5 + 3 * i) ≤ 8191) ∧ (-2048 ≤ x (6 + 3 * i) ∧ x (6 + 3 * i) ≤ 2047)) (hl : 0 ≤ late ∧ late ≤ 600) (ha : 0 ≤ a ∧ a ≤ 14400) : ∀ k, k ≤ 3 → 0 ≤ sprK x late a k ∧ sprK x late a k ≤ 40000000 := by
  intro k
  induction k with
  | zero => intro _; exact ⟨Int.le_refl _, by show (0 : Int) ≤ 40000000; omega⟩
  | succ k ih =>
    intro hk
    have h1 := ih (by omega)
    obtain ⟨_, _, _, _, v0, v1⟩ := vQ_bd (hx k (by omega)).2.1 (hx k (by omega)).2.2 ha
    have m0 : 0 ≤ vQ (x (5 + 3 * k)) (x (6 + 3 * k)) a * late := Int.mul_nonneg v0 hl.1
    have m1 : vQ (x (5 + 3 * k)) (x (6 + 3 * k)) a * late ≤ 65792 * 600 := Int.mul_le_mul v1 hl.2 hl.1 (by omega)
    rw [sprK]
    generalize vQ (x (5 + 3 * k)) (x (6 + 3 * k)) a * late = m at *
    have := mx28_ge (sprK x late a k) (m + 1)
    omega
def fK40 (x : Nat → Int) : Nat → Int
  | 0 => 0
  | k + 1 => fK40 x k + (x (23 + k) - x (13 + k)) * x (13 + k)
def bQ40 (x : Nat → Int) : Int := x 22 * len3 (x 13) (x 14) (x 15) + x 16 * (len3 (x 23) (x 24) (x 25) + 2 * len3 (x 13) (x 14) (x 15)) + 2 * x 22 * x 16 + x 16 * x 16
def upQ40 (x : Nat → Int) : Int := if bQ40 x < fK40 x 3 then 1 else if fK40 x 3 < -(bQ40 x) then -1 else 0
/-- the premises that the later steps stand on -/
structure Mid (x : Nat → Int) : Prop where
  u : ∀ k, k < 3 → -100000000 ≤ x (13 + k) ∧ x (13 + k) ≤ 100000000
  s : ∀ k, k < 3 → -1000000000 ≤ x (23 + k) ∧ x (23 + k) ≤ 1000000000
  r : 0 ≤ x 16 ∧ x 16 ≤ 10000000
  w : 0 ≤ x 22 ∧ x 22 ≤ 45000000
  c : 0 ≤ x 19 ∧ x 19 ≤ 1000000000
  m : 1 ≤ x 20 ∧ x 20 ≤ 8192
theorem mul_bd40 {a b A B : Int} (ha : -A ≤ a ∧ a ≤ A) (hb : -B ≤ b ∧ b ≤ B) : -(A * B) ≤ a * b ∧ a * b ≤ A * B := by
  have hA : 0 ≤ A := by omega
  have h1 : (a * b).natAbs = a.natAbs * b.natAbs := Int.natAbs_mul a b
  have h2 : a.natAbs * b.natAbs ≤ A.toNat * B.toNat := Nat.mul_le_mul (by omega) (by omega)
  have h3 : ((A.toNat * B.toNat : Nat) : Int) = A * B := by rw [Int.natCast_mul, Int.toNat_of_nonneg hA, Int.toNat_of_nonneg (by omega)]
  omega
theorem fK_bd {x : Nat → Int} (h : Mid x) : ∀ k : Nat, k ≤ 3 → -(110000000000000000 * (k : Int)) ≤ fK40 x k ∧ fK40 x k ≤ 110000000000000000 * (k : Int) := by
  intro k
  induction k with
  | zero => intro _; exact ⟨by show -(110000000000000000 * (0 : Int)) ≤ 0; omega, by show (0 : Int) ≤ 110000000000000000 * 0; omega⟩
  | succ k ih =>
    intro hk
    have h1 := ih (by omega)
    have h2 := mul_bd40 (a := x (23 + k) - x (13 + k)) (b := x (13 + k)) (A := 1100000000) (B := 100000000) (by have := h.u k (by omega); have := h.s k (by omega); omega) (h.u k (by omega))
    rw [fK40]
    have : ((k + 1 : Nat) : Int) = (k : Int) + 1 := by omega
    rw [this]
    omega
def mn28 (x y : Int) : Int := if y < x then y else x
theorem run_mn28 {P : Program} {w : World} (ts : Array TypeId) (t : TypeId) (k k' : IntKind) (x y : Int) : (Builtin.min_ ts t #[.int k x, .int k' y]).run P w = .ok (.int k (mn28 x y)) w := run_min_int2 w ts t k k' x y
def sK40 (x : Nat → Int) : Nat → Int
  | 0 => 0
  | k + 1 => sK40 x k + (x (23 + k) - x (13 + k)) * (x (23 + k) - x (13 + k))
theorem sq_nn (a : Int) : 0 ≤ a * a := by
  rcases Int.le_total 0 a with h | h
  · exact Int.mul_nonneg h h
  · exact Int.mul_nonneg_of_nonpos_of_nonpos h h
theorem sK_bd {x : Nat → Int} (h : Mid x) : ∀ k : Nat, k ≤ 3 → 0 ≤ sK40 x k ∧ sK40 x k ≤ 1210000000000000000 * (k : Int) := by
  intro k
  induction k with
  | zero => intro _; exact ⟨Int.le_refl _, by show (0 : Int) ≤ 1210000000000000000 * 0; omega⟩
  | succ k ih =>
    intro hk
    have h1 := ih (by omega)
    have hb : -1100000000 ≤ x (23 + k) - x (13 + k) ∧ x (23 + k) - x (13 + k) ≤ 1100000000 := by have := h.u k (by omega); have := h.s k (by omega); omega
    have h2 := mul_bd40 hb hb
    have h3 := sq_nn (x (23 + k) - x (13 + k))
    rw [sK40]
    have : ((k + 1 : Nat) : Int) = (k : Int) + 1 := by omega
    rw [this]
    omega
def eQ40 (x : Nat → Int) : Int := 2 * x 22 + x 16
def nearQ (x : Nat → Int) (r : Int) : Int := mx28 0 (r - eQ40 x)
def farQ (x : Nat → Int) (r : Int) : Int := r + 1 + eQ40 x
def lowQ (x : Nat → Int) (r : Int) : Int := (nearQ x r - x 19) * 1000 * x 20 / 299792458
def highQ (x : Nat → Int) (r : Int) : Int := (farQ x r + x 19) * 1000 * x 20 / 299792458
def manyQ (x : Nat → Int) (r : Int) : Int := mn28 (highQ x r - lowQ x r + 1) (x 20)
def lagQ (x : Nat → Int) (r : Int) : Int := lowQ x r % x 20
def diQ (x : Nat → Int) (r : Int) : Nat → Int := upX (upX (upX (upX (upX x 28 (nearQ x r)) 29 (farQ x r)) 26 (x 0)) 31 (manyQ x r)) 30 (lagQ x r)
theorem lag_way (a b : Int) (hb : 1 ≤ b) : ∃ m, a.tmod b = m ∧ -b < m ∧ m < b ∧ (m + b).tmod b = a % b := by
  refine ⟨_, rfl, ?_, ?_, ?_⟩
  · have := Int.lt_tmod_of_pos a (show 0 < b by omega); omega
  · exact Int.tmod_lt_of_pos a (by omega)
  · have h1 := Int.lt_tmod_of_pos a (show 0 < b by omega)
    rw [Int.tmod_eq_emod_of_nonneg (by omega), Int.add_emod_right]
    have h2 : a.tmod b = a - b * a.tdiv b := by have := Int.mul_tdiv_add_tmod a b; omega
    rw [h2, Int.sub_mul_emod_self_left]
end Go.Proofs.Sky
