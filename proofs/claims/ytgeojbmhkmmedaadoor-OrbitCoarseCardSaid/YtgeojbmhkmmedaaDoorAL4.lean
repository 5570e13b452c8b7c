/-
  lemmas for the theorems of this claim. No conditions beyond those written in the statements.
-/
import Derived.Test.YtgeojbmhkmmedaaDoorF26
import Derived.Deep.MidRow
import Derived.Test.YtgeojbmhkmmedaaDoorRdAt
import Derived.Test.YtgeojbmhkmmedaaDoorM25
import Derived.Test.YtgeojbmhkmmedaaDoorRG
import Derived.Test.YtgeojbmhkmmedaaDoorAppP
import Derived.Deep.Cut
import Derived.Deep.LoopGhost
import Derived.BigRegion
set_option linter.unusedVariables false
set_option linter.unusedSimpArgs false
set_option linter.unnecessarySimpa false
namespace Go.Proofs.Sky
open Go Go.RowKit Go.Shelf
set_option maxHeartbeats 4000000
set_option maxRecDepth 8000
/-! the almanac: the fields of a page -/
def wdV : Array Value := #[.int .i64 6, .int .i64 20, .int .i64 16, .int .i64 20, .int .i64 20, .int .i64 14, .int .i64 12, .int .i64 20, .int .i64 14, .int .i64 12, .int .i64 20, .int .i64 14, .int .i64 12]
/-- the package's widths lie where the program lays them -/
def WdAt (w : World) : Prop := 0 < w.heap.size ∧ w.rangeAt 0 0 wdV.toList
theorem WdAt.bw {w w' : World} (h : WdAt w) (hb : Bw w w') : WdAt w' := ⟨Nat.lt_of_lt_of_le h.1 hb.size, fun j v hv => by rw [hb.cells.1 _ _ h.1]; exact h.2 j v hv⟩
def PGL : List (Int × Bool × Nat) := [(6, false, 0), (20, false, 1), (16, false, 2), (20, false, 3), (20, true, 4), (14, true, 5), (12, true, 6), (20, true, 7), (14, true, 8), (12, true, 9), (20, true, 10), (14, true, 11), (12, true, 12)]
theorem pgl_ok : okL PGL := ⟨by decide, by intro t ht; simp only [PGL, List.mem_cons, List.not_mem_nil, or_false] at ht; rcases ht with rfl | rfl | rfl | rfl | rfl | rfl | rfl | rfl | rfl | rfl | rfl | rfl | rfl <;> decide⟩
theorem idx13 (i : Nat) (hi : i < 13) (W : World) : (Instr.index 114 (.agg wdV) (.int .i64 (i : Int))).run Tryd.prog W = .ok (.int .i64 (PGL.getD i (0, false, 0)).1) W := by
  rcases (by omega : i = 0 ∨ i = 1 ∨ i = 2 ∨ i = 3 ∨ i = 4 ∨ i = 5 ∨ i = 6 ∨ i = 7 ∨ i = 8 ∨ i = 9 ∨ i = 10 ∨ i = 11 ∨ i = 12) with rfl | rfl | rfl | rfl | rfl | rfl | rfl | rfl | rfl | rfl | rfl | rfl | rfl
  · exact (show (Instr.index 114 (.agg #[.int .i64 6, .int .i64 20, .int .i64 16, .int .i64 20, .int .i64 20, .int .i64 14, .int .i64 12, .int .i64 20, .int .i64 14, .int .i64 12, .int .i64 20, .int .i64 14, .int .i64 12]) (.int .i64 0)).run Tryd.prog W = .ok (.int .i64 6) W by kernel_rfl)
  · exact (show (Instr.index 114 (.agg #[.int .i64 6, .int .i64 20, .int .i64 16, .int .i64 20, .int .i64 20, .int .i64 14, .int .i64 12, .int .i64 20, .int .i64 14, .int .i64 12, .int .i64 20, .int .i64 14, .int .i64 12]) (.int .i64 1)).run Tryd.prog W = .ok (.int .i64 20) W by kernel_rfl)
  · exact (show (Instr.index 114 (.agg #[.int .i64 6, .int .i64 20, .int .i64 16, .int .i64 20, .int .i64 20, .int .i64 14, .int .i64 12, .int .i64 20, .int .i64 14, .int .i64 12, .int .i64 20, .int .i64 14, .int .i64 12]) (.int .i64 2)).run Tryd.prog W = .ok (.int .i64 16) W by kernel_rfl)
  · exact (show (Instr.index 114 (.agg #[.int .i64 6, .int .i64 20, .int .i64 16, .int .i64 20, .int .i64 20, .int .i64 14, .int .i64 12, .int .i64 20, .int .i64 14, .int .i64 12, .int .i64 20, .int .i64 14, .int .i64 12]) (.int .i64 3)).run Tryd.prog W = .ok (.int .i64 20) W by kernel_rfl)
  · exact (show (Instr.index 114 (.agg #[.int .i64 6, .int .i64 20, .int .i64 16, .int .i64 20, .int .i64 20, .int .i64 14, .int .i64 12, .int .i64 20, .int .i64 14, .int .i64 12, .int .i64 20, .int .i64 14, .int .i64 12]) (.int .i64 4)).run Tryd.prog W = .ok (.int .i64 20) W by kernel_rfl)
  · exact (show (Instr.index 114 (.agg #[.int .i64 6, .int .i64 20, .int .i64 16, .int .i64 20, .int .i64 20, .int .i64 14, .int .i64 12, .int .i64 20, .int .i64 14, .int .i64 12, .int .i64 20, .int .i64 14, .int .i64 12]) (.int .i64 5)).run Tryd.prog W = .ok (.int .i64 14) W by kernel_rfl)
  · exact (show (Instr.index 114 (.agg #[.int .i64 6, .int .i64 20, .int .i64 16, .int .i64 20, .int .i64 20, .int .i64 14, .int .i64 12, .int .i64 20, .int .i64 14, .int .i64 12, .int .i64 20, .int .i64 14, .int .i64 12]) (.int .i64 6)).run Tryd.prog W = .ok (.int .i64 12) W by kernel_rfl)
  · exact (show (Instr.index 114 (.agg #[.int .i64 6, .int .i64 20, .int .i64 16, .int .i64 20, .int .i64 20, .int .i64 14, .int .i64 12, .int .i64 20, .int .i64 14, .int .i64 12, .int .i64 20, .int .i64 14, .int .i64 12]) (.int .i64 7)).run Tryd.prog W = .ok (.int .i64 20) W by kernel_rfl)
  · exact (show (Instr.index 114 (.agg #[.int .i64 6, .int .i64 20, .int .i64 16, .int .i64 20, .int .i64 20, .int .i64 14, .int .i64 12, .int .i64 20, .int .i64 14, .int .i64 12, .int .i64 20, .int .i64 14, .int .i64 12]) (.int .i64 8)).run Tryd.prog W = .ok (.int .i64 14) W by kernel_rfl)
  · exact (show (Instr.index 114 (.agg #[.int .i64 6, .int .i64 20, .int .i64 16, .int .i64 20, .int .i64 20, .int .i64 14, .int .i64 12, .int .i64 20, .int .i64 14, .int .i64 12, .int .i64 20, .int .i64 14, .int .i64 12]) (.int .i64 9)).run Tryd.prog W = .ok (.int .i64 12) W by kernel_rfl)
  · exact (show (Instr.index 114 (.agg #[.int .i64 6, .int .i64 20, .int .i64 16, .int .i64 20, .int .i64 20, .int .i64 14, .int .i64 12, .int .i64 20, .int .i64 14, .int .i64 12, .int .i64 20, .int .i64 14, .int .i64 12]) (.int .i64 10)).run Tryd.prog W = .ok (.int .i64 20) W by kernel_rfl)
  · exact (show (Instr.index 114 (.agg #[.int .i64 6, .int .i64 20, .int .i64 16, .int .i64 20, .int .i64 20, .int .i64 14, .int .i64 12, .int .i64 20, .int .i64 14, .int .i64 12, .int .i64 20, .int .i64 14, .int .i64 12]) (.int .i64 11)).run Tryd.prog W = .ok (.int .i64 14) W by kernel_rfl)
  · exact (show (Instr.index 114 (.agg #[.int .i64 6, .int .i64 20, .int .i64 16, .int .i64 20, .int .i64 20, .int .i64 14, .int .i64 12, .int .i64 20, .int .i64 14, .int .i64 12, .int .i64 20, .int .i64 14, .int .i64 12]) (.int .i64 12)).run Tryd.prog W = .ok (.int .i64 12) W by kernel_rfl)
theorem alFields_any (w : World) (hw : WdAt w) : Calls Tryd.prog 50 #[] w fun e w' => (∃ v', e = .returned v' ∧ RdF w' v' (fdsS PGL) ∧ Fresh w.heap.size v') ∧ Bw w w' := by
  have HWD := Lib.hid hw
  have HAB := Lib.hid (fun k hk => atS_bd pgl_ok k hk)
  have HX := Lib.hid (fun (i : Nat) (hi : i < 13) W => idx13 i hi W)
  have HLN : Hid (PGL.length = 13) := Lib.hid rfl
  have HSG := Lib.hid (show ∀ i, i < 13 → (PGL.getD i (0, false, 0)).2.1 = decide (3 < (i : Int)) from by decide)
  have HPB := Lib.hid (show ∀ i, i < 13 → 1 ≤ (PGL.getD i (0, false, 0)).1 ∧ (PGL.getD i (0, false, 0)).1 ≤ 40 from by decide)
  have HR0 := Lib.hid (show w.rangeAt 0 0 wdV.toList from hw.2)
  clear hw
  have HQ := Lib.hid (show fdsS PGL = (List.range 13).map (fdS PGL) from rfl)
  have HA1 := Lib.hid (show ∀ k, atS PGL (k + 1) = atS PGL k + (PGL.getD k (0, false, 0)).1 from fun k => rfl)
  have HF1 := Lib.hid (show ∀ k, fdS PGL k = ⟨atS PGL k, (PGL.getD k (0, false, 0)).1, (PGL.getD k (0, false, 0)).2.1, 1, 0⟩ from fun k => rfl)
  have HAT0 := Lib.hid (show atS PGL 0 = 0 from rfl)
  generalize fdsS PGL = FS at *
  generalize hfd : fdS PGL = FD at *
  generalize hat : atS PGL = AT at *
  clear hfd hat
  obtain ⟨WV, hWV⟩ : ∃ WV, WV = wdV := ⟨_, rfl⟩
  have HSZ : Hid ((Tryd.prog.info? 114).map (·.size) = some wdV.toList.length) := Lib.hid (by kernel_rfl)
  rw [← hWV] at HX HR0 HSZ
  clear hWV
  obtain ⟨BB, hBB⟩ : ∃ BB, w.heap.size = BB := ⟨_, rfl⟩
  have HB := Lib.hid hBB
  rw [hBB]
  clear hBB
  go_enter Tryd.func50, Tryd.ntmps50
  go_upto_region 4 with ((with_reducible refine at_load 114 (.global 0) ?_); refine wpList_load_mid rfl 114 (.global 0) rfl 0 0 rfl WV.toList _ HR0.out Tryd.underlying114 rfl HSZ.out ?_)
  go_wp2
  go_loopg [1, 2, 6] 13 (fun gg s1 s2 s6 wr => ∃ k : Nat, k ≤ 13 ∧ 13 - k ≤ gg ∧ s6 = .int .i64 k ∧ s2 = .int .i64 (AT k) ∧ Hid (Bw w wr) ∧ Hid (wr.ownsRow BB 83 5 s1 ((List.range k).map FD).length (flatF ((List.range k).map FD))))
  case atStart => exact ⟨0, by omega, by omega, rfl, by rw [HAT0.out], Lib.hid (Bw.refl _), Lib.hid (World.ownsRow_nil _ _ _ _)⟩
  case round =>
    obtain ⟨k, hk, hgg, rfl, rfl, HW, O1⟩ := hrel
    by_cases hlt : k < 13
    · have hkz : (k : Int) < 13 := by omega
      have hk0 : (0 : Int) ≤ k := by omega
      have hix := HX.out k hlt
      have hsg := HSG.out k hlt
      have hpb := HPB.out k hlt
      have hab := HAB.out k (by rw [HLN.out]; omega)
      have HA := Lib.hid (HA1.out k)
      have HF := Lib.hid (HF1.out k)
      rw [hsg] at HF
      have HT := Lib.hid (show (List.range (k + 1)).map FD = (List.range k).map FD ++ [FD k] by rw [List.range_succ, List.map_append]; rfl)
      have HL1 := Lib.hid (show ((List.range k).map FD).length = k by rw [List.length_map, List.length_range])
      clear hsg
      generalize (List.range k).map FD = l1 at O1 HT HL1
      generalize FD k = F at HF HT
      generalize hAk : AT k = A at *
      generalize (PGL.getD k (0, false, 0)).1 = tn at *
      have HG3 := Lib.hid (show ((k : Int) > 3) = (3 < (k : Int)) from rfl)
      obtain ⟨tg, htg⟩ : ∃ tg, decide (3 < (k : Int)) = tg := ⟨_, rfl⟩
      rw [htg] at HF
      have hkb : (k : Int) < 13 := hkz
      go_upto_region 6 with fail
      clear hix
      have hF := HF.out
      subst hF
      go_wp2_with (at_builtin; have hba := Bw.alloc (Bw.refl wr) (.cells #[.int .i64 A, .int .i64 tn, .bool tg, .int .i64 1, .int .i64 0] 83); have NB := Lib.hid (Blk.new wr 83 #[.int .i64 A, .int .i64 tn, .bool tg, .int .i64 1, .int .i64 0]); replace O1 := Lib.hid (own_bw O1.out hba); replace HW := Lib.hid (HW.out.trans hba); clear hba; go_loud (refine wpList_append_fld rfl (.tmp 10) (.tmp 16) _ rfl BB Tryd.underlying80 _ l1 ⟨A, tn, tg, 1, 0⟩ rfl O1.out _ 83 rfl NB.out (by have := HL1.out; omega) (by have := HW.out.size; have := HB.out; simp only [World.size_alloc] at *; omega) ?_; intro v8 w8 hown hgr; have hb8 := Bw.grownN HB.out HW.out O1.out hgr; have HW8 := Lib.hid hb8; have O8 := Lib.hid hown; clear hown hgr hb8))
      go_roundg (13 - (k + 1))
      case measure => omega
      case rel => exact ⟨k + 1, by omega, by omega, by go_num, by rw [HA.out], HW8, Lib.hid (by rw [HT.out]; exact O8.out)⟩
    · obtain rfl : k = 13 := by omega
      have hkz : ¬ ((13 : Nat) : Int) < 13 := by omega
      have HR := Lib.hid (own_rdF O1.out (by rw [List.length_map, List.length_range]; omega))
      rw [← HQ.out] at HR
      go_wp2
      go_ret
      exact ⟨⟨_, rfl, HR.out.1, HR.out.2⟩, HW.out⟩
end Go.Proofs.Sky

namespace Go.Proofs.Sky
open Go Go.RowKit
/-- all but one block is kept -/
structure Kx (g : Nat) (w w' : World) : Prop where
  b : Below g w w'
  oth : ∀ b, b < w.heap.size → b ≠ g → w'.heap[b]? = w.heap[b]?
theorem Kx.size {g : Nat} {w w' : World} (h : Kx g w w') : w.heap.size ≤ w'.heap.size := Below.size h.b
theorem Kx.of_bw {g : Nat} {w w' : World} (h : Bw w w') (hg : g ≤ w.heap.size) : Kx g w w' := ⟨Below.mono h hg, fun b hb _ => h.out.block b hb⟩
theorem Kx.trans {g : Nat} {a b c : World} (h : Kx g a b) (k : Kx g b c) : Kx g a c :=
  ⟨Below.trans h.b k.b, fun x hx hn => (k.oth x (Nat.lt_of_lt_of_le hx h.size) hn).trans (h.oth x hx hn)⟩
theorem Kx.blk {g b : Nat} {w w' : World} {T : TypeId} {cs : Array Value} (h : Kx g w w') (hB : Blk w b T cs) (hn : b ≠ g) : Blk w' b T cs := (h.oth b hB.lt hn).trans hB
theorem Kx.bw {g : Nat} {a w w' : World} (h : Kx g w w') (hb : Bw a w) (hg : a.heap.size ≤ g) : Bw a w' := Below.trans hb (Below.mono h.b hg)
theorem Kx.set {g j : Nat} {w : World} (hg : g < w.heap.size) (v : Value) : Kx g w (w.setCell ⟨g, j, none⟩ v) :=
  ⟨Below.setCell (p := ⟨g, j, none⟩) (Below.refl g w) (Nat.le_refl g) v, fun b _ hn => heap_setCell_other w ⟨g, j, none⟩ b v (by simpa using hn)⟩
theorem Kx.rdI {g base : Nat} {w w' : World} {v : Value} {zs : List Int} (h : Kx g w w') (hr : RdI w v zs) (hf : Fresh base v) (hg : g < base) : RdI w' v zs := by
  obtain ⟨h2, a, cap, rfl, h4⟩ := hr
  refine ⟨h2, a, cap, rfl, ?_⟩
  rcases h4 with h4 | ⟨b', off, rfl, h6, h7⟩
  · exact .inl h4
  · have := hf b' rfl
    refine .inr ⟨b', off, rfl, Nat.lt_of_lt_of_le h6 h.size, fun i hi => ?_⟩
    rw [World.cell?_of_block (h.oth b' h6 (by omega))]; exact h7 i hi
end Go.Proofs.Sky

namespace Go.Proofs.Sky
open Go Go.RowKit Go.Shelf
attribute [local go_sem] Oper.semAt_some
set_option maxHeartbeats 4000000
set_option maxRecDepth 8000
/-! the almanac: the numbers of a page, a range over a function -/
theorem infoPtr : (Tryd.prog.info? 86).map (fun i => (i.zero, i.size, i.bytes)) = some (some (.pointer none), 1, 8) := by kernel_rfl
theorem bw_grownN {a b c : World} {e : TypeId} {k : Nat} {v : Value} {m n : Nat} {xs : List Value} (hn : a.heap.size = n) (h : Bw a b) (ho : b.ownsRow n e k v m xs) (hg : b.grownBy c v.ownBlock) : Bw a c := by
  subst hn; exact h.grown ho hg
theorem wpList_append_vals {ops : Array Oper} {rest : List Oper} {o : Oper} {a : Act} {w : World} {Q : Exit → Act → World → Prop} (hgd : o.guard = none) (s x : Operand) (t : TypeId)
    (ho : o.op = .call { callee := .builtin .append, args := #[s, x], argTypes := #[t, t] })
    (base : Nat) (e : TypeId) (z : Value) (ht : Tryd.prog.underlying t = some (.slice e)) (hi : (Tryd.prog.info? e).map (fun i => (i.zero, i.size, i.bytes)) = some (some z, 1, 8)) (hz : z.cells.size = 1)
    (v : Value) (n : Nat) (xs : List Value) (hs : a.eval s = v) (hown : w.ownsRow base e 1 v n xs)
    (b c m : Nat) (news : List Value) (hx : a.eval x = .slice (some ⟨b, 0, none⟩) m c) (hm : news.length = m) (hb : ∀ j u, news[j]? = some u → w.cell? ⟨b, j, none⟩ = some u) (h1 : ∀ u ∈ news, u.oneCell' = true)
    (hn : n + m ≤ 1000000) (hbase : base ≤ w.heap.size)
    (h : ∀ v' w', w'.ownsRow base e 1 v' (n + m) (xs ++ news) → w.grownBy w' v.ownBlock → wpList Tryd.prog ops Q rest (a.put o.dst v') w') : wpList Tryd.prog ops Q (o :: rest) a w := by
  obtain ⟨i, hi, hzz⟩ := Option.map_eq_some_iff.1 hi
  simp only [Prod.mk.injEq] at hzz
  obtain ⟨hz0, hz1, hz2⟩ := hzz
  refine wpList_append_own w hgd s x t ho base e i _ 1 8 ht hi hz0 hz1 hz2 hz (by decide) v n xs hs hown ⟨b, 0, none⟩ m c news hx (by rw [hm, Nat.mul_one]) (fun j u hu => ?_) h1 (by unfold maxLen; omega) (by omega) hbase (fun v' w' h2 h3 _ => h v' w' h2 h3)
  have e1 : (⟨b, 0, none⟩ : Addr).add j = ⟨b, j, none⟩ := by
    have h1 : ∀ off : Nat, (⟨b, off, none⟩ : Addr).add j = ⟨b, off + j, none⟩ := fun off => by simp [Addr.add]
    rw [h1, Nat.zero_add]
  rw [e1]; exact hb j u hu
def ptrs (g : Nat) (n : Nat) : List Value := (List.range n).map fun k => .pointer (some ⟨g, k, none⟩)
theorem ptrs_succ (g n : Nat) : ptrs g (n + 1) = ptrs g n ++ [.pointer (some ⟨g, n, none⟩)] := by unfold ptrs; rw [List.range_succ, List.map_append]; rfl

theorem alNumbers_any (p : Option Addr) (w : World) : Calls Tryd.prog 51 #[.pointer p] w fun e w' => e = .returned (.func (.func 74) #[] #[.pointer (some ⟨w.heap.size, 0, none⟩)]) ∧ w' = w.alloc (.cells #[.pointer p] 94) := by
  go_enter Tryd.func51, Tryd.ntmps51
  go_wp2
  go_ret
  exact ⟨rfl, rfl⟩
/-- every cell but those of block g is kept -/
def KpX (g : Nat) (W W' : World) : Prop := ∀ b o v, b ≠ g → W.cell? ⟨b, o, none⟩ = some v → W'.cell? ⟨b, o, none⟩ = some v
theorem kpX_t {g : Nat} {X Y Z : World} (h : KpX g X Y) (k : KpX g Y Z) : KpX g X Z := fun b o v hn hc => k b o v hn (h b o v hn hc)
theorem kpX_refl (g : Nat) (W : World) : KpX g W W := fun _ _ _ _ h => h
theorem kpX_bw (g : Nat) {W W' : World} (h : Bw W W') : KpX g W W' := fun _ _ _ _ hc => h.cell' hc
theorem kpX_set (g o : Nat) (W : World) (v : Value) : KpX g W (W.setCell ⟨g, o, none⟩ v) := fun b o' u hn hc => by rw [cell_set_ne _ _ _ _ _ _ (fun e => hn e.symm)]; exact hc
theorem kpX_b {g n : Nat} (W : World) (l : Nat) (o o' : Obj) (_ : n ≤ l) (hl : W.heap[l]? = some o) (ho : o.isCells = false) (_ : o.isWalk = false) : KpX g W (W.putObj l o') := fun b i v _ hc => by
  obtain ⟨ob, h1, h2⟩ := cells_of_cell hc
  rw [World.cell?_of_block (World.putObj_heap_other (fun e => by subst e; rw [hl] at h1; cases h1; rw [ho] at h2; cases h2))]; exact hc
/-- what the sequence yields: the index, and a pointer at the number -/
def encN (g : Nat) (x : Nat) : Array Value := #[.int .i64 (cl 13 x), .pointer (some ⟨g, cl 13 x, none⟩)]
theorem Blk.eq {w : World} {g : Nat} {T : TypeId} {cs : Array Value} (h : Blk w g T cs) : w.heap[g]? = some (.cells cs T) := h
theorem Blk.kept {w w' : World} {g : Nat} {T e : TypeId} {cs : Array Value} {base k n : Nat} {v : Value} {xs : List Value} (hB : Blk w g T cs) (ho : w.ownsRow base e k v n xs) (hg : w.grownBy w' v.ownBlock) (hne : T ≠ e) : Blk w' g T cs := by
  refine (hg.block g hB.lt (fun e' => ?_)).trans hB
  rcases ho.2 with ⟨rfl, _⟩ | ⟨b, cap, cur, rfl, _, hh, _⟩
  · cases e'
  · have e2 : some b = some g := e'.symm ▸ rfl
    have e3 : b = g := Option.some.inj e2
    rw [← e3] at hB
    have h3 := hh.symm.trans hB.eq
    cases h3
    exact hne rfl
theorem own_cells13 {w : World} {base : Nat} {e : TypeId} {v : Value} {g : Nat} (h : w.ownsRow base e 1 v 13 (ptrs g 13)) : ∃ b c, v = .slice (some ⟨b, 0, none⟩) 13 c ∧ base ≤ b ∧ ∀ k, k < 13 → w.cell? ⟨b, k, none⟩ = some (.pointer (some ⟨g, k, none⟩)) := by
  rcases h.2 with ⟨_, h2⟩ | ⟨b, cap, cur, rfl, hb, hh, _⟩
  · cases h2
  · refine ⟨b, cap, rfl, hb, fun k hk => ?_⟩
    have hc := h.cellAt k (by omega)
    rw [hc]
    unfold ptrs
    rw [List.getElem?_map, List.getElem?_range hk]
    rfl
theorem Bw.grNone {w w' : World} (h : Bw w w') : w.grownBy w' none := ⟨h.out.os, h.out.tape, h.out.output, h.size, fun k hk _ => h.out.block k hk⟩
theorem own4 {w' : World} {b B : Nat} {e : TypeId} {c0 c1 c2 c3 : Value} (hB : B ≤ b) (h : Blk w' b e #[c0, c1, c2, c3]) : w'.ownsRow B e 1 (.slice (some ⟨b, 0, none⟩) 4 4) 4 [c0, c1, c2, c3] :=
  ⟨rfl, .inr ⟨b, 4, _, rfl, hB, h, by omega, by unfold maxLen; omega, rfl, rfl⟩⟩
set_option maxRecDepth 100000 in
theorem numbers_stops (g B : Nat) (w : World) (hB : B < w.heap.size) (c0 : w.cell? ⟨B, 0, none⟩ = some (.pointer (some ⟨g, 0, none⟩))) (hg : g < w.heap.size) :
    SeqStopsK Fence.wide 9 Tryd.prog 74 #[.pointer (some ⟨B, 0, none⟩)] (encN g) (KpX g) (fun xs => xs = List.range 13) (fun pre => ∃ k, k ≤ 13 ∧ pre = List.range k) 13 w := fun l J Jx W hW hJa _ hY h0 => by
  have d0 := (hW.cell (p := ⟨B, 0, none⟩) hB).trans c0
  have hgW : g < W.heap.size := Nat.lt_of_lt_of_le hg hW.size
  clear c0 hW
  have hY' := Lib.hid hY; clear hY
  have H0 := Lib.hid h0; clear h0
  have HA := Lib.hid hJa; clear hJa
  refine callsIn_of_wp Tryd.func74 rfl trivial ?_ rfl
  simp only [Tryd.ntmps74, List.size_toArray, List.length_cons, List.length_nil, Nat.reduceAdd, Nat.reduceSub, Array.replicate_succ, Array.replicate_zero, List.push_toArray, List.append_toArray, List.nil_append, List.cons_append]
  refine wpIn_wide.2 ?_
  obtain ⟨BB, hBB⟩ : ∃ BB, W.heap.size = BB := ⟨_, rfl⟩
  have HB := Lib.hid hBB
  rw [hBB] at hgW
  clear hBB
  have e0 := fun p : Ext W => Ext.cell' d0 p
  go_upto_region 0 with fail
  (refine wp_region_ext_tail 12 (by kernel_rfl) (by kernel_rfl) ?_; simp only [List.take_succ_cons, List.take_zero, List.drop_succ_cons, List.drop_zero]; (repeat (go_big_quiet_step ((fail)))); refine wpQuiet_nil ?_; rintro w0 ⟨⟨_, hbq⟩, rfl⟩; obtain ⟨hccq, hffq⟩ := Bw.cells hbq; have hszq := Bw.size hbq)
  go_upto_region 1 with fail
  have NB := Lib.hid (Blk.new w0 86 #[.pointer (some ⟨g, 0, none⟩), .pointer (some ⟨g, 1, none⟩), .pointer (some ⟨g, 2, none⟩), .pointer (some ⟨g, 3, none⟩)])
  have hb1 : Bw W (w0.alloc (.cells #[.pointer (some ⟨g, 0, none⟩), .pointer (some ⟨g, 1, none⟩), .pointer (some ⟨g, 2, none⟩), .pointer (some ⟨g, 3, none⟩)] 86)) := (by repeat (first | exact Bw.refl _ | assumption | refine Bw.alloc ?_ _ | refine Bw.drew ?_ | refine Bw.trans ?_ (by assumption) | refine Bw.setCell ?_ (by simp; try omega) _))
  have O1 := Lib.hid (own4 hszq NB.out)
  have HG1 : w0.heap.size = w0.heap.size := rfl
  obtain ⟨W1, hW1⟩ : ∃ W1, (w0.alloc (.cells #[.pointer (some ⟨g, 0, none⟩), .pointer (some ⟨g, 1, none⟩), .pointer (some ⟨g, 2, none⟩), .pointer (some ⟨g, 3, none⟩)] 86)) = W1 := ⟨_, rfl⟩
  rw [hW1] at hb1 O1 ⊢
  obtain ⟨b1, hb1e⟩ : ∃ b1, w0.heap.size = b1 := ⟨_, rfl⟩
  rw [hb1e] at O1 ⊢
  have d1 := hb1.cell' d0
  clear NB HG1 hW1 hb1e hszq hccq hffq hbq e0 d0
  have HW1 := Lib.hid hb1
  have HGW := Lib.hid hgW
  clear hb1 hgW
  go_region
  have NB := Lib.hid (Blk.new W1 59 #[.pointer (some ⟨g, 4, none⟩), .pointer (some ⟨g, 7, none⟩), .pointer (some ⟨g, 10, none⟩)])
  have hb2 : Bw W1 (W1.alloc (.cells #[.pointer (some ⟨g, 4, none⟩), .pointer (some ⟨g, 7, none⟩), .pointer (some ⟨g, 10, none⟩)] 59)).drew := (by repeat (first | exact Bw.refl _ | assumption | refine Bw.alloc ?_ _ | refine Bw.drew ?_ | refine Bw.trans ?_ (by assumption) | refine Bw.setCell ?_ (by simp; try omega) _))
  replace O1 := Lib.hid (own_bw O1.out hb2)
  obtain ⟨W2, hW2⟩ : ∃ W2, (W1.alloc (.cells #[.pointer (some ⟨g, 4, none⟩), .pointer (some ⟨g, 7, none⟩), .pointer (some ⟨g, 10, none⟩)] 59)).drew = W2 := ⟨_, rfl⟩
  replace NB : Hid (Blk W2 W1.heap.size 59 #[.pointer (some ⟨g, 4, none⟩), .pointer (some ⟨g, 7, none⟩), .pointer (some ⟨g, 10, none⟩)]) := Lib.hid (by rw [← hW2]; exact NB.out.bw (by repeat (first | exact Bw.refl _ | assumption | refine Bw.alloc ?_ _ | refine Bw.drew ?_ | refine Bw.trans ?_ (by assumption) | refine Bw.setCell ?_ (by simp; try omega) _)))
  rw [hW2] at hb2 O1 ⊢
  obtain ⟨b2, hb2e⟩ : ∃ b2, W1.heap.size = b2 := ⟨_, rfl⟩
  rw [hb2e] at NB ⊢
  replace HW1 := Lib.hid (HW1.out.trans hb2)
  have h3 : Hid ([.pointer (some ⟨g, 0, none⟩), .pointer (some ⟨g, 1, none⟩), .pointer (some ⟨g, 2, none⟩), .pointer (some ⟨g, 3, none⟩)] = ptrs g (4 + 3 * 0)) := Lib.hid rfl
  rw [h3.out] at O1
  clear hb2 hW2 hb2e d1 h3
  go_wp2
  rw [HB.out] at O1
  go_loopg [3, 33] 3 (fun gg s3 s33 wr => ∃ k : Nat, k ≤ 3 ∧ 3 - k ≤ gg ∧ s33 = .int .i64 k ∧ Hid (Bw W wr) ∧ Hid (Blk wr b2 59 #[.pointer (some ⟨g, 4, none⟩), .pointer (some ⟨g, 7, none⟩), .pointer (some ⟨g, 10, none⟩)]) ∧ Hid (wr.ownsRow BB 86 1 s3 (4 + 3 * k) (ptrs g (4 + 3 * k))))
  case atStart => exact ⟨0, by omega, by omega, rfl, HW1, NB, O1⟩
  case round =>
    clear O1 NB HW1
    obtain ⟨k, hk, hgg, rfl, HW, NB, O1⟩ := hrel
    by_cases hlt : k < 3
    · have hkz : (k : Int) < 3 := by omega
      have hk0 : (0 : Int) ≤ k := by omega
      have hcl : wr.cell? ⟨b2, k, none⟩ = some (.pointer (some ⟨g, 4 + 3 * k, none⟩)) := NB.out.cell (by rcases (by omega : k = 0 ∨ k = 1 ∨ k = 2) with rfl | rfl | rfl <;> rfl)
      go_wp2
      clear hcl
      go_loopg [3, 37] 3 (fun gg s3 s37 wr2 => ∃ j : Nat, j ≤ 3 ∧ 3 - j ≤ gg ∧ s37 = .int .i64 j ∧ Hid (Bw W wr2) ∧ Hid (Blk wr2 b2 59 #[.pointer (some ⟨g, 4, none⟩), .pointer (some ⟨g, 7, none⟩), .pointer (some ⟨g, 10, none⟩)]) ∧ Hid (wr2.ownsRow BB 86 1 s3 (4 + 3 * k + j) (ptrs g (4 + 3 * k + j))))
      case atStart => exact ⟨0, by omega, by omega, rfl, HW, NB, O1⟩
      case round =>
        clear O1 NB HW
        obtain ⟨j, hj, hgj, rfl, HW, NB, O1⟩ := hrel
        by_cases hlj : j < 3
        · have hjz : (j : Int) < 3 := by omega
          have hj0 : (0 : Int) ≤ j := by omega
          go_wp2_with (at_builtin; go_loud (have hba := Bw.alloc (Bw.refl wr) (.cells #[.pointer (some ⟨g, 4 + 3 * k + j, none⟩)] 86); have NB2 := Lib.hid (Blk.new wr 86 #[.pointer (some ⟨g, 4 + 3 * k + j, none⟩)]); replace O1 := Lib.hid (own_bw O1.out hba); replace NB := Lib.hid (NB.out.bw hba); replace HW := Lib.hid (HW.out.trans hba); clear hba; refine wpList_append_vals rfl (.tmp 40) (.tmp 45) _ rfl BB 86 (.pointer none) Tryd.underlying116 infoPtr rfl _ (4 + 3 * k + j) (ptrs g (4 + 3 * k + j)) rfl O1.out _ _ 1 [.pointer (some ⟨g, 4 + 3 * k + j, none⟩)] rfl rfl (fun j u hu => NB2.out.cell (by simpa using hu)) (fun u hu => by simp at hu; subst hu; rfl) (by omega) (by have := HW.out.size; have := HB.out; omega) ?_; intro v7 w7 hown hgr; rw [← ptrs_succ] at hown; replace NB := Lib.hid (NB.out.kept O1.out hgr (by decide)); replace HW := Lib.hid (bw_grownN HB.out HW.out O1.out hgr); replace O1 := Lib.hid hown; clear hown hgr NB2))
          go_roundg (3 - (j + 1))
          case measure => omega
          case rel => exact ⟨j + 1, by omega, by omega, by go_num, HW, NB, O1⟩
        · obtain rfl : j = 3 := by omega
          go_wp2
          go_roundg (3 - (k + 1))
          case measure => omega
          case rel => exact ⟨k + 1, by omega, by omega, by go_num, HW, NB, by have h9 : 4 + 3 * (k + 1) = 4 + 3 * k + 3 := by omega
                                                                              rw [h9]; exact O1⟩
    · obtain rfl : k = 3 := by omega
      have HR := Lib.hid (own_cells13 O1.out)
      obtain ⟨b3, c3, rfl, hb3, hc3⟩ := HR.out
      have HC := Lib.hid hc3
      have HGB := Lib.hid (show b3 ≠ g from by have := HGW.out; omega)
      have h0 := HA.out [] W wr none H0.out HW.out.grNone (by rintro r e; cases e)
      clear hc3 HR NB O1 H0 HA
      go_upto_region 10 with fail
      refine (wpIn_wide (n := 9)).1 ?_
      obtain ⟨W9, hW9⟩ : ∃ W9, wr = W9 := ⟨_, rfl⟩
      rw [hW9] at h0 HC ⊢
      clear hW9 HW
      gi_wp2
      refine (wpIn_wide (n := 9)).1 ?_
      gi_wp2
      gi_loopw [51] (fun i wr => ∃ k : Nat, k ≤ 13 ∧ i = .int .i64 k ∧ J (List.range k) wr ∧ Hid (KpX g W9 wr)) (fun i _ => 13 - (intOf i).toNat)
      case atStart => exact ⟨0, Nat.zero_le _, rfl, h0, Lib.hid (kpX_refl _ _)⟩
      case round =>
        obtain ⟨k, hk, rfl, hJs, hkp⟩ := hrel
        by_cases hlt : k < 13
        · have hlti : (k : Int) < 13 := by omega
          have hk0 : (0 : Int) ≤ k := by omega
          have hcl := hkp.out _ _ _ HGB.out (HC.out k hlt)
          obtain ⟨fn, tmps, assign, body, hy, hR⟩ := hY'.out _ k wr hJs (by simpa using hlt)
          have HR := Lib.hid hR
          clear hR
          unfold encN at hy
          rw [cl_of 13 k hlt] at hy
          gi_wp2
          refine HR.out.mono ?_
          rintro e W3 (⟨rfl, hJ3, hk3⟩ | ⟨rfl, hJx3⟩)
          · have HJ3 := Lib.hid hJ3
            have HK3 := Lib.hid (kpX_t hkp.out hk3)
            clear hJ3 hk3 hJs hkp hcl
            gi_wp2
            go_roundw
            case rel =>
             refine ⟨_, _, _, _, _, _, _, _, _, _, _, _, _, ⟨k + 1, by omega, ?zzq, by rw [List.range_succ]; exact HJ3.out, HK3⟩, rfl⟩
             go_num
            case measure => simp [intOf]; omega
          · have HJ3 := Lib.hid hJx3
            clear hJx3
            gi_wp2
            refine bodyPost_ret (results_none rfl _ _ _) rfl ?_
            exact ⟨⟨_, rfl⟩, .inr ⟨_, ⟨k + 1, by omega, List.range_succ.symm⟩, HJ3.out⟩⟩
        · obtain rfl : k = 13 := by omega
          gi_wp2
          go_end0
          exact ⟨⟨_, rfl⟩, .inl ⟨_, rfl, hJs⟩⟩
end Go.Proofs.Sky

namespace Go.Proofs.Sky
open Go Go.RowKit Go.Shelf
attribute [local go_sem] Oper.semAt_some
set_option maxHeartbeats 4000000
set_option maxRecDepth 8000
/-! the almanac: a range over the numbers of a page -/
theorem range_numbers {gv : Operand} {tps : Array Tmp} {assign body : Code} {Q : Exit → Act → World → Prop} {act : Act} {w : World} (g B : Nat) (hB : B < w.heap.size) (c0 : w.cell? ⟨B, 0, none⟩ = some (.pointer (some ⟨g, 0, none⟩))) (hgw : g < w.heap.size)
    (hg : act.eval gv = .func (.func 74) #[] #[.pointer (some ⟨B, 0, none⟩)]) (hps : tps.size = 2)
    (I : List Nat → World → Prop) (Ix : Code → List Nat → World → Prop) (hI : OwnFrom w.heap.size I) (hIx : ∀ c, OwnFrom w.heap.size (Ix c)) (h0 : I [] w) (ups : Nat → List (Nat × Value))
    (hassign : ∀ (l : Nat) (y : Nat) (W : World) (K : Act → World → Prop), y < 13 → K { tmps := (ups y).foldl (fun t p => t.setIfInBounds p.1 p.2) act.tmps, defers := [] } W →
      assign.wpIn (Fence.wide.inRound l) 8 Tryd.prog (Exit.then K (fun _ _ _ => False)) { tmps := (tps.zip #[.int .i64 y, .pointer (some ⟨g, y, none⟩)]).foldl (fun t (p, v) => t.setIfInBounds p v) act.tmps, defers := [] } W)
    (hbody : ∀ (l : Nat) (pre : List Nat) (y : Nat) (W : World), y < 13 → pre.length < 13 → I pre W → body.wpIn (Fence.wide.inRound l) 8 Tryd.prog (ownPostG w.heap.size (KpX g) I Ix (pre ++ [y]) W) { tmps := (ups y).foldl (fun t p => t.setIfInBounds p.1 p.2) act.tmps, defers := [] } W)
    (hdone : ∀ (D : Nat) (W : World), w.heap.size ≤ D → I (List.range 13) W → W.heap[D]? = some (.deferred (some [])) → Q .normal { act with defers := mk D :: act.defers } W)
    (hstop : ∀ (D : Nat) (c : Code) (k : Nat) (W : World), w.heap.size ≤ D → k ≤ 13 → Ix c (List.range k) W → W.heap[D]? = some (.deferred (some [])) → c.wp Tryd.prog Q { act with defers := mk D :: act.defers } W) :
    (Code.rangeFunc gv tps assign body).wp Tryd.prog Q act w := by
  refine wp_rangeFunc hg (enters_of Tryd.func74 (by kernel_rfl) rfl) (numbers_stops g B w hB c0 hgw) kpX_t kpX_b (fun _ => hps.symm) (fun pre W => I (pre.map (cl 13)) W) (fun c pre W => Ix c (pre.map (cl 13)) W)
    (fun s W W' row hs hg hr => hI _ W W' row hs hg hr) (fun c s W W' row hs hg hr => hIx c _ W W' row hs hg hr) h0 (fun x => { tmps := (ups (cl 13 x)).foldl (fun t p => t.setIfInBounds p.1 p.2) act.tmps, defers := [] })
    (fun l x W K hK => hassign l (cl 13 x) W K (cl_lt _ x (by omega)) hK) (fun l pre x W hi hl => ?_) (fun D xs W hD hS hi hK => ?_) (fun D c pre W hD hS hi hK => by
      obtain ⟨k, hk, rfl⟩ := hS
      rw [map_cl _ k hk] at hi
      exact hstop D c k W hD hk hi hK)
  · refine wpIn_mono (hbody l (pre.map (cl 13)) (cl 13 x) W (cl_lt _ x (by omega)) (by simpa using hl) hi) ?_
    intro e a' W' hp
    have hm : (pre ++ [x]).map (cl 13) = pre.map (cl 13) ++ [cl 13 x] := by simp
    cases e with
    | normal => exact ⟨hp.1, hp.2.1, by show I _ _; rw [hm]; exact hp.2.2⟩
    | ret => exact ⟨hp.1, by show Ix _ _ _; rw [hm]; exact hp.2⟩
    | exit id => exact ⟨hp.1, by show Ix _ _ _; rw [hm]; exact hp.2⟩
    | goto t => exact ⟨hp.1, by show Ix _ _ _; rw [hm]; exact hp.2⟩
    | panic ch => exact hp.elim
    | outgrown => exact hp.elim
  · subst hS
    rw [map_cl _ _ (Nat.le_refl _)] at hi
    exact hdone D W hD hi hK
end Go.Proofs.Sky

namespace Go.Proofs.Sky
open Go Go.RowKit Go.Shelf
set_option maxHeartbeats 4000000
set_option maxRecDepth 4000
/-! chapter 26: which ephemerides are valid -/
def okT (x : Nat → Int) (t : Int × Bool × Nat) : Bool := decide (lowR t.1 t.2.1 ≤ x t.2.2 ∧ x t.2.2 ≤ highR t.1 t.2.1)
def errE (x : Nat → Int) : Int := if ((LS 0).all (okT x) && (LS 1).all (okT x) && (LS 2).all (okT x)) && decide (1 ≤ x 0 ∧ x 2 < 604800) then 0 else 2
def eV (x : Nat → Int) : Array Value := #[.int .i64 (x 0), .int .i64 (x 1), .int .i64 (x 2), .int .i64 (x 3), .int .i64 (x 4), .int .i64 (x 5), .int .i64 (x 6), .int .i64 (x 7), .int .i64 (x 8), .int .i64 (x 9), .int .i64 (x 10), .int .i64 (x 11), .int .i64 (x 12), .int .i64 (x 13), .int .i64 (x 14), .int .i64 (x 15), .int .i64 (x 16), .int .i64 (x 17), .int .i64 (x 18)]
theorem eV_at (x : Nat → Int) (i : Nat) (h : i < 19) : (eV x)[i]? = some (.int .i64 (x i)) := by
  match i, h with
  | 0, _ => rfl
  | 1, _ => rfl
  | 2, _ => rfl
  | 3, _ => rfl
  | 4, _ => rfl
  | 5, _ => rfl
  | 6, _ => rfl
  | 7, _ => rfl
  | 8, _ => rfl
  | 9, _ => rfl
  | 10, _ => rfl
  | 11, _ => rfl
  | 12, _ => rfl
  | 13, _ => rfl
  | 14, _ => rfl
  | 15, _ => rfl
  | 16, _ => rfl
  | 17, _ => rfl
  | 18, _ => rfl
  | n + 19, h => exact absurd h (by omega)
theorem layouts_V (w : World) : Calls Tryd.prog 46 #[] w fun e w' => (∃ V : Nat → Value, e = .returned (.agg #[V 0, V 1, V 2]) ∧ ∀ k, k < 3 → LayAt w' w.heap.size (V k) (LS k)) ∧ Bw w w' := by
  refine (layouts_any w).mono ?_
  rintro e w' ⟨⟨v0, v1, v2, rfl, h0, h1, h2⟩, hb⟩
  refine ⟨⟨fun k => if k = 0 then v0 else if k = 1 then v1 else v2, rfl, fun k hk => ?_⟩, hb⟩
  match k, hk with
  | 0, _ => exact h0
  | 1, _ => exact h1
  | 2, _ => exact h2
theorem okL_LS (k : Nat) : okL (LS k) ∧ 0 < (LS k).length ∧ (LS k).length ≤ 8 ∧ ∀ t ∈ LS k, t.2.2 < 19 := by
  match k with
  | 0 => exact ⟨⟨by decide, by decide⟩, by decide, by decide, by decide⟩
  | 1 => exact ⟨⟨by decide, by decide⟩, by decide, by decide, by decide⟩
  | k + 2 => exact ⟨⟨by show ([(8, false, 1), (6, false, 0), (22, true, 13), (24, true, 14), (32, true, 15), (24, true, 16), (22, true, 17), (24, true, 18)] : List (Int × Bool × Nat)).length ≤ 100; decide, by show ∀ t ∈ ([(8, false, 1), (6, false, 0), (22, true, 13), (24, true, 14), (32, true, 15), (24, true, 16), (22, true, 17), (24, true, 18)] : List (Int × Bool × Nat)), _; decide⟩, by show 0 < ([(8, false, 1), (6, false, 0), (22, true, 13), (24, true, 14), (32, true, 15), (24, true, 16), (22, true, 17), (24, true, 18)] : List (Int × Bool × Nat)).length; decide, by show ([(8, false, 1), (6, false, 0), (22, true, 13), (24, true, 14), (32, true, 15), (24, true, 16), (22, true, 17), (24, true, 18)] : List (Int × Bool × Nat)).length ≤ 8; decide, by show ∀ t ∈ ([(8, false, 1), (6, false, 0), (22, true, 13), (24, true, 14), (32, true, 15), (24, true, 16), (22, true, 17), (24, true, 18)] : List (Int × Bool × Nat)), _; decide⟩
theorem errE_bad {x : Nat → Int} {k i : Nat} (hk : k < 3) (hi : i < (LS k).length) (h : okT x ((LS k).getD i (0, false, 0)) = false) : errE x = 2 := by
  have h1 : (LS k).all (okT x) = false := by
    rw [List.all_eq_false]
    exact ⟨_, getD_mem _ _ _ hi, by rw [h]; simp⟩
  unfold errE
  rw [if_neg]
  match k, hk with
  | 0, _ => rw [h1]; simp
  | 1, _ => rw [h1]; simp
  | 2, _ => rw [h1]; simp
theorem errE_end {x : Nat → Int} (h : ∀ l, l < 3 → (LS l).all (okT x) = true) : errE x = if 1 ≤ x 0 ∧ x 2 < 604800 then 0 else 2 := by
  unfold errE
  rw [h 0 (by omega), h 1 (by omega), h 2 (by omega)]
  simp
theorem all_get {x : Nat → Int} (L : List (Int × Bool × Nat)) (h : ∀ j, j < L.length → okT x (L.getD j (0, false, 0)) = true) : L.all (okT x) = true := by
  rw [List.all_eq_true]
  intro t ht
  obtain ⟨i, hi, rfl⟩ := List.mem_iff_getElem.1 ht
  have := h i hi
  rw [List.getD_eq_getElem?_getD, List.getElem?_eq_getElem hi] at this
  exact this
theorem ECheck_any (x : Nat → Int) (w : World) : Calls Tryd.prog 22 #[.agg (eV x)] w fun e w' => e = .returned (.int .i64 (errE x)) ∧ Bw w w' := by
  have HBW := Lib.hid (Bw.alloc (Bw.refl w) (.cells (eV x) 25))
  have KX := Lib.hid (Blk.new w 25 (eV x))
  unfold eV at HBW KX ⊢
  have LY := Lib.hid (fun W => layouts_V W)
  have FD := Lib.hid (fun k v base g W h1 h2 => layFields_any (LS k) v base g W (okL_LS k).1 (okL_LS k).2.1 h1 h2)
  have LM := Lib.hid (fun A n g W (h : fk A n 1 0) => Limits_ok A n g 1 0 (lowR n g) (highR n g) W h (by omega) (by omega))
  have IX := Lib.hid (fun V k h w => ixL V k h w)
  obtain ⟨E, hE⟩ : ∃ E, E = errE x := ⟨_, rfl⟩
  rw [← hE]
  have HE := Lib.hid hE
  clear hE
  go_enter Tryd.func22, Tryd.ntmps22
  go_upto_region 1 with fail
  obtain ⟨W0, hW0⟩ : ∃ W0, w.alloc (.cells #[.int .i64 (x 0), .int .i64 (x 1), .int .i64 (x 2), .int .i64 (x 3), .int .i64 (x 4), .int .i64 (x 5), .int .i64 (x 6), .int .i64 (x 7), .int .i64 (x 8), .int .i64 (x 9), .int .i64 (x 10), .int .i64 (x 11), .int .i64 (x 12), .int .i64 (x 13), .int .i64 (x 14), .int .i64 (x 15), .int .i64 (x 16), .int .i64 (x 17), .int .i64 (x 18)] 25) = W0 := ⟨_, rfl⟩
  rw [hW0] at HBW KX ⊢
  clear hW0
  replace KX := Lib.hid (show Blk W0 w.heap.size 25 (eV x) from KX.out)
  go_wp2_with (go_at_call 46; (with_reducible refine Calls.mono (LY.out _) ?_); rintro e1 w1 ⟨⟨V, rfl, hl9⟩, hb9⟩; have HL := Lib.hid hl9; replace HBW := Lib.hid (HBW.out.trans hb9); replace KX := Lib.hid (KX.out.bw hb9); clear hl9 hb9)
  go_loopg [12] 3 (fun gg s12 wr => ∃ k : Nat, k ≤ 3 ∧ 3 - k ≤ gg ∧ s12 = .int .i64 k ∧ Hid (∀ l, l < k → (LS l).all (okT x) = true) ∧ Hid (Bw w1 wr))
  case atStart => exact ⟨0, by omega, by omega, rfl, Lib.hid (fun l h => by omega), Lib.hid (Bw.refl _)⟩
  case round =>
    obtain ⟨k, hk, hgg, rfl, HA, HW⟩ := hrel
    obtain ⟨wa, rfl⟩ : ∃ wa, wa = wr := ⟨_, rfl⟩
    by_cases hlt : k < 3
    · have hkz : (k : Int) < 3 := by omega
      have hk0 : (0 : Int) ≤ k := by omega
      have hx := fun W => IX.out V k hlt W
      have hla := (HL.out k hlt).mono HW.out
      obtain ⟨a4, c4, hv4⟩ := hla.form
      have HBK := Lib.hid (fun i hi h => HE.out.trans (errE_bad hlt (i := i) hi h))
      have HOK := Lib.hid (okL_LS k)
      have HNX := Lib.hid (fun h => (fun l (hl : l < k + 1) => (by rcases Nat.lt_succ_iff_lt_or_eq.1 hl with h9 | rfl; exact HA.out l h9; exact all_get (LS l) h : (LS l).all (okT x) = true)))
      have FDK := Lib.hid (fun v base g W h1 h2 => FD.out k v base g W h1 h2)
      generalize LS k = L at hla hv4 HBK HOK HNX FDK
      obtain ⟨n, hn⟩ : ∃ n, n = L.length := ⟨_, rfl⟩
      rw [← hn] at hv4
      have HN := Lib.hid hn
      clear hn
      rw [hv4] at hx hla
      have HLA := Lib.hid hla
      clear hla hv4
      have BX := Lib.hid (Blk.new wa 77 #[.slice a4 n c4])
      have hba := Bw.alloc (Bw.refl wa) (.cells #[.slice a4 n c4] 77)
      obtain ⟨g4, hg4⟩ : ∃ g4, wa.heap.size = g4 := ⟨_, rfl⟩
      rw [hg4] at BX
      go_upto_region 4 with fail
      obtain ⟨W1, hW1⟩ : ∃ W1, wa.alloc (.cells #[.slice a4 n c4] 77) = W1 := ⟨_, rfl⟩
      rw [hW1] at BX hba ⊢
      clear hW1 hg4
      replace HW := Lib.hid (HW.out.trans hba)
      replace HLA := Lib.hid (HLA.out.mono hba)
      clear hba hx
      go_wp2_with (go_at_call 47; (with_reducible refine Calls.mono (FDK.out _ _ _ _ HLA.out BX.out) ?_); rintro e2 w2 ⟨⟨v15, rfl, hr9, _⟩, hb9⟩; obtain ⟨a15, c15, hv15⟩ := hr9.form; have HRF := Lib.hid hr9; replace HW := Lib.hid (HW.out.trans hb9); replace HLA := Lib.hid (HLA.out.mono hb9); replace BX := Lib.hid (BX.out.bw hb9); clear hr9 hb9; replace hv15 : v15 = .slice a15 n c15 := (by rw [hv15, show (fdsS L).length = n from (by unfold fdsS; rw [List.length_map, List.length_range]; exact HN.out.symm)]); subst hv15)
      go_loopg [17] 8 (fun gg s17 wr => ∃ i : Nat, i ≤ n ∧ n - i ≤ gg ∧ s17 = .int .i64 i ∧ Hid (∀ j, j < i → okT x (L.getD j (0, false, 0)) = true) ∧ Hid (Bw w2 wr))
      case atStart => exact ⟨0, by omega, by have := HN.out; have := HOK.out.2.2.1; omega, rfl, Lib.hid (fun j h => by omega), Lib.hid (Bw.refl _)⟩
      case round =>
        obtain ⟨i, hi, hgg2, rfl, HI, HX⟩ := hrel
        obtain ⟨wb, rfl⟩ : ∃ wb, wb = wr := ⟨_, rfl⟩
        by_cases hil : i < n
        · have hiz : (i : Int) < n := by omega
          have hi0 : (0 : Int) ≤ i := by omega
          have hiL : i < L.length := by have := HN.out; omega
          have hat : L[i]? = some (L.getD i (0, false, 0)) := by rw [List.getD_eq_getElem?_getD, List.getElem?_eq_getElem hiL]; rfl
          have hff : (fdsS L)[i]? = some (fdS L i) := by unfold fdsS; rw [List.getElem?_map, List.getElem?_range hiL]; rfl
          obtain ⟨bf, of_, cf, hvf, hcf⟩ := rdF_get (HRF.out.mono HX.out) (by unfold fdsS; rw [List.length_map, List.length_range]; omega)
          injection hvf with i1 i2 i3
          subst i1
          obtain ⟨f0, f1, f2, f3, f4⟩ := hcf i _ hff
          have hab := atS_bd HOK.out.1 i (by omega)
          have hln := HOK.out.1.1
          have hnb := HOK.out.1.2 _ (getD_mem L i (0, false, 0) hiL)
          have hjb := HOK.out.2.2.2 _ (getD_mem L i (0, false, 0) hiL)
          have hl8 := HOK.out.2.2.1
          have HBI := Lib.hid (fun h => HBK.out i hiL h)
          have HII := Lib.hid (fun (h : okT x (L.getD i (0, false, 0)) = true) => (fun j (hj : j < i + 1) => (by rcases Nat.lt_succ_iff_lt_or_eq.1 hj with h9 | rfl; exact HI.out j h9; exact h : okT x (L.getD j (0, false, 0)) = true)))
          obtain ⟨ps, q1, q2, _⟩ := (HLA.out.mono HX.out)
          obtain ⟨p, hp, e1, e2, e3⟩ := q2.at i _ hat
          obtain ⟨gid, cap, hpf, eg, hcall⟩ := e3.ok
          have HCL := Lib.hid hcall
          obtain ⟨bp, op, cp, hvp, hcp⟩ := q1.at (by have := q2.len; omega)
          injection hvp with j1 j2 j3
          subst j1
          obtain ⟨_, _, d2⟩ := hcp i p hp
          rw [hpf] at d2
          unfold fdS at f0 f1 f2 f3 f4
          dsimp only at f0 f1 f2 f3 f4
          generalize atS L i = A at *
          generalize (L.getD i (0, false, 0)) = t at *
          obtain ⟨tn, tg, tj⟩ := t
          dsimp only at hnb hjb f0 f1 f2 f3 f4 HCL
          have LMX := Lib.hid (fun W => LM.out A tn tg W (by unfold fk; omega))
          have hb8 := BX.out.bw HX.out
          have g0 := hb8.cell (j := 0) (v := .slice (some ⟨bp, op, none⟩) n c4) rfl
          have kx : wb.cell? ⟨w.heap.size, tj, none⟩ = some (.int .i64 (x tj)) := ((KX.out.bw (HW.out.trans HX.out)).cell (eV_at x tj hjb))
          clear hcall hcp hcf i2 i3 j2 j3 hat hff hp e1 e2 e3 q1 q2 hpf hb8
          have hzz : okT x (tn, tg, tj) = decide (lowR tn tg ≤ x tj ∧ x tj ≤ highR tn tg) := rfl
          rw [hzz] at HBI HII
          clear hzz
          generalize x tj = z at *
          generalize lowR tn tg = lo at *
          generalize highR tn tg = hg at *
          by_cases z1 : z < lo
          · have HG := Lib.hid (HBI.out (decide_eq_false (by omega)))
            clear HBI HII
            go_wp2_with (first | (go_at_call 48; (with_reducible refine Calls.mono (LMX.out _) ?_); rintro e3 w3 ⟨rfl, hb9⟩; have hbt : Bw wb w3 := (Bw.alloc (Bw.refl wb) (.cells #[.int .i64 A, .int .i64 tn, .bool tg, .int .i64 1, .int .i64 0] 83)).trans hb9; replace HX := Lib.hid (HX.out.trans hbt); have HT := Lib.hid hbt; replace kx := hbt.cell' kx; replace g0 := hbt.cell' g0; replace d2 := hbt.cell' d2; clear hbt hb9 f0 f1 f2 f3 f4) | (go_at_fn gid; refine Calls.mono (HCL.out _ HT.out _) ?_; rintro e4 w4 ⟨rfl, hb9⟩; replace HX := Lib.hid (HX.out.trans hb9); replace kx := hb9.cell' kx; clear hb9 g0 d2))
            go_ret
            exact ⟨ret_int HG.out.symm, HBW.out.trans (HW.out.trans HX.out)⟩
          by_cases z2 : hg < z
          · have HG := Lib.hid (HBI.out (decide_eq_false (by omega)))
            clear HBI HII
            go_wp2_with (first | (go_at_call 48; (with_reducible refine Calls.mono (LMX.out _) ?_); rintro e3 w3 ⟨rfl, hb9⟩; have hbt : Bw wb w3 := (Bw.alloc (Bw.refl wb) (.cells #[.int .i64 A, .int .i64 tn, .bool tg, .int .i64 1, .int .i64 0] 83)).trans hb9; replace HX := Lib.hid (HX.out.trans hbt); have HT := Lib.hid hbt; replace kx := hbt.cell' kx; replace g0 := hbt.cell' g0; replace d2 := hbt.cell' d2; clear hbt hb9 f0 f1 f2 f3 f4) | (go_at_fn gid; refine Calls.mono (HCL.out _ HT.out _) ?_; rintro e4 w4 ⟨rfl, hb9⟩; replace HX := Lib.hid (HX.out.trans hb9); replace kx := hb9.cell' kx; clear hb9 g0 d2))
            go_ret
            exact ⟨ret_int HG.out.symm, HBW.out.trans (HW.out.trans HX.out)⟩
          · have HG := Lib.hid (HII.out (decide_eq_true (by omega)))
            clear HBI HII
            go_wp2_with (first | (go_at_call 48; (with_reducible refine Calls.mono (LMX.out _) ?_); rintro e3 w3 ⟨rfl, hb9⟩; have hbt : Bw wb w3 := (Bw.alloc (Bw.refl wb) (.cells #[.int .i64 A, .int .i64 tn, .bool tg, .int .i64 1, .int .i64 0] 83)).trans hb9; replace HX := Lib.hid (HX.out.trans hbt); have HT := Lib.hid hbt; replace kx := hbt.cell' kx; replace g0 := hbt.cell' g0; replace d2 := hbt.cell' d2; clear hbt hb9 f0 f1 f2 f3 f4) | (go_at_fn gid; refine Calls.mono (HCL.out _ HT.out _) ?_; rintro e4 w4 ⟨rfl, hb9⟩; replace HX := Lib.hid (HX.out.trans hb9); replace kx := hb9.cell' kx; clear hb9 g0 d2))
            go_roundg (n - (i + 1))
            case measure => omega
            case rel => exact ⟨i + 1, by omega, by omega, by go_num, HG, HX⟩
        · obtain rfl : i = n := by omega
          have hiz : ¬ (i : Int) < i := by omega
          have HA2 := Lib.hid (HNX.out (fun j h => HI.out j (by have := HN.out; omega)))
          go_wp2
          go_roundg (3 - (k + 1))
          case measure => omega
          case rel => exact ⟨k + 1, by omega, by omega, by go_num, HA2, Lib.hid (HW.out.trans HX.out)⟩
    · obtain rfl : k = 3 := by omega
      have HEN := Lib.hid (HE.out.trans (errE_end HA.out))
      have hkx := KX.out.bw HW.out
      have k0 := hkx.cell (eV_at x 0 (by omega))
      have k2 := hkx.cell (eV_at x 2 (by omega))
      clear hkx
      by_cases z1 : x 0 < 1
      · have HG := Lib.hid (HEN.out.trans (if_neg (by omega)))
        clear HEN
        go_wp2
        go_ret
        exact ⟨ret_int HG.out.symm, HBW.out.trans HW.out⟩
      by_cases z2 : 604800 ≤ x 2
      · have HG := Lib.hid (HEN.out.trans (if_neg (by omega)))
        clear HEN
        go_wp2
        go_ret
        exact ⟨ret_int HG.out.symm, HBW.out.trans HW.out⟩
      · have HG := Lib.hid (HEN.out.trans (if_pos (by omega)))
        clear HEN
        go_wp2
        go_ret
        exact ⟨ret_int HG.out.symm, HBW.out.trans HW.out⟩
end Go.Proofs.Sky

namespace Go.Proofs.Sky
open Go Go.RowKit Go.Shelf
attribute [local go_sem] Oper.semAt_some
set_option maxHeartbeats 4000000
set_option maxRecDepth 8000
/-! the almanac: the error of a page -/
def pgV (x : Nat → Int) : Array Value := #[.int .i64 (x 0), .int .i64 (x 1), .int .i64 (x 2), .int .i64 (x 3), .int .i64 (x 4), .int .i64 (x 5), .int .i64 (x 6), .int .i64 (x 7), .int .i64 (x 8), .int .i64 (x 9), .int .i64 (x 10), .int .i64 (x 11), .int .i64 (x 12)]
theorem pgV_at (x : Nat → Int) (k : Nat) (h : k < 13) : (pgV x)[k]? = some (.int .i64 (x k)) := by
  rcases (by omega : k = 0 ∨ k = 1 ∨ k = 2 ∨ k = 3 ∨ k = 4 ∨ k = 5 ∨ k = 6 ∨ k = 7 ∨ k = 8 ∨ k = 9 ∨ k = 10 ∨ k = 11 ∨ k = 12) with rfl | rfl | rfl | rfl | rfl | rfl | rfl | rfl | rfl | rfl | rfl | rfl | rfl <;> rfl
def inPg (x : Nat → Int) : Bool := PGL.all (okT x)
def errPg (x : Nat → Int) : Int := if inPg x = true ∧ 1 ≤ x 0 ∧ x 1 < 604800 then 0 else 2
theorem inPg_get {x : Nat → Int} (h : ∀ j, j < 13 → okT x (PGL.getD j (0, false, 0)) = true) : inPg x = true := all_get PGL h
theorem inPg_no {x : Nat → Int} {j : Nat} (hj : j < 13) (h : okT x (PGL.getD j (0, false, 0)) = false) : inPg x = false := by
  unfold inPg
  rw [List.all_eq_false]
  exact ⟨_, getD_mem PGL j (0, false, 0) hj, by rw [h]; exact Bool.false_ne_true⟩
theorem pgIx : ∀ j, j < 13 → (PGL.getD j (0, false, 0)).2.2 = j := by decide
theorem PgCheck_any (x : Nat → Int) (w : World) (hw : WdAt w) : Calls Tryd.prog 30 #[.agg (pgV x)] w fun e w' => e = .returned (.int .i64 (errPg x)) ∧ Bw w w' := by
  have HBW := Lib.hid (Bw.alloc (Bw.refl w) (.cells (pgV x) 32))
  have KX := Lib.hid (Blk.new w 32 (pgV x))
  unfold pgV at HBW KX ⊢
  have HWD := Lib.hid hw
  have FD := Lib.hid (fun W h => alFields_any W h)
  have NM := Lib.hid (fun p W => alNumbers_any p W)
  have LM := Lib.hid (fun A n g W (h : fk A n 1 0) => Limits_ok A n g 1 0 (lowR n g) (highR n g) W h (by omega) (by omega))
  have HYES := Lib.hid (fun (h1 : ∀ j, j < 13 → okT x (PGL.getD j (0, false, 0)) = true) => (inPg_get h1 : inPg x = true))
  have HNO := Lib.hid (fun j hj h => (inPg_no (x := x) (j := j) hj h))
  obtain ⟨E, hE⟩ : ∃ E, E = errPg x := ⟨_, rfl⟩
  rw [← hE]
  have HE := Lib.hid hE
  clear hE hw
  (refine calls_of_marks (w.heap.size) Tryd.func30 rfl ?_; simp only [Tryd.ntmps30, List.size_toArray, List.length_cons, List.length_nil, Nat.reduceAdd, Nat.reduceSub, Array.replicate_succ, Array.replicate_zero, List.push_toArray, List.append_toArray, List.nil_append, List.cons_append])
  go_upto_region 1 with fail
  obtain ⟨W0, hW0⟩ : ∃ W0, (w.alloc (.cells #[.int .i64 (x 0), .int .i64 (x 1), .int .i64 (x 2), .int .i64 (x 3), .int .i64 (x 4), .int .i64 (x 5), .int .i64 (x 6), .int .i64 (x 7), .int .i64 (x 8), .int .i64 (x 9), .int .i64 (x 10), .int .i64 (x 11), .int .i64 (x 12)] 32)).alloc (.cells #[.int .i64 0] 28) = W0 := ⟨_, rfl⟩
  replace KX := Lib.hid (show Blk W0 w.heap.size 32 (pgV x) from by rw [← hW0]; exact KX.out.alloc _)
  have KR := Lib.hid (show Blk W0 (w.heap.size + 1) 28 #[.int .i64 0] from by rw [← hW0]; have h9 := Blk.new (w.alloc (.cells #[.int .i64 (x 0), .int .i64 (x 1), .int .i64 (x 2), .int .i64 (x 3), .int .i64 (x 4), .int .i64 (x 5), .int .i64 (x 6), .int .i64 (x 7), .int .i64 (x 8), .int .i64 (x 9), .int .i64 (x 10), .int .i64 (x 11), .int .i64 (x 12)] 32)) 28 #[.int .i64 0]; simpa using h9)
  replace HBW := Lib.hid (show Bw w W0 from by rw [← hW0]; exact HBW.out.alloc _)
  replace HWD := Lib.hid (HWD.out.bw HBW.out)
  rw [hW0]
  clear hW0
  go_wp2_with (first | (go_at_call 50; (with_reducible refine Calls.mono (FD.out _ HWD.out) ?_); rintro e1 w1 ⟨⟨v1, rfl, hr9, _⟩, hb9⟩; obtain ⟨a1, c1, rfl⟩ := hr9.form; have HRF := Lib.hid hr9; replace HBW := Lib.hid (HBW.out.trans hb9); replace KX := Lib.hid (KX.out.bw hb9); replace KR := Lib.hid (KR.out.bw hb9); clear hr9 hb9) | (go_at_call 51; refine Calls.mono (NM.out _ _) ?_; rintro e2 w2 ⟨rfl, rfl⟩))
  obtain ⟨b1, hb1⟩ : ∃ b1, w1.heap.size = b1 := ⟨_, rfl⟩
  obtain ⟨W2, hW2⟩ : ∃ W2, ((w1.alloc (.cells #[.slice a1 (fdsS PGL).length c1] 80)).alloc (.cells #[.pointer (some ⟨w.heap.size, 0, none⟩)] 94)) = W2 := ⟨_, rfl⟩
  have hb2 : Bw w1 W2 := by rw [← hW2]; exact (by repeat (first | exact Bw.refl _ | assumption | refine Bw.alloc ?_ _ | refine Bw.drew ?_ | refine Bw.trans ?_ (by assumption) | refine Bw.setCell ?_ (by simp; try omega) _))
  have KF := Lib.hid (show Blk W2 b1 80 #[.slice a1 (fdsS PGL).length c1] from by rw [← hW2, ← hb1]; exact (Blk.new _ _ _).alloc _)
  have KB := Lib.hid (show Blk W2 (b1 + 1) 94 #[.pointer (some ⟨w.heap.size, 0, none⟩)] from by rw [← hW2, ← hb1]; have h9 := Blk.new (w1.alloc (.cells #[.slice a1 (fdsS PGL).length c1] 80)) 94 #[.pointer (some ⟨w.heap.size, 0, none⟩)]; simpa using h9)
  replace HBW := Lib.hid (HBW.out.trans hb2)
  replace KX := Lib.hid (KX.out.bw hb2)
  replace KR := Lib.hid (KR.out.bw hb2)
  replace HRF := Lib.hid (HRF.out.mono hb2)
  rw [hW2, hb1]
  clear hb2 hW2 hb1
  refine range_numbers w.heap.size (b1 + 1) KB.out.lt (KB.out.cell rfl) KX.out.lt rfl rfl
    (fun pre W => (∀ y ∈ pre, okT x (PGL.getD y (0, false, 0)) = true) ∧ Bw W2 W)
    (fun c _ W => c = .ret ∧ inPg x = false ∧ W.cell? ⟨w.heap.size + 1, 0, none⟩ = some (.int .i64 2) ∧ Bw w W)
    (fun s X Y row hs hg hr => ⟨hs.1, bwK hs.2 (Nat.le_refl _) hg hr⟩)
    (fun c s X Y row hs hg hr => ⟨hs.1, hs.2.1, cellK hs.2.2.1 hg hr, bwK hs.2.2.2 HBW.out.size hg hr⟩)
    ⟨by simp, Bw.refl _⟩
    (fun y => [(11, .int .i64 y), (12, .pointer (some ⟨w.heap.size, y, none⟩)), (4, .int .i64 y), (5, .pointer (some ⟨w.heap.size, y, none⟩))]) ?assign ?body ?done ?stop
  case assign =>
    intro l y W K hy hK
    gi_wp2
    exact hK
  case body =>
    rintro l pre y W hy hlen ⟨hP, hbW⟩
    simp only [List.foldl, List.setIfInBounds_toArray, List.set_cons_succ, List.set_cons_zero]
    have HP := Lib.hid hP
    have HW := Lib.hid hbW
    clear hP hbW
    have hff : (fdsS PGL)[y]? = some (fdS PGL y) := by unfold fdsS; rw [List.getElem?_map, List.getElem?_range (show y < PGL.length from hy)]; rfl
    obtain ⟨bf, of_, cf, hvf, hcf⟩ := rdF_get (HRF.out.mono HW.out) (by decide)
    have hln : (fdsS PGL).length = 13 := rfl
    rw [hln] at hvf KF
    injection hvf with i1 i2 i3
    subst i1
    obtain ⟨f0, f1, f2, f3, f4⟩ := hcf y _ hff
    have hab := atS_bd pgl_ok y (by have : PGL.length = 13 := rfl; omega)
    have hnb := pgl_ok.2 _ (getD_mem PGL y (0, false, 0) hy)
    have hj := pgIx y hy
    have HBI := Lib.hid (fun h => HNO.out y hy h)
    have HII := Lib.hid (fun (h : okT x (PGL.getD y (0, false, 0)) = true) => (fun z (hz : z ∈ pre ++ [y]) => (List.mem_append.1 hz).elim (HP.out z) (fun e => by simp at e; subst e; exact h)))
    unfold fdS at f0 f1 f2 f3 f4
    dsimp only at f0 f1 f2 f3 f4
    have hyz : (y : Int) < 13 := by omega
    have hy0 : (0 : Int) ≤ y := by omega
    have kx : W.cell? ⟨w.heap.size, y, none⟩ = some (.int .i64 (x y)) := (KX.out.bw HW.out).cell (pgV_at x y hy)
    have kf : W.cell? ⟨b1, 0, none⟩ = some (.slice (some ⟨bf, of_, none⟩) 13 c1) := (KF.out.bw HW.out).cell rfl
    have kr : W.cell? ⟨w.heap.size + 1, 0, none⟩ = some (.int .i64 0) := (KR.out.bw HW.out).cell rfl
    have kq := (KR.out.bw HW.out).frozen 0
    have hzz : okT x (PGL.getD y (0, false, 0)) = decide (lowR (PGL.getD y (0, false, 0)).1 (PGL.getD y (0, false, 0)).2.1 ≤ x y ∧ x y ≤ highR (PGL.getD y (0, false, 0)).1 (PGL.getD y (0, false, 0)).2.1) := by unfold okT; rw [hj]
    rw [hzz] at HBI HII
    generalize atS PGL y = A at *
    generalize (PGL.getD y (0, false, 0)) = t at *
    obtain ⟨tn, tg, tj⟩ := t
    dsimp only at hnb f0 f1 f2 f3 f4 HBI HII
    have LMX := Lib.hid (fun W => LM.out A tn tg W (by unfold fk; omega))
    have HXY := Lib.hid (rfl : x y = x y)
    clear hcf hff hzz hj i2 i3 HXY
    generalize x y = z at *
    generalize lowR tn tg = lo at *
    generalize highR tn tg = hg at *
    by_cases z1 : z < lo
    · have HG := Lib.hid (HBI.out (decide_eq_false (by omega)))
      clear HBI HII
      refine wpIn_block ?_
      refine wpIn_seq ?_
      refine wpIn_region_round (by kernel_rfl) (fun ⟨_, _, h⟩ => h) ?_
      go_wp2_with (go_at_call 48; (with_reducible refine Calls.mono (LMX.out _) ?_); rintro e3 w3 ⟨rfl, hb9⟩; have HT := Lib.hid hb9; replace kx := hb9.cell' kx; replace kq := hb9.frozen' kr kq; replace kr := hb9.cell' kr; clear hb9 f0 f1 f2 f3 f4 kf)
      gi_wp2
      exact ⟨(KeepsFrom.of_bw HT.out).trans ((KeepsOthers.setCell _ _ _).from _), rfl, HG.out, cell_set_same _ _ _ _ kr, Bw.setCell (HBW.out.trans (HW.out.trans HT.out)) (by simp) _⟩
    by_cases z2 : hg < z
    · have HG := Lib.hid (HBI.out (decide_eq_false (by omega)))
      clear HBI HII
      refine wpIn_block ?_
      refine wpIn_seq ?_
      refine wpIn_region_round (by kernel_rfl) (fun ⟨_, _, h⟩ => h) ?_
      go_wp2_with (go_at_call 48; (with_reducible refine Calls.mono (LMX.out _) ?_); rintro e3 w3 ⟨rfl, hb9⟩; have HT := Lib.hid hb9; replace kx := hb9.cell' kx; replace kq := hb9.frozen' kr kq; replace kr := hb9.cell' kr; clear hb9 f0 f1 f2 f3 f4 kf)
      gi_wp2
      exact ⟨(KeepsFrom.of_bw HT.out).trans ((KeepsOthers.setCell _ _ _).from _), rfl, HG.out, cell_set_same _ _ _ _ kr, Bw.setCell (HBW.out.trans (HW.out.trans HT.out)) (by simp) _⟩
    · have HG := Lib.hid (HII.out (decide_eq_true (by omega)))
      clear HBI HII
      refine wpIn_block ?_
      refine wpIn_seq ?_
      refine wpIn_region_round (by kernel_rfl) (fun ⟨_, _, h⟩ => h) ?_
      go_wp2_with (go_at_call 48; (with_reducible refine Calls.mono (LMX.out _) ?_); rintro e3 w3 ⟨rfl, hb9⟩; have HT := Lib.hid hb9; replace kx := hb9.cell' kx; replace kq := hb9.frozen' kr kq; replace kr := hb9.cell' kr; clear hb9 f0 f1 f2 f3 f4 kf)
      gi_wp2
      exact ⟨KeepsFrom.of_bw HT.out, kpX_bw _ HT.out, HG.out, HW.out.trans HT.out⟩
  case done =>
    rintro D W hD ⟨hP, hbW⟩ hK
    have HP := Lib.hid hP
    have HW := Lib.hid hbW
    have HIN := Lib.hid (HYES.out (fun j hj => hP j (List.mem_range.2 hj)))
    clear hP hbW
    have HKD := Lib.hid hK
    clear hK
    have kx0 : W.cell? ⟨w.heap.size, 0, none⟩ = some (.int .i64 (x 0)) := (KX.out.bw HW.out).cell (pgV_at x 0 (by omega))
    have kx1 : W.cell? ⟨w.heap.size, 1, none⟩ = some (.int .i64 (x 1)) := (KX.out.bw HW.out).cell (pgV_at x 1 (by omega))
    have kr : W.cell? ⟨w.heap.size + 1, 0, none⟩ = some (.int .i64 0) := (KR.out.bw HW.out).cell rfl
    have kq := (KR.out.bw HW.out).frozen 0
    by_cases h1 : x 0 < 1
    · have HEQ := Lib.hid (HE.out.trans (show errPg x = 2 by unfold errPg; rw [if_neg (by omega)]))
      go_wp2
      have hK' := (KeepsOthers.setCell W ⟨w.heap.size + 1, 0, none⟩ (.int .i64 2)).same D _ HKD.out rfl
      refine ⟨Marks.one (by have := HBW.out.size; omega) hK', fun W' hS => ⟨.int .i64 2, ?_, by rw [HEQ.out], Bw.shut (W := W.setCell ⟨w.heap.size + 1, 0, none⟩ (.int .i64 2)) (Bw.setCell (HBW.out.trans HW.out) (by simp) _) hS⟩⟩
      have k4 := hS.cell (w.heap.size + 1) 0 (.int .i64 2) (cell_set_same _ _ _ _ kr)
      simp [results, Tryd.results30, go_sem, k4]
    by_cases h2 : 604800 ≤ x 1
    · have HEQ := Lib.hid (HE.out.trans (show errPg x = 2 by unfold errPg; rw [if_neg (by omega)]))
      go_wp2
      have hK' := (KeepsOthers.setCell W ⟨w.heap.size + 1, 0, none⟩ (.int .i64 2)).same D _ HKD.out rfl
      refine ⟨Marks.one (by have := HBW.out.size; omega) hK', fun W' hS => ⟨.int .i64 2, ?_, by rw [HEQ.out], Bw.shut (W := W.setCell ⟨w.heap.size + 1, 0, none⟩ (.int .i64 2)) (Bw.setCell (HBW.out.trans HW.out) (by simp) _) hS⟩⟩
      have k4 := hS.cell (w.heap.size + 1) 0 (.int .i64 2) (cell_set_same _ _ _ _ kr)
      simp [results, Tryd.results30, go_sem, k4]
    · have HEQ := Lib.hid (HE.out.trans (show errPg x = 0 by unfold errPg; rw [if_pos ⟨HIN.out, by omega, by omega⟩]))
      go_wp2
      have hK' := (KeepsOthers.setCell W ⟨w.heap.size + 1, 0, none⟩ (.int .i64 0)).same D _ HKD.out rfl
      refine ⟨Marks.one (by have := HBW.out.size; omega) hK', fun W' hS => ⟨.int .i64 0, ?_, by rw [HEQ.out], Bw.shut (W := W.setCell ⟨w.heap.size + 1, 0, none⟩ (.int .i64 0)) (Bw.setCell (HBW.out.trans HW.out) (by simp) _) hS⟩⟩
      have k4 := hS.cell (w.heap.size + 1) 0 (.int .i64 0) (cell_set_same _ _ _ _ kr)
      simp [results, Tryd.results30, go_sem, k4]
  case stop =>
    rintro D c k W hD _ ⟨rfl, ho, kr, hbW⟩ hK
    have HIN := Lib.hid (HE.out.trans (by unfold errPg; rw [ho, if_neg (by simp)]))
    have HKD := Lib.hid hK
    have HW := Lib.hid hbW
    clear ho hK hbW
    go_wp2
    refine ⟨Marks.one (by have := HBW.out.size; omega) HKD.out, fun W' hS => ⟨.int .i64 2, ?_, by rw [HIN.out], Bw.shut HW.out hS⟩⟩
    have k4 := hS.cell (w.heap.size + 1) 0 (.int .i64 2) kr
    simp [results, Tryd.results30, go_sem, k4]
end Go.Proofs.Sky
