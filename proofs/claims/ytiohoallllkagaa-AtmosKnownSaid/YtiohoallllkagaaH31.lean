/-
  lemmas for the theorems of this claim. No conditions beyond those written in the statements.
-/
import Derived.Test.YtiohoallllkagaaProg
import Derived.Test.YtiohoallllkagaaBlkC
import Derived.Test.YtiohoallllkagaaFA25
import Derived.Test.YtiohoallllkagaaP25L
import Derived.Deep.Cut
import Derived.Deep.LoopGhost
import Derived.BigRegion
set_option linter.unusedVariables false
set_option linter.unusedSimpArgs false
set_option linter.unnecessarySimpa false
namespace Go.Proofs.Sky
open Go Go.RowKit Go.Shelf
set_option maxHeartbeats 2000000
set_option maxRecDepth 4000
/-! chapter 31: the numbers of a model, by pointers -/
theorem infoPtr : (Try.prog.info? 67).map (fun i => (i.zero, i.size, i.bytes)) = some (some (.pointer none), 1, 8) := by kernel_rfl
theorem bw_grownN {a b c : World} {e : TypeId} {k : Nat} {v : Value} {m n : Nat} {xs : List Value} (hn : a.heap.size = n) (h : Bw a b) (ho : b.ownsRow n e k v m xs) (hg : b.grownBy c v.ownBlock) : Bw a c := by
  subst hn; exact h.grown ho hg
theorem wpList_append_vals {ops : Array Oper} {rest : List Oper} {o : Oper} {a : Act} {w : World} {Q : Exit → Act → World → Prop} (hgd : o.guard = none) (s x : Operand) (t : TypeId)
    (ho : o.op = .call { callee := .builtin .append, args := #[s, x], argTypes := #[t, t] })
    (base : Nat) (e : TypeId) (z : Value) (ht : Try.prog.underlying t = some (.slice e)) (hi : (Try.prog.info? e).map (fun i => (i.zero, i.size, i.bytes)) = some (some z, 1, 8)) (hz : z.cells.size = 1)
    (v : Value) (n : Nat) (xs : List Value) (hs : a.eval s = v) (hown : w.ownsRow base e 1 v n xs)
    (b c m : Nat) (news : List Value) (hx : a.eval x = .slice (some ⟨b, 0, none⟩) m c) (hm : news.length = m) (hb : ∀ j u, news[j]? = some u → w.cell? ⟨b, j, none⟩ = some u) (h1 : ∀ u ∈ news, u.oneCell' = true)
    (hn : n + m ≤ 1000000) (hbase : base ≤ w.heap.size)
    (h : ∀ v' w', w'.ownsRow base e 1 v' (n + m) (xs ++ news) → w.grownBy w' v.ownBlock → wpList Try.prog ops Q rest (a.put o.dst v') w') : wpList Try.prog ops Q (o :: rest) a w := by
  obtain ⟨i, hi, hzz⟩ := Option.map_eq_some_iff.1 hi
  simp only [Prod.mk.injEq] at hzz
  obtain ⟨hz0, hz1, hz2⟩ := hzz
  refine wpList_append_own w hgd s x t ho base e i _ 1 8 ht hi hz0 hz1 hz2 hz (by decide) v n xs hs hown ⟨b, 0, none⟩ m c news hx (by rw [hm, Nat.mul_one]) (fun j u hu => ?_) h1 (by unfold maxLen; omega) (by omega) hbase (fun v' w' h2 h3 _ => h v' w' h2 h3)
  have e1 : (⟨b, 0, none⟩ : Addr).add j = ⟨b, j, none⟩ := by
    have h1 : ∀ off : Nat, (⟨b, off, none⟩ : Addr).add j = ⟨b, off + j, none⟩ := fun off => by simp [Addr.add]
    rw [h1, Nat.zero_add]
  rw [e1]; exact hb j u hu
def ptrs (g : Nat) (n : Nat) : List Value := (List.range n).map fun k => .pointer (some ⟨g, k, none⟩)
theorem ptrs_succ (g n : Nat) : ptrs g (n + 1) = ptrs g n ++ [.pointer (some ⟨g, n, none⟩)] := by unfold ptrs; rw [List.range_succ, List.map_append]; rfl
/-- a slice of pointers to the nine numbers of the model at g -/
def RdP (w : World) (v : Value) (g : Nat) : Prop := ∃ b c, v = .slice (some ⟨b, 0, none⟩) 9 c ∧ b < w.heap.size ∧ ∀ k, k < 9 → w.cell? ⟨b, k, none⟩ = some (.pointer (some ⟨g, k, none⟩))
theorem RdP.mono {w w' : World} {v : Value} {g : Nat} (h : RdP w v g) (hb : Bw w w') : RdP w' v g := by
  obtain ⟨b, c, h1, h2, h3⟩ := h
  exact ⟨b, c, h1, Nat.lt_of_lt_of_le h2 hb.size, fun k hk => hb.cell' (h3 k hk)⟩
theorem ptr_row {w : World} {base : Nat} {e : TypeId} {v : Value} {g : Nat} (h : w.ownsRow base e 1 v 9 (ptrs g 9)) : RdP w v g := by
  rcases h.2 with ⟨_, h2⟩ | ⟨b, cap, cur, rfl, hb, hh, _⟩
  · cases h2
  · refine ⟨b, cap, rfl, (Array.getElem?_eq_some_iff.1 hh).1, fun k hk => ?_⟩
    have hc := h.cellAt k (by omega)
    rw [hc]
    unfold ptrs
    rw [List.getElem?_map, List.getElem?_range hk]
    rfl
theorem own_freshP {w : World} {base : Nat} {e : TypeId} {k : Nat} {v : Value} {n : Nat} {xs : List Value} (h : w.ownsRow base e k v n xs) : Fresh base v := by
  rcases h.2 with ⟨rfl, _⟩ | ⟨g, cap, cur, rfl, hg, _⟩
  · exact Fresh.nil _ _ _
  · exact Fresh.at hg
def NumP (base g : Nat) (e : Ending) (w' : World) : Prop := ∃ v', e = .returned v' ∧ RdP w' v' g ∧ Fresh base v'
theorem numbers_any (g : Nat) (w : World) (hg : g < w.heap.size) :
    Calls Try.prog 37 #[.pointer (some ⟨g, 0, none⟩)] w fun e w' => NumP w.heap.size g e w' ∧ Bw w w' := by
  obtain ⟨BB, hBB⟩ : ∃ BB, w.heap.size = BB := ⟨_, rfl⟩
  have HB := Lib.hid hBB
  rw [hBB]
  clear hBB hg
  go_enter Try.func37, Try.ntmps37
  go_wp2
  go_loopg [3, 6] 4 (fun gg s3 s6 wr => ∃ k : Nat, k ≤ 4 ∧ 4 - k ≤ gg ∧ s6 = .int .i64 k ∧ Hid (Bw w wr) ∧ Hid (wr.ownsRow BB 67 1 s3 k (ptrs g k)))
  case atStart => exact ⟨0, by omega, by omega, rfl, Lib.hid (Bw.refl _), Lib.hid (World.ownsRow_nil _ _ _ _)⟩
  case round =>
    obtain ⟨k, hk, hgg, rfl, HW, O1⟩ := hrel
    by_cases hlt : k < 4
    · have hkz : (k : Int) < 4 := by omega
      have hk0 : (0 : Int) ≤ k := by omega
      go_wp2_with (at_builtin; have hba := Bw.alloc (Bw.refl wr) (.cells #[.pointer (some ⟨g, k, none⟩)] 67); have NB := Lib.hid (Blk.new wr 67 #[.pointer (some ⟨g, k, none⟩)]); replace O1 := Lib.hid (own_bw O1.out hba); replace HW := Lib.hid (HW.out.trans hba); clear hba; refine wpList_append_vals rfl (.tmp 9) (.tmp 15) _ rfl BB 67 (.pointer none) Try.underlying64 infoPtr rfl _ k (ptrs g k) rfl O1.out _ _ 1 [.pointer (some ⟨g, k, none⟩)] rfl rfl (fun j u hu => NB.out.cell (by simpa using hu)) (fun u hu => by simp at hu; subst hu; rfl) (by omega) (by have := HW.out.size; have := HB.out; omega) ?_; intro v7 w7 hown hgr; rw [← ptrs_succ] at hown; replace HW := Lib.hid (bw_grownN HB.out HW.out O1.out hgr); replace O1 := Lib.hid hown; clear hown hgr NB)
      go_roundg (4 - (k + 1))
      case measure => omega
      case rel => exact ⟨k + 1, by omega, by omega, by go_num, HW, O1⟩
    · obtain rfl : k = 4 := by omega
      go_wp2
      go_loopg [3, 18] 3 (fun gg s3 s18 wr => ∃ k : Nat, k ≤ 3 ∧ 3 - k ≤ gg ∧ s18 = .int .i64 k ∧ Hid (Bw w wr) ∧ Hid (wr.ownsRow BB 67 1 s3 (4 + k) (ptrs g (4 + k))))
      case atStart => exact ⟨0, by omega, by omega, rfl, HW, O1⟩
      case round =>
        clear HW O1
        obtain ⟨k, hk, hgg, rfl, HW, O1⟩ := hrel
        by_cases hlt : k < 3
        · have hkz : (k : Int) < 3 := by omega
          have hk0 : (0 : Int) ≤ k := by omega
          go_wp2_with (at_builtin; have hba := Bw.alloc (Bw.refl wr) (.cells #[.pointer (some ⟨g, 4 + k, none⟩)] 67); have NB := Lib.hid (Blk.new wr 67 #[.pointer (some ⟨g, 4 + k, none⟩)]); replace O1 := Lib.hid (own_bw O1.out hba); replace HW := Lib.hid (HW.out.trans hba); clear hba; refine wpList_append_vals rfl (.tmp 21) (.tmp 27) _ rfl BB 67 (.pointer none) Try.underlying64 infoPtr rfl _ (4 + k) (ptrs g (4 + k)) rfl O1.out _ _ 1 [.pointer (some ⟨g, 4 + k, none⟩)] rfl rfl (fun j u hu => NB.out.cell (by simpa using hu)) (fun u hu => by simp at hu; subst hu; rfl) (by omega) (by have := HW.out.size; have := HB.out; omega) ?_; intro v7 w7 hown hgr; rw [← ptrs_succ] at hown; replace HW := Lib.hid (bw_grownN HB.out HW.out O1.out hgr); replace O1 := Lib.hid hown; clear hown hgr NB)
          go_roundg (3 - (k + 1))
          case measure => omega
          case rel => exact ⟨k + 1, by omega, by omega, by go_num, HW, O1⟩
        · obtain rfl : k = 3 := by omega
          go_upto_region 12 with fail
          (refine wp_region_ext_float 7 _ rfl rfl (by kernel_rfl) (by kernel_rfl) (fun _ _ _ _ h => h) ?_; simp only [Nat.reduceSub, List.take_succ_cons, List.take_zero, List.drop_succ_cons, List.drop_zero]; go_frame; (repeat (go_big_quiet_step ((fail)))); refine wpQuiet_nil ?_; rintro wq ⟨⟨_, hbq⟩, rfl⟩; obtain ⟨hccq, hffq⟩ := Bw.cells hbq; have hszq := Bw.size hbq)
          replace O1 := Lib.hid (own_bw O1.out hbq)
          replace HW := Lib.hid (HW.out.trans hbq)
          clear hbq hccq hffq hszq
          go_wp2_with (at_builtin; have hba := Bw.alloc (Bw.refl wq) (.cells #[.pointer (some ⟨g, 7, none⟩), .pointer (some ⟨g, 8, none⟩)] 67); have NB := Lib.hid (Blk.new wq 67 #[.pointer (some ⟨g, 7, none⟩), .pointer (some ⟨g, 8, none⟩)]); replace O1 := Lib.hid (own_bw O1.out hba); replace HW := Lib.hid (HW.out.trans hba); clear hba; refine wpList_append_vals rfl (.tmp 30) (.tmp 37) _ rfl BB 67 (.pointer none) Try.underlying64 infoPtr rfl _ (4 + 3) (ptrs g (4 + 3)) rfl O1.out _ _ 2 [.pointer (some ⟨g, 7, none⟩), .pointer (some ⟨g, 8, none⟩)] rfl rfl (fun j u hu => NB.out.cell (by simpa using hu)) (fun u hu => by simp at hu; rcases hu with rfl | rfl <;> rfl) (by omega) (by have := HW.out.size; have := HB.out; omega) ?_; intro v7 w7 hown hgr; replace HW := Lib.hid (bw_grownN HB.out HW.out O1.out hgr); replace O1 := Lib.hid (show w7.ownsRow BB 67 1 v7 9 (ptrs g 9) from hown); clear hown hgr NB)
          go_ret
          exact ⟨⟨_, rfl, ptr_row O1.out, own_freshP O1.out⟩, HW.out⟩
end Go.Proofs.Sky

namespace Go.Proofs.Sky
open Go Go.RowKit Go.Shelf
set_option maxHeartbeats 2000000
set_option maxRecDepth 4000
theorem flatF_one' (gs : List Fd) : ∀ u ∈ flatF gs, u.oneCell' = true := fun u hu => by
  obtain ⟨f, _, hf⟩ := List.mem_flatMap.1 hu
  exact fcs_one f u hf
theorem wpList_append_flds {ops : Array Oper} {rest : List Oper} {o : Oper} {a : Act} {w : World} {Q : Exit → Act → World → Prop} (hgd : o.guard = none) (s x : Operand) (t : TypeId)
    (ho : o.op = .call { callee := .builtin .append, args := #[s, x], argTypes := #[t, t] })
    (base : Nat) (ht : Try.prog.underlying t = some (.slice 92))
    (v : Value) (fs gs : List Fd) (hs : a.eval s = v) (hown : w.ownsRow base 92 5 v fs.length (flatF fs))
    (b m c : Nat) (T : TypeId) (hx : a.eval x = .slice (some ⟨b, 0, none⟩) m c) (hm : gs.length = m) (hb : Blk w b T (flatF gs).toArray)
    (hn : fs.length + m ≤ 1000000) (hbase : base ≤ w.heap.size)
    (h : ∀ v' w', w'.ownsRow base 92 5 v' (fs ++ gs).length (flatF (fs ++ gs)) → w.grownBy w' v.ownBlock → wpList Try.prog ops Q rest (a.put o.dst v') w') : wpList Try.prog ops Q (o :: rest) a w := by
  subst hm
  obtain ⟨i, hi, hzz⟩ := Option.map_eq_some_iff.1 infoFld
  simp only [Prod.mk.injEq] at hzz
  obtain ⟨hz0, hz1, hz2⟩ := hzz
  refine wpList_append_own w hgd s x t ho base 92 i _ 5 40 ht hi hz0 hz1 hz2 rfl (by decide) v fs.length (flatF fs) hs hown ⟨b, 0, none⟩ gs.length c (flatF gs) hx (flatF_len gs) (fun j u hu => ?_) (flatF_one' gs) (by unfold maxLen; omega) (by omega) hbase (fun v' w' h2 h3 _ => h v' w' ?_ h3)
  · have h9 := hb.cell (j := j) (v := u) (by simpa using hu)
    have e : (⟨b, 0, none⟩ : Addr).add j = ⟨b, j, none⟩ := by
      have h1 : ∀ off : Nat, (⟨b, off, none⟩ : Addr).add j = ⟨b, off + j, none⟩ := fun off => by simp [Addr.add]
      rw [h1, Nat.zero_add]
    rw [e]; exact h9
  · rw [flatF_append, List.length_append]; exact h2
def fdK (k : Nat) : Fd := ⟨21 * (k : Int), 21, true, 1, 0⟩
def FS31 : List Fd := (List.range 7).map fdK ++ [⟨147, 20, false, 1, 0⟩, ⟨167, 20, false, 1, 0⟩]
theorem fields_any (w : World) : Calls Try.prog 39 #[] w fun e w' => (∃ v', e = .returned v' ∧ RdF w' v' FS31 ∧ Fresh w.heap.size v') ∧ Bw w w' := by
  obtain ⟨BB, hBB⟩ : ∃ BB, w.heap.size = BB := ⟨_, rfl⟩
  have HB := Lib.hid hBB
  rw [hBB]
  clear hBB
  go_enter Try.func39, Try.ntmps39
  go_wp2
  go_loopg [1, 3] 7 (fun gg s1 s3 wr => ∃ k : Nat, k ≤ 7 ∧ 7 - k ≤ gg ∧ s3 = .int .i64 k ∧ Hid (Bw w wr) ∧ Hid (wr.ownsRow BB 92 5 s1 ((List.range k).map fdK).length (flatF ((List.range k).map fdK))))
  case atStart => exact ⟨0, by omega, by omega, rfl, Lib.hid (Bw.refl _), Lib.hid (World.ownsRow_nil _ _ _ _)⟩
  case round =>
    obtain ⟨k, hk, hgg, rfl, HW, O1⟩ := hrel
    by_cases hlt : k < 7
    · have hkz : (k : Int) < 7 := by omega
      have HT := Lib.hid (show (List.range (k + 1)).map fdK = (List.range k).map fdK ++ [fdK k] by rw [List.range_succ, List.map_append]; rfl)
      have HL := Lib.hid (show ((List.range k).map fdK).length = k by rw [List.length_map, List.length_range])
      generalize (List.range k).map fdK = l1 at O1 HT HL
      go_wp2_with (at_builtin; have hba := Bw.alloc (Bw.refl wr) (.cells #[.int .i64 (21 * (k : Int)), .int .i64 21, .bool true, .int .i64 1, .int .i64 0] 92); have NB := Lib.hid (Blk.new wr 92 #[.int .i64 (21 * (k : Int)), .int .i64 21, .bool true, .int .i64 1, .int .i64 0]); replace O1 := Lib.hid (own_bw O1.out hba); replace HW := Lib.hid (HW.out.trans hba); clear hba; refine wpList_append_flds rfl (.tmp 6) (.tmp 10) _ rfl BB Try.underlying72 _ l1 [fdK k] rfl O1.out _ 1 _ 92 rfl rfl NB.out (by have := HL.out; omega) (by have := HW.out.size; have := HB.out; omega) ?_; intro v7 w7 hown hgr; replace HW := Lib.hid (bw_grownN HB.out HW.out O1.out hgr); replace O1 := Lib.hid hown; clear hown hgr NB)
      go_roundg (7 - (k + 1))
      case measure => omega
      case rel => exact ⟨k + 1, by omega, by omega, by go_num, HW, Lib.hid (by rw [HT.out]; exact O1.out)⟩
    · obtain rfl : k = 7 := by omega
      have HL := Lib.hid (show ((List.range 7).map fdK).length = 7 by rfl)
      go_wp2_with (at_builtin; have hba := Bw.alloc (Bw.refl wr) (.cells #[.int .i64 147, .int .i64 20, .bool false, .int .i64 1, .int .i64 0, .int .i64 167, .int .i64 20, .bool false, .int .i64 1, .int .i64 0] 92); have NB := Lib.hid (Blk.new wr 92 #[.int .i64 147, .int .i64 20, .bool false, .int .i64 1, .int .i64 0, .int .i64 167, .int .i64 20, .bool false, .int .i64 1, .int .i64 0]); replace O1 := Lib.hid (own_bw O1.out hba); replace HW := Lib.hid (HW.out.trans hba); clear hba; refine wpList_append_flds rfl (.tmp 13) (.tmp 16) _ rfl BB Try.underlying72 _ ((List.range 7).map fdK) [⟨147, 20, false, 1, 0⟩, ⟨167, 20, false, 1, 0⟩] rfl O1.out _ 2 _ 92 rfl rfl NB.out (by have := HL.out; omega) (by have := HW.out.size; have := HB.out; omega) ?_; intro v7 w7 hown hgr; replace HW := Lib.hid (bw_grownN HB.out HW.out O1.out hgr); have O9 := own_rdF hown (by simp); clear hown hgr NB O1)
      go_ret
      exact ⟨⟨_, rfl, O9.1, O9.2⟩, HW.out⟩
end Go.Proofs.Sky

namespace Go.Proofs.Sky
open Go Go.RowKit Go.Shelf
set_option maxHeartbeats 2000000
set_option maxRecDepth 4000
def okA (x : Nat → Int) (i : Nat) : Bool := decide (-1000000 ≤ x i ∧ x i ≤ 1000000 ∧ (i ≤ 6 ∨ 0 ≤ x i))
def errA (x : Nat → Int) : Int := if (List.range 9).all (okA x) then 0 else 2
theorem errA_bad {x : Nat → Int} {i : Nat} (hi : i < 9) (h : okA x i = false) : errA x = 2 := by
  unfold errA; rw [if_neg]
  intro h2
  have := List.all_eq_true.1 h2 i (List.mem_range.2 hi)
  rw [h] at this; cases this
theorem errA_ok {x : Nat → Int} (h : ∀ i, i < 9 → okA x i = true) : errA x = 0 := by
  unfold errA; rw [if_pos (List.all_eq_true.2 (fun i hi => h i (List.mem_range.1 hi)))]
def atV (x : Nat → Int) : Array Value := #[.int .i64 (x 0), .int .i64 (x 1), .int .i64 (x 2), .int .i64 (x 3), .int .i64 (x 4), .int .i64 (x 5), .int .i64 (x 6), .int .i64 (x 7), .int .i64 (x 8)]
theorem atV_at (x : Nat → Int) (i : Nat) (h : i < 9) : (atV x)[i]? = some (.int .i64 (x i)) := by
  match i, h with
  | 0, _ => rfl
  | 1, _ => rfl
  | 2, _ => rfl
  | 3, _ => rfl
  | 4, _ => rfl
  | 5, _ => rfl
  | 6, _ => rfl
  | 7, _ => rfl
  | 8, _ => rfl
theorem ACheck_any (x : Nat → Int) (w : World) :
    Calls Try.prog 13 #[.agg #[.int .i64 (x 0), .int .i64 (x 1), .int .i64 (x 2), .int .i64 (x 3), .int .i64 (x 4), .int .i64 (x 5), .int .i64 (x 6), .int .i64 (x 7), .int .i64 (x 8)]] w fun e w' => e = .returned (.int .i64 (errA x)) ∧ Bw w w' := by
  have HBW := Lib.hid (Bw.alloc (Bw.refl w) (.cells (atV x) 25))
  have KX := Lib.hid (Blk.new w 25 (atV x))
  have NM := Lib.hid (fun W (h : w.heap.size < W.heap.size) => numbers_any w.heap.size W h)
  unfold NumP at NM
  unfold atV at HBW KX
  obtain ⟨EE, hEE⟩ : ∃ EE, EE = errA x := ⟨_, rfl⟩
  rw [← hEE]
  have HE := Lib.hid hEE
  clear hEE
  go_enter Try.func13, Try.ntmps13
  go_upto_region 1 with fail
  obtain ⟨W0, hW0⟩ : ∃ W0, (w.alloc (.cells #[.int .i64 (x 0), .int .i64 (x 1), .int .i64 (x 2), .int .i64 (x 3), .int .i64 (x 4), .int .i64 (x 5), .int .i64 (x 6), .int .i64 (x 7), .int .i64 (x 8)] 25)) = W0 := ⟨_, rfl⟩
  rw [hW0] at HBW KX ⊢
  clear hW0
  replace KX := Lib.hid (show Blk W0 w.heap.size 25 (atV x) from KX.out)
  go_wp2_with (go_at_call 37; (with_reducible refine Calls.mono (NM.out _ KX.out.lt) ?_); rintro e1 w1 ⟨⟨v9, rfl, hr, _⟩, hb9⟩; obtain ⟨bp, cp, rfl, _, hc⟩ := hr; have HP := Lib.hid hc; replace HBW := Lib.hid (HBW.out.trans hb9); replace KX := Lib.hid (KX.out.bw hb9); clear hc hb9)
  go_loopg [7] 9 (fun gg s7 wr => ∃ i : Nat, i ≤ 9 ∧ 9 - i ≤ gg ∧ s7 = .int .i64 i ∧ wr = w1 ∧ Hid (∀ k, k < i → okA x k = true))
  case atStart => exact ⟨0, by omega, by omega, rfl, rfl, Lib.hid (fun k hk => absurd hk (Nat.not_lt_zero _))⟩
  case round =>
    obtain ⟨i, hi, hgg, rfl, hwr, HA⟩ := hrel
    replace hwr := hwr.symm
    subst hwr
    by_cases hlt : i < 9
    · have hiz : (i : Int) < 9 := by omega
      have k0 := HP.out i hlt
      have k1 : w1.cell? ⟨w.heap.size, i, none⟩ = some (.int .i64 (x i)) := KX.out.cell (atV_at x i hlt)
      have HBAD := Lib.hid (fun (h : okA x i = false) => (HE.out.trans (errA_bad hlt h) : EE = 2))
      have HNX := Lib.hid (fun (h : okA x i = true) k (hk : k < i + 1) => (by
        rcases Nat.lt_succ_iff_lt_or_eq.1 hk with h9 | rfl
        · exact HA.out k h9
        · exact h : okA x k = true))
      unfold okA at HBAD HNX
      generalize x i = z at k1 HBAD HNX
      by_cases z1 : 1000000 < z
      · have HB2 := Lib.hid (HBAD.out (decide_eq_false (by omega)))
        clear HBAD HNX
        go_wp2
        go_ret
        exact ⟨ret_int HB2.out.symm, HBW.out⟩
      by_cases z2 : z < -1000000
      · have HB2 := Lib.hid (HBAD.out (decide_eq_false (by omega)))
        clear HBAD HNX
        go_wp2
        go_ret
        exact ⟨ret_int HB2.out.symm, HBW.out⟩
      by_cases z3 : i ≤ 6
      · have HN2 := Lib.hid (HNX.out (decide_eq_true (by omega)))
        have hi6 : ¬ (6 : Int) < i := by omega
        clear HBAD HNX
        go_wp2
        go_roundg (9 - (i + 1))
        case measure => omega
        case rel => exact ⟨i + 1, by omega, by omega, by go_num, rfl, Lib.hid HN2.out⟩
      have hi6 : (6 : Int) < i := by omega
      by_cases z4 : z < 0
      · have HB2 := Lib.hid (HBAD.out (decide_eq_false (by omega)))
        clear HBAD HNX
        go_wp2
        go_ret
        exact ⟨ret_int HB2.out.symm, HBW.out⟩
      · have HN2 := Lib.hid (HNX.out (decide_eq_true (by omega)))
        clear HBAD HNX
        go_wp2
        go_roundg (9 - (i + 1))
        case measure => omega
        case rel => exact ⟨i + 1, by omega, by omega, by go_num, rfl, Lib.hid HN2.out⟩
    · obtain rfl : i = 9 := by omega
      have HG := Lib.hid (HE.out.trans (errA_ok HA.out))
      go_wp2
      go_ret
      exact ⟨ret_int HG.out.symm, HBW.out⟩
end Go.Proofs.Sky
