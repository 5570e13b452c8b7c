/-
  lemmas for the theorems of this claim. No conditions beyond those written in the statements.
-/
import Derived.Test.YtpmopobjlpfdaaaDoorAL1
import Derived.Test.YtpmopobjlpfdaaaDoorE25
import Derived.Test.YtpmopobjlpfdaaaDoorRG
import Derived.Test.YtpmopobjlpfdaaaDoorKxC
import Derived.Test.YtpmopobjlpfdaaaDoorBlkC
import Derived.Test.YtpmopobjlpfdaaaDoorFA25
import Derived.Test.YtpmopobjlpfdaaaDoorP25L
import Derived.Deep.Cut
import Derived.Deep.LoopGhost
import Derived.BigRegion
import Derived.Test.YtpmopobjlpfdaaaDoorF27
set_option linter.unusedVariables false
set_option linter.unusedSimpArgs false
set_option linter.unnecessarySimpa false
namespace Go.Proofs.Sky
open Go Go.RowKit Go.Shelf
attribute [local go_sem] Oper.semAt_some
set_option maxHeartbeats 4000000
set_option maxRecDepth 8000
/-! the almanac: the numbers of a page, a range over a function -/
theorem infoPtr : (Tryd.prog.info? 88).map (fun i => (i.zero, i.size, i.bytes)) = some (some (.pointer none), 1, 8) := by kernel_rfl
theorem bw_grownN {a b c : World} {e : TypeId} {k : Nat} {v : Value} {m n : Nat} {xs : List Value} (hn : a.heap.size = n) (h : Bw a b) (ho : b.ownsRow n e k v m xs) (hg : b.grownBy c v.ownBlock) : Bw a c := by
  subst hn; exact h.grown ho hg
theorem wpList_append_vals {ops : Array Oper} {rest : List Oper} {o : Oper} {a : Act} {w : World} {Q : Exit → Act → World → Prop} (hgd : o.guard = none) (s x : Operand) (t : TypeId)
    (ho : o.op = .call { callee := .builtin .append, args := #[s, x], argTypes := #[t, t] })
    (base : Nat) (e : TypeId) (z : Value) (ht : Tryd.prog.underlying t = some (.slice e)) (hi : (Tryd.prog.info? e).map (fun i => (i.zero, i.size, i.bytes)) = some (some z, 1, 8)) (hz : z.cells.size = 1)
    (v : Value) (n : Nat) (xs : List Value) (hs : a.eval s = v) (hown : w.ownsRow base e 1 v n xs)
    (b c m : Nat) (news : List Value) (hx : a.eval x = .slice (some ⟨b, 0, none⟩) m c) (hm : news.length = m) (hb : ∀ j u, news[j]? = some u → w.cell? ⟨b, j, none⟩ = some u) (h1 : ∀ u ∈ news, u.oneCell' = true)
    (hn : n + m ≤ 1000000) (hbase : base ≤ w.heap.size)
    (h : ∀ v' w', w'.ownsRow base e 1 v' (n + m) (xs ++ news) → w.grownBy w' v.ownBlock → wpList Tryd.prog ops Q rest (a.put o.dst v') w') : wpList Tryd.prog ops Q (o :: rest) a w := by
  obtain ⟨i, hi, hzz⟩ := Option.map_eq_some_iff.1 hi
  simp only [Prod.mk.injEq] at hzz
  obtain ⟨hz0, hz1, hz2⟩ := hzz
  refine wpList_append_own w hgd s x t ho base e i _ 1 8 ht hi hz0 hz1 hz2 hz (by decide) v n xs hs hown ⟨b, 0, none⟩ m c news hx (by rw [hm, Nat.mul_one]) (fun j u hu => ?_) h1 (by unfold maxLen; omega) (by omega) hbase (fun v' w' h2 h3 _ => h v' w' h2 h3)
  have e1 : (⟨b, 0, none⟩ : Addr).add j = ⟨b, j, none⟩ := by
    have h1 : ∀ off : Nat, (⟨b, off, none⟩ : Addr).add j = ⟨b, off + j, none⟩ := fun off => by simp [Addr.add]
    rw [h1, Nat.zero_add]
  rw [e1]; exact hb j u hu
def ptrs (g : Nat) (n : Nat) : List Value := (List.range n).map fun k => .pointer (some ⟨g, k, none⟩)
theorem ptrs_succ (g n : Nat) : ptrs g (n + 1) = ptrs g n ++ [.pointer (some ⟨g, n, none⟩)] := by unfold ptrs; rw [List.range_succ, List.map_append]; rfl

theorem alNumbers_any (p : Option Addr) (w : World) : Calls Tryd.prog 56 #[.pointer p] w fun e w' => e = .returned (.func (.func 63) #[] #[.pointer (some ⟨w.heap.size, 0, none⟩)]) ∧ w' = w.alloc (.cells #[.pointer p] 87) := by
  go_enter Tryd.func56, Tryd.ntmps56
  go_wp2
  go_ret
  exact ⟨rfl, rfl⟩
/-- every row of pointers at numbers is kept -/
def KpP (W W' : World) : Prop := ∀ (b : Nat) (cs : Array Value) (fr : Nat × Nat), W.heap[b]? = some (Obj.cells cs 88 fr) → W'.heap[b]? = some (Obj.cells cs 88 fr)
theorem kpP_t {X Y Z : World} (h : KpP X Y) (k : KpP Y Z) : KpP X Z := fun b cs fr hc => k b cs fr (h b cs fr hc)
theorem kpP_refl (W : World) : KpP W W := fun _ _ _ h => h
theorem kpP_bw {W W' : World} (h : Bw W W') : KpP W W' := fun b _ _ hc => (h.out.block b (Array.getElem?_eq_some_iff.1 hc).1).trans hc
theorem kpP_b {n : Nat} (W : World) (l : Nat) (o o' : Obj) (_ : n ≤ l) (hl : W.heap[l]? = some o) (ho : o.isCells = false) (_ : o.isWalk = false) : KpP W (W.putObj l o') := fun b cs fr hc => by
  rw [World.putObj_heap_other (fun e => by subst e; rw [hl] at hc; cases hc; cases ho)]; exact hc
theorem kpP_set {W : World} {g : Nat} {T : TypeId} {cs : Array Value} (hB : Blk W g T cs) (hT : T ≠ 88) (o : Nat) (v : Value) : KpP W (W.setCell ⟨g, o, none⟩ v) := fun b cs' fr hc => by
  rw [heap_setCell_other W ⟨g, o, none⟩ b v (fun e => by subst e; have h9 := hB.symm.trans hc; cases h9; exact hT rfl)]; exact hc
theorem kpP_row {W : World} {g : Nat} {T : TypeId} {cs : Array Value} (hB : Blk W g T cs) (hT : T ≠ 88) (cs2 : Array Value) : KpP W (W.setRow g cs2) := fun b cs' fr hc => by
  rw [setRow_other W g b cs2 (fun e => by subst e; have h9 := hB.symm.trans hc; cases h9; exact hT rfl)]; exact hc
theorem kpP_own {w w' : World} {base k n : Nat} {e : TypeId} {v : Value} {xs : List Value} (ho : w.ownsRow base e k v n xs) (he : e ≠ 88) (hg : w.grownBy w' v.ownBlock) : KpP w w' := fun b cs fr hc => by
  refine (hg.block b (Array.getElem?_eq_some_iff.1 hc).1 (fun e' => ?_)).trans hc
  rcases ho.2 with ⟨rfl, _⟩ | ⟨g, cap, cur, rfl, _, hh, _⟩
  · cases e'
  · have e3 : g = b := (Option.some.inj (show some b = some g from e')).symm
    subst e3
    have h9 := hh.symm.trans hc
    cases h9
    exact he rfl
/-- what the sequence yields: the index, and a pointer at the number -/
def encN (g : Nat) (x : Nat) : Array Value := #[.int .i64 (cl 13 x), .pointer (some ⟨g, cl 13 x, none⟩)]
theorem Blk.eq {w : World} {g : Nat} {T : TypeId} {cs : Array Value} (h : Blk w g T cs) : w.heap[g]? = some (.cells cs T) := h
theorem Blk.kept {w w' : World} {g : Nat} {T e : TypeId} {cs : Array Value} {base k n : Nat} {v : Value} {xs : List Value} (hB : Blk w g T cs) (ho : w.ownsRow base e k v n xs) (hg : w.grownBy w' v.ownBlock) (hne : T ≠ e) : Blk w' g T cs := by
  refine (hg.block g hB.lt (fun e' => ?_)).trans hB
  rcases ho.2 with ⟨rfl, _⟩ | ⟨b, cap, cur, rfl, _, hh, _⟩
  · cases e'
  · have e2 : some b = some g := e'.symm ▸ rfl
    have e3 : b = g := Option.some.inj e2
    rw [← e3] at hB
    have h3 := hh.symm.trans hB.eq
    cases h3
    exact hne rfl
theorem own_blk13 {w : World} {base : Nat} {e : TypeId} {v : Value} {g : Nat} (h : w.ownsRow base e 1 v 13 (ptrs g 13)) : ∃ b c cur fr, v = .slice (some ⟨b, 0, none⟩) 13 c ∧ base ≤ b ∧ w.heap[b]? = some (.cells cur e fr) ∧ ∀ k, k < 13 → w.cell? ⟨b, k, none⟩ = some (.pointer (some ⟨g, k, none⟩)) := by
  rcases h.2 with ⟨_, h2⟩ | ⟨b, cap, cur, rfl, hb, hh, _⟩
  · cases h2
  · refine ⟨b, cap, cur, _, rfl, hb, hh, fun k hk => ?_⟩
    have hc := h.cellAt k (by omega)
    rw [hc]
    unfold ptrs
    rw [List.getElem?_map, List.getElem?_range hk]
    rfl
theorem own_cells13 {w : World} {base : Nat} {e : TypeId} {v : Value} {g : Nat} (h : w.ownsRow base e 1 v 13 (ptrs g 13)) : ∃ b c, v = .slice (some ⟨b, 0, none⟩) 13 c ∧ base ≤ b ∧ ∀ k, k < 13 → w.cell? ⟨b, k, none⟩ = some (.pointer (some ⟨g, k, none⟩)) := by
  rcases h.2 with ⟨_, h2⟩ | ⟨b, cap, cur, rfl, hb, hh, _⟩
  · cases h2
  · refine ⟨b, cap, rfl, hb, fun k hk => ?_⟩
    have hc := h.cellAt k (by omega)
    rw [hc]
    unfold ptrs
    rw [List.getElem?_map, List.getElem?_range hk]
    rfl
theorem Bw.grNone {w w' : World} (h : Bw w w') : w.grownBy w' none := ⟨h.out.os, h.out.tape, h.out.output, h.size, fun k hk _ => h.out.block k hk⟩
theorem own4 {w' : World} {b B : Nat} {e : TypeId} {c0 c1 c2 c3 : Value} (hB : B ≤ b) (h : Blk w' b e #[c0, c1, c2, c3]) : w'.ownsRow B e 1 (.slice (some ⟨b, 0, none⟩) 4 4) 4 [c0, c1, c2, c3] :=
  ⟨rfl, .inr ⟨b, 4, _, rfl, hB, h, by omega, by unfold maxLen; omega, rfl, rfl⟩⟩
set_option maxRecDepth 100000 in
theorem numbers_stops (g B : Nat) (w : World) (hB : B < w.heap.size) (c0 : w.cell? ⟨B, 0, none⟩ = some (.pointer (some ⟨g, 0, none⟩))) (hg : g < w.heap.size) :
    SeqStopsK Fence.wide 9 Tryd.prog 63 #[.pointer (some ⟨B, 0, none⟩)] (encN g) KpP (fun xs => xs = List.range 13) (fun pre => ∃ k, k ≤ 13 ∧ pre = List.range k) 13 w := fun l J Jx W hW hJa _ hY h0 => by
  have d0 := (hW.cell (p := ⟨B, 0, none⟩) hB).trans c0
  have hgW : g < W.heap.size := Nat.lt_of_lt_of_le hg hW.size
  clear c0 hW
  have hY' := Lib.hid hY; clear hY
  have H0 := Lib.hid h0; clear h0
  have HA := Lib.hid hJa; clear hJa
  refine callsIn_of_wp Tryd.func63 rfl trivial ?_ rfl
  simp only [Tryd.ntmps63, List.size_toArray, List.length_cons, List.length_nil, Nat.reduceAdd, Nat.reduceSub, Array.replicate_succ, Array.replicate_zero, List.push_toArray, List.append_toArray, List.nil_append, List.cons_append]
  refine wpIn_wide.2 ?_
  obtain ⟨BB, hBB⟩ : ∃ BB, W.heap.size = BB := ⟨_, rfl⟩
  have HB := Lib.hid hBB
  rw [hBB] at hgW
  clear hBB
  have e0 := fun p : Ext W => Ext.cell' d0 p
  go_upto_region 0 with fail
  (refine wp_region_ext_tail 12 (by kernel_rfl) (by kernel_rfl) ?_; simp only [List.take_succ_cons, List.take_zero, List.drop_succ_cons, List.drop_zero]; (repeat (go_big_quiet_step ((fail)))); refine wpQuiet_nil ?_; rintro w0 ⟨⟨_, hbq⟩, rfl⟩; obtain ⟨hccq, hffq⟩ := Bw.cells hbq; have hszq := Bw.size hbq)
  go_upto_region 1 with fail
  have NB := Lib.hid (Blk.new w0 88 #[.pointer (some ⟨g, 0, none⟩), .pointer (some ⟨g, 1, none⟩), .pointer (some ⟨g, 2, none⟩), .pointer (some ⟨g, 3, none⟩)])
  have hb1 : Bw W (w0.alloc (.cells #[.pointer (some ⟨g, 0, none⟩), .pointer (some ⟨g, 1, none⟩), .pointer (some ⟨g, 2, none⟩), .pointer (some ⟨g, 3, none⟩)] 88)) := (by repeat (first | exact Bw.refl _ | assumption | refine Bw.alloc ?_ _ | refine Bw.drew ?_ | refine Bw.trans ?_ (by assumption) | refine Bw.setCell ?_ (by simp; try omega) _))
  have O1 := Lib.hid (own4 hszq NB.out)
  have HG1 : w0.heap.size = w0.heap.size := rfl
  obtain ⟨W1, hW1⟩ : ∃ W1, (w0.alloc (.cells #[.pointer (some ⟨g, 0, none⟩), .pointer (some ⟨g, 1, none⟩), .pointer (some ⟨g, 2, none⟩), .pointer (some ⟨g, 3, none⟩)] 88)) = W1 := ⟨_, rfl⟩
  rw [hW1] at hb1 O1 ⊢
  obtain ⟨b1, hb1e⟩ : ∃ b1, w0.heap.size = b1 := ⟨_, rfl⟩
  rw [hb1e] at O1 ⊢
  have d1 := hb1.cell' d0
  clear NB HG1 hW1 hb1e hszq hccq hffq hbq e0 d0
  have HW1 := Lib.hid hb1
  have HGW := Lib.hid hgW
  clear hb1 hgW
  go_region
  have NB := Lib.hid (Blk.new W1 70 #[.pointer (some ⟨g, 4, none⟩), .pointer (some ⟨g, 7, none⟩), .pointer (some ⟨g, 10, none⟩)])
  have hb2 : Bw W1 (W1.alloc (.cells #[.pointer (some ⟨g, 4, none⟩), .pointer (some ⟨g, 7, none⟩), .pointer (some ⟨g, 10, none⟩)] 70)).drew := (by repeat (first | exact Bw.refl _ | assumption | refine Bw.alloc ?_ _ | refine Bw.drew ?_ | refine Bw.trans ?_ (by assumption) | refine Bw.setCell ?_ (by simp; try omega) _))
  replace O1 := Lib.hid (own_bw O1.out hb2)
  obtain ⟨W2, hW2⟩ : ∃ W2, (W1.alloc (.cells #[.pointer (some ⟨g, 4, none⟩), .pointer (some ⟨g, 7, none⟩), .pointer (some ⟨g, 10, none⟩)] 70)).drew = W2 := ⟨_, rfl⟩
  replace NB : Hid (Blk W2 W1.heap.size 70 #[.pointer (some ⟨g, 4, none⟩), .pointer (some ⟨g, 7, none⟩), .pointer (some ⟨g, 10, none⟩)]) := Lib.hid (by rw [← hW2]; exact NB.out.bw (by repeat (first | exact Bw.refl _ | assumption | refine Bw.alloc ?_ _ | refine Bw.drew ?_ | refine Bw.trans ?_ (by assumption) | refine Bw.setCell ?_ (by simp; try omega) _)))
  rw [hW2] at hb2 O1 ⊢
  obtain ⟨b2, hb2e⟩ : ∃ b2, W1.heap.size = b2 := ⟨_, rfl⟩
  rw [hb2e] at NB ⊢
  replace HW1 := Lib.hid (HW1.out.trans hb2)
  have h3 : Hid ([.pointer (some ⟨g, 0, none⟩), .pointer (some ⟨g, 1, none⟩), .pointer (some ⟨g, 2, none⟩), .pointer (some ⟨g, 3, none⟩)] = ptrs g (4 + 3 * 0)) := Lib.hid rfl
  rw [h3.out] at O1
  clear hb2 hW2 hb2e d1 h3
  go_wp2
  rw [HB.out] at O1
  go_loopg [3, 33] 3 (fun gg s3 s33 wr => ∃ k : Nat, k ≤ 3 ∧ 3 - k ≤ gg ∧ s33 = .int .i64 k ∧ Hid (Bw W wr) ∧ Hid (Blk wr b2 70 #[.pointer (some ⟨g, 4, none⟩), .pointer (some ⟨g, 7, none⟩), .pointer (some ⟨g, 10, none⟩)]) ∧ Hid (wr.ownsRow BB 88 1 s3 (4 + 3 * k) (ptrs g (4 + 3 * k))))
  case atStart => exact ⟨0, by omega, by omega, rfl, HW1, NB, O1⟩
  case round =>
    clear O1 NB HW1
    obtain ⟨k, hk, hgg, rfl, HW, NB, O1⟩ := hrel
    by_cases hlt : k < 3
    · have hkz : (k : Int) < 3 := by omega
      have hk0 : (0 : Int) ≤ k := by omega
      have hcl : wr.cell? ⟨b2, k, none⟩ = some (.pointer (some ⟨g, 4 + 3 * k, none⟩)) := NB.out.cell (by rcases (by omega : k = 0 ∨ k = 1 ∨ k = 2) with rfl | rfl | rfl <;> rfl)
      go_wp2
      clear hcl
      go_loopg [3, 37] 3 (fun gg s3 s37 wr2 => ∃ j : Nat, j ≤ 3 ∧ 3 - j ≤ gg ∧ s37 = .int .i64 j ∧ Hid (Bw W wr2) ∧ Hid (Blk wr2 b2 70 #[.pointer (some ⟨g, 4, none⟩), .pointer (some ⟨g, 7, none⟩), .pointer (some ⟨g, 10, none⟩)]) ∧ Hid (wr2.ownsRow BB 88 1 s3 (4 + 3 * k + j) (ptrs g (4 + 3 * k + j))))
      case atStart => exact ⟨0, by omega, by omega, rfl, HW, NB, O1⟩
      case round =>
        clear O1 NB HW
        obtain ⟨j, hj, hgj, rfl, HW, NB, O1⟩ := hrel
        by_cases hlj : j < 3
        · have hjz : (j : Int) < 3 := by omega
          have hj0 : (0 : Int) ≤ j := by omega
          go_wp2_with (at_builtin; go_loud (have hba := Bw.alloc (Bw.refl wr) (.cells #[.pointer (some ⟨g, 4 + 3 * k + j, none⟩)] 88); have NB2 := Lib.hid (Blk.new wr 88 #[.pointer (some ⟨g, 4 + 3 * k + j, none⟩)]); replace O1 := Lib.hid (own_bw O1.out hba); replace NB := Lib.hid (NB.out.bw hba); replace HW := Lib.hid (HW.out.trans hba); clear hba; refine wpList_append_vals rfl (.tmp 40) (.tmp 45) _ rfl BB 88 (.pointer none) Tryd.underlying103 infoPtr rfl _ (4 + 3 * k + j) (ptrs g (4 + 3 * k + j)) rfl O1.out _ _ 1 [.pointer (some ⟨g, 4 + 3 * k + j, none⟩)] rfl rfl (fun j u hu => NB2.out.cell (by simpa using hu)) (fun u hu => by simp at hu; subst hu; rfl) (by omega) (by have := HW.out.size; have := HB.out; omega) ?_; intro v7 w7 hown hgr; rw [← ptrs_succ] at hown; replace NB := Lib.hid (NB.out.kept O1.out hgr (by decide)); replace HW := Lib.hid (bw_grownN HB.out HW.out O1.out hgr); replace O1 := Lib.hid hown; clear hown hgr NB2))
          go_roundg (3 - (j + 1))
          case measure => omega
          case rel => exact ⟨j + 1, by omega, by omega, by go_num, HW, NB, O1⟩
        · obtain rfl : j = 3 := by omega
          go_wp2
          go_roundg (3 - (k + 1))
          case measure => omega
          case rel => exact ⟨k + 1, by omega, by omega, by go_num, HW, NB, by have h9 : 4 + 3 * (k + 1) = 4 + 3 * k + 3 := by omega
                                                                              rw [h9]; exact O1⟩
    · obtain rfl : k = 3 := by omega
      have HR := Lib.hid (own_blk13 O1.out)
      obtain ⟨b3, c3, cur3, fr3, rfl, hb3, hk3, hc3⟩ := HR.out
      have HK9 := Lib.hid hk3
      have HC := Lib.hid hc3
      have HGB := Lib.hid (show b3 ≠ g from by have := HGW.out; omega)
      have h0 := HA.out [] W wr none H0.out HW.out.grNone (by rintro r e; cases e)
      clear hc3 hk3 HGB HR NB O1 H0 HA
      go_upto_region 10 with fail
      refine (wpIn_wide (n := 9)).1 ?_
      obtain ⟨W9, hW9⟩ : ∃ W9, wr = W9 := ⟨_, rfl⟩
      rw [hW9] at h0 HC HK9 ⊢
      clear hW9 HW
      gi_wp2
      refine (wpIn_wide (n := 9)).1 ?_
      gi_wp2
      gi_loopw [51] (fun i wr => ∃ k : Nat, k ≤ 13 ∧ i = .int .i64 k ∧ J (List.range k) wr ∧ Hid (KpP W9 wr)) (fun i _ => 13 - (intOf i).toNat)
      case atStart => exact ⟨0, Nat.zero_le _, rfl, h0, Lib.hid (kpP_refl _)⟩
      case round =>
        obtain ⟨k, hk, rfl, hJs, hkp⟩ := hrel
        by_cases hlt : k < 13
        · have hlti : (k : Int) < 13 := by omega
          have hk0 : (0 : Int) ≤ k := by omega
          have hcl := (World.cell?_of_block ((hkp.out _ _ _ HK9.out).trans HK9.out.symm)).trans (HC.out k hlt)
          obtain ⟨fn, tmps, assign, body, hy, hR⟩ := hY'.out _ k wr hJs (by simpa using hlt)
          have HR := Lib.hid hR
          clear hR
          unfold encN at hy
          rw [cl_of 13 k hlt] at hy
          gi_wp2
          refine HR.out.mono ?_
          rintro e W3 (⟨rfl, hJ3, hk3⟩ | ⟨rfl, hJx3⟩)
          · have HJ3 := Lib.hid hJ3
            have HK3 := Lib.hid (kpP_t hkp.out hk3)
            clear hJ3 hk3 hJs hkp hcl
            gi_wp2
            go_roundw
            case rel =>
             refine ⟨_, _, _, _, _, _, _, _, _, _, _, _, _, ⟨k + 1, by omega, ?zzq, by rw [List.range_succ]; exact HJ3.out, HK3⟩, rfl⟩
             go_num
            case measure => simp [intOf]; omega
          · have HJ3 := Lib.hid hJx3
            clear hJx3
            gi_wp2
            refine bodyPost_ret (results_none rfl _ _ _) rfl ?_
            exact ⟨⟨_, rfl⟩, .inr ⟨_, ⟨k + 1, by omega, List.range_succ.symm⟩, HJ3.out⟩⟩
        · obtain rfl : k = 13 := by omega
          gi_wp2
          go_end0
          exact ⟨⟨_, rfl⟩, .inl ⟨_, rfl, hJs⟩⟩
end Go.Proofs.Sky

namespace Go.Proofs.Sky
open Go Go.RowKit Go.Shelf
attribute [local go_sem] Oper.semAt_some
set_option maxHeartbeats 4000000
set_option maxRecDepth 8000
/-! the almanac: a range over the numbers of a page -/
theorem range_numbers {gv : Operand} {tps : Array Tmp} {assign body : Code} {Q : Exit → Act → World → Prop} {act : Act} {w : World} (g B : Nat) (hB : B < w.heap.size) (c0 : w.cell? ⟨B, 0, none⟩ = some (.pointer (some ⟨g, 0, none⟩))) (hgw : g < w.heap.size)
    (hg : act.eval gv = .func (.func 63) #[] #[.pointer (some ⟨B, 0, none⟩)]) (hps : tps.size = 2)
    (I : List Nat → World → Prop) (Ix : Code → List Nat → World → Prop) (hI : OwnFrom w.heap.size I) (hIx : ∀ c, OwnFrom w.heap.size (Ix c)) (h0 : I [] w) (ups : Nat → List (Nat × Value))
    (hassign : ∀ (l : Nat) (y : Nat) (W : World) (K : Act → World → Prop), y < 13 → K { tmps := (ups y).foldl (fun t p => t.setIfInBounds p.1 p.2) act.tmps, defers := [] } W →
      assign.wpIn (Fence.wide.inRound l) 8 Tryd.prog (Exit.then K (fun _ _ _ => False)) { tmps := (tps.zip #[.int .i64 y, .pointer (some ⟨g, y, none⟩)]).foldl (fun t (p, v) => t.setIfInBounds p v) act.tmps, defers := [] } W)
    (hbody : ∀ (l : Nat) (pre : List Nat) (y : Nat) (W : World), y < 13 → pre.length < 13 → I pre W → body.wpIn (Fence.wide.inRound l) 8 Tryd.prog (ownPostG w.heap.size KpP I Ix (pre ++ [y]) W) { tmps := (ups y).foldl (fun t p => t.setIfInBounds p.1 p.2) act.tmps, defers := [] } W)
    (hdone : ∀ (D : Nat) (W : World), w.heap.size ≤ D → I (List.range 13) W → W.heap[D]? = some (.deferred (some [])) → Q .normal { act with defers := mk D :: act.defers } W)
    (hstop : ∀ (D : Nat) (c : Code) (k : Nat) (W : World), w.heap.size ≤ D → k ≤ 13 → Ix c (List.range k) W → W.heap[D]? = some (.deferred (some [])) → c.wp Tryd.prog Q { act with defers := mk D :: act.defers } W) :
    (Code.rangeFunc gv tps assign body).wp Tryd.prog Q act w := by
  refine wp_rangeFunc hg (enters_of Tryd.func63 (by kernel_rfl) rfl) (numbers_stops g B w hB c0 hgw) kpP_t kpP_b (fun _ => hps.symm) (fun pre W => I (pre.map (cl 13)) W) (fun c pre W => Ix c (pre.map (cl 13)) W)
    (fun s W W' row hs hg hr => hI _ W W' row hs hg hr) (fun c s W W' row hs hg hr => hIx c _ W W' row hs hg hr) h0 (fun x => { tmps := (ups (cl 13 x)).foldl (fun t p => t.setIfInBounds p.1 p.2) act.tmps, defers := [] })
    (fun l x W K hK => hassign l (cl 13 x) W K (cl_lt _ x (by omega)) hK) (fun l pre x W hi hl => ?_) (fun D xs W hD hS hi hK => ?_) (fun D c pre W hD hS hi hK => by
      obtain ⟨k, hk, rfl⟩ := hS
      rw [map_cl _ k hk] at hi
      exact hstop D c k W hD hk hi hK)
  · refine wpIn_mono (hbody l (pre.map (cl 13)) (cl 13 x) W (cl_lt _ x (by omega)) (by simpa using hl) hi) ?_
    intro e a' W' hp
    have hm : (pre ++ [x]).map (cl 13) = pre.map (cl 13) ++ [cl 13 x] := by simp
    cases e with
    | normal => exact ⟨hp.1, hp.2.1, by show I _ _; rw [hm]; exact hp.2.2⟩
    | ret => exact ⟨hp.1, by show Ix _ _ _; rw [hm]; exact hp.2⟩
    | exit id => exact ⟨hp.1, by show Ix _ _ _; rw [hm]; exact hp.2⟩
    | goto t => exact ⟨hp.1, by show Ix _ _ _; rw [hm]; exact hp.2⟩
    | panic ch => exact hp.elim
    | outgrown => exact hp.elim
  · subst hS
    rw [map_cl _ _ (Nat.le_refl _)] at hi
    exact hdone D W hD hi hK
end Go.Proofs.Sky

namespace Go.Proofs.Sky
open Go Go.RowKit Go.Shelf
attribute [local go_sem] Oper.semAt_some
set_option maxHeartbeats 4000000
set_option maxRecDepth 8000
/-! the almanac: the error of a page -/
def pgV (x : Nat → Int) : Array Value := #[.int .i64 (x 0), .int .i64 (x 1), .int .i64 (x 2), .int .i64 (x 3), .int .i64 (x 4), .int .i64 (x 5), .int .i64 (x 6), .int .i64 (x 7), .int .i64 (x 8), .int .i64 (x 9), .int .i64 (x 10), .int .i64 (x 11), .int .i64 (x 12)]
theorem pgV_at (x : Nat → Int) (k : Nat) (h : k < 13) : (pgV x)[k]? = some (.int .i64 (x k)) := by
  rcases (by omega : k = 0 ∨ k = 1 ∨ k = 2 ∨ k = 3 ∨ k = 4 ∨ k = 5 ∨ k = 6 ∨ k = 7 ∨ k = 8 ∨ k = 9 ∨ k = 10 ∨ k = 11 ∨ k = 12) with rfl | rfl | rfl | rfl | rfl | rfl | rfl | rfl | rfl | rfl | rfl | rfl | rfl <;> rfl
def inPg (x : Nat → Int) : Bool := PGL.all (okT x)
def errPg (x : Nat → Int) : Int := if inPg x = true ∧ 1 ≤ x 0 ∧ x 1 < 604800 then 0 else 2
theorem inPg_get {x : Nat → Int} (h : ∀ j, j < 13 → okT x (PGL.getD j (0, false, 0)) = true) : inPg x = true := all_get PGL h
theorem inPg_no {x : Nat → Int} {j : Nat} (hj : j < 13) (h : okT x (PGL.getD j (0, false, 0)) = false) : inPg x = false := by
  unfold inPg
  rw [List.all_eq_false]
  exact ⟨_, getD_mem PGL j (0, false, 0) hj, by rw [h]; exact Bool.false_ne_true⟩
theorem pgIx : ∀ j, j < 13 → (PGL.getD j (0, false, 0)).2.2 = j := by decide
theorem PgCheck_any (x : Nat → Int) (w : World) (hw : WdAt w) : Calls Tryd.prog 43 #[.agg (pgV x)] w fun e w' => e = .returned (.int .i64 (errPg x)) ∧ Bw w w' := by
  have HBW := Lib.hid (Bw.alloc (Bw.refl w) (.cells (pgV x) 29))
  have KX := Lib.hid (Blk.new w 29 (pgV x))
  unfold pgV at HBW KX ⊢
  have HWD := Lib.hid hw
  have FD := Lib.hid (fun W h => alFields_any W h)
  have NM := Lib.hid (fun p W => alNumbers_any p W)
  have LM := Lib.hid (fun A n g W (h : fk A n 1 0) => Limits_ok A n g 1 0 (lowR n g) (highR n g) W h (by omega) (by omega))
  have HYES := Lib.hid (fun (h1 : ∀ j, j < 13 → okT x (PGL.getD j (0, false, 0)) = true) => (inPg_get h1 : inPg x = true))
  have HNO := Lib.hid (fun j hj h => (inPg_no (x := x) (j := j) hj h))
  obtain ⟨E, hE⟩ : ∃ E, E = errPg x := ⟨_, rfl⟩
  rw [← hE]
  have HE := Lib.hid hE
  clear hE hw
  (refine calls_of_marks (w.heap.size) Tryd.func43 rfl ?_; simp only [Tryd.ntmps43, List.size_toArray, List.length_cons, List.length_nil, Nat.reduceAdd, Nat.reduceSub, Array.replicate_succ, Array.replicate_zero, List.push_toArray, List.append_toArray, List.nil_append, List.cons_append])
  go_upto_region 1 with fail
  obtain ⟨W0, hW0⟩ : ∃ W0, (w.alloc (.cells #[.int .i64 (x 0), .int .i64 (x 1), .int .i64 (x 2), .int .i64 (x 3), .int .i64 (x 4), .int .i64 (x 5), .int .i64 (x 6), .int .i64 (x 7), .int .i64 (x 8), .int .i64 (x 9), .int .i64 (x 10), .int .i64 (x 11), .int .i64 (x 12)] 29)).alloc (.cells #[.int .i64 0] 24) = W0 := ⟨_, rfl⟩
  replace KX := Lib.hid (show Blk W0 w.heap.size 29 (pgV x) from by rw [← hW0]; exact KX.out.alloc _)
  have KR := Lib.hid (show Blk W0 (w.heap.size + 1) 24 #[.int .i64 0] from by rw [← hW0]; have h9 := Blk.new (w.alloc (.cells #[.int .i64 (x 0), .int .i64 (x 1), .int .i64 (x 2), .int .i64 (x 3), .int .i64 (x 4), .int .i64 (x 5), .int .i64 (x 6), .int .i64 (x 7), .int .i64 (x 8), .int .i64 (x 9), .int .i64 (x 10), .int .i64 (x 11), .int .i64 (x 12)] 29)) 24 #[.int .i64 0]; simpa using h9)
  replace HBW := Lib.hid (show Bw w W0 from by rw [← hW0]; exact HBW.out.alloc _)
  replace HWD := Lib.hid (HWD.out.bw HBW.out)
  rw [hW0]
  clear hW0
  go_wp2_with (first | (go_at_call 55; (with_reducible refine Calls.mono (FD.out _ HWD.out) ?_); rintro e1 w1 ⟨⟨v1, rfl, hr9, _⟩, hb9⟩; obtain ⟨a1, c1, rfl⟩ := hr9.form; have HRF := Lib.hid hr9; replace HBW := Lib.hid (HBW.out.trans hb9); replace KX := Lib.hid (KX.out.bw hb9); replace KR := Lib.hid (KR.out.bw hb9); clear hr9 hb9) | (go_at_call 56; refine Calls.mono (NM.out _ _) ?_; rintro e2 w2 ⟨rfl, rfl⟩))
  obtain ⟨b1, hb1⟩ : ∃ b1, w1.heap.size = b1 := ⟨_, rfl⟩
  obtain ⟨W2, hW2⟩ : ∃ W2, ((w1.alloc (.cells #[.slice a1 (fdsS PGL).length c1] 82)).alloc (.cells #[.pointer (some ⟨w.heap.size, 0, none⟩)] 87)) = W2 := ⟨_, rfl⟩
  have hb2 : Bw w1 W2 := by rw [← hW2]; exact (by repeat (first | exact Bw.refl _ | assumption | refine Bw.alloc ?_ _ | refine Bw.drew ?_ | refine Bw.trans ?_ (by assumption) | refine Bw.setCell ?_ (by simp; try omega) _))
  have KF := Lib.hid (show Blk W2 b1 82 #[.slice a1 (fdsS PGL).length c1] from by rw [← hW2, ← hb1]; exact (Blk.new _ _ _).alloc _)
  have KB := Lib.hid (show Blk W2 (b1 + 1) 87 #[.pointer (some ⟨w.heap.size, 0, none⟩)] from by rw [← hW2, ← hb1]; have h9 := Blk.new (w1.alloc (.cells #[.slice a1 (fdsS PGL).length c1] 82)) 87 #[.pointer (some ⟨w.heap.size, 0, none⟩)]; simpa using h9)
  replace HBW := Lib.hid (HBW.out.trans hb2)
  replace KX := Lib.hid (KX.out.bw hb2)
  replace KR := Lib.hid (KR.out.bw hb2)
  replace HRF := Lib.hid (HRF.out.mono hb2)
  rw [hW2, hb1]
  clear hb2 hW2 hb1
  refine range_numbers w.heap.size (b1 + 1) KB.out.lt (KB.out.cell rfl) KX.out.lt rfl rfl
    (fun pre W => (∀ y ∈ pre, okT x (PGL.getD y (0, false, 0)) = true) ∧ Bw W2 W)
    (fun c _ W => c = .ret ∧ inPg x = false ∧ W.cell? ⟨w.heap.size + 1, 0, none⟩ = some (.int .i64 2) ∧ Bw w W)
    (fun s X Y row hs hg hr => ⟨hs.1, bwK hs.2 (Nat.le_refl _) hg hr⟩)
    (fun c s X Y row hs hg hr => ⟨hs.1, hs.2.1, cellK hs.2.2.1 hg hr, bwK hs.2.2.2 HBW.out.size hg hr⟩)
    ⟨by simp, Bw.refl _⟩
    (fun y => [(11, .int .i64 y), (12, .pointer (some ⟨w.heap.size, y, none⟩)), (4, .int .i64 y), (5, .pointer (some ⟨w.heap.size, y, none⟩))]) ?assign ?body ?done ?stop
  case assign =>
    intro l y W K hy hK
    gi_wp2
    exact hK
  case body =>
    rintro l pre y W hy hlen ⟨hP, hbW⟩
    simp only [List.foldl, List.setIfInBounds_toArray, List.set_cons_succ, List.set_cons_zero]
    have HP := Lib.hid hP
    have HW := Lib.hid hbW
    clear hP hbW
    have hff : (fdsS PGL)[y]? = some (fdS PGL y) := by unfold fdsS; rw [List.getElem?_map, List.getElem?_range (show y < PGL.length from hy)]; rfl
    obtain ⟨bf, of_, cf, hvf, hcf⟩ := rdF_get (HRF.out.mono HW.out) (by decide)
    have hln : (fdsS PGL).length = 13 := rfl
    rw [hln] at hvf KF
    injection hvf with i1 i2 i3
    subst i1
    obtain ⟨f0, f1, f2, f3, f4⟩ := hcf y _ hff
    have hab := atS_bd pgl_ok y (by have : PGL.length = 13 := rfl; omega)
    have hnb := pgl_ok.2 _ (getD_mem PGL y (0, false, 0) hy)
    have hj := pgIx y hy
    have HBI := Lib.hid (fun h => HNO.out y hy h)
    have HII := Lib.hid (fun (h : okT x (PGL.getD y (0, false, 0)) = true) => (fun z (hz : z ∈ pre ++ [y]) => (List.mem_append.1 hz).elim (HP.out z) (fun e => by simp at e; subst e; exact h)))
    unfold fdS at f0 f1 f2 f3 f4
    dsimp only at f0 f1 f2 f3 f4
    have hyz : (y : Int) < 13 := by omega
    have hy0 : (0 : Int) ≤ y := by omega
    have kx : W.cell? ⟨w.heap.size, y, none⟩ = some (.int .i64 (x y)) := (KX.out.bw HW.out).cell (pgV_at x y hy)
    have kf : W.cell? ⟨b1, 0, none⟩ = some (.slice (some ⟨bf, of_, none⟩) 13 c1) := (KF.out.bw HW.out).cell rfl
    have kr : W.cell? ⟨w.heap.size + 1, 0, none⟩ = some (.int .i64 0) := (KR.out.bw HW.out).cell rfl
    have kq := (KR.out.bw HW.out).frozen 0
    have hzz : okT x (PGL.getD y (0, false, 0)) = decide (lowR (PGL.getD y (0, false, 0)).1 (PGL.getD y (0, false, 0)).2.1 ≤ x y ∧ x y ≤ highR (PGL.getD y (0, false, 0)).1 (PGL.getD y (0, false, 0)).2.1) := by unfold okT; rw [hj]
    rw [hzz] at HBI HII
    generalize atS PGL y = A at *
    generalize (PGL.getD y (0, false, 0)) = t at *
    obtain ⟨tn, tg, tj⟩ := t
    dsimp only at hnb f0 f1 f2 f3 f4 HBI HII
    have LMX := Lib.hid (fun W => LM.out A tn tg W (by unfold fk; omega))
    have HXY := Lib.hid (rfl : x y = x y)
    clear hcf hff hzz hj i2 i3 HXY
    generalize x y = z at *
    generalize lowR tn tg = lo at *
    generalize highR tn tg = hg at *
    by_cases z1 : z < lo
    · have HG := Lib.hid (HBI.out (decide_eq_false (by omega)))
      clear HBI HII
      refine wpIn_block ?_
      refine wpIn_seq ?_
      refine wpIn_region_round (by kernel_rfl) (fun ⟨_, _, h⟩ => h) ?_
      go_wp2_with (go_at_call 57; (with_reducible refine Calls.mono (LMX.out _) ?_); rintro e3 w3 ⟨rfl, hb9⟩; have HT := Lib.hid hb9; replace kx := hb9.cell' kx; replace kq := hb9.frozen' kr kq; replace kr := hb9.cell' kr; clear hb9 f0 f1 f2 f3 f4 kf)
      gi_wp2
      exact ⟨(KeepsFrom.of_bw HT.out).trans ((KeepsOthers.setCell _ _ _).from _), rfl, HG.out, cell_set_same _ _ _ _ kr, Bw.setCell (HBW.out.trans (HW.out.trans HT.out)) (by simp) _⟩
    by_cases z2 : hg < z
    · have HG := Lib.hid (HBI.out (decide_eq_false (by omega)))
      clear HBI HII
      refine wpIn_block ?_
      refine wpIn_seq ?_
      refine wpIn_region_round (by kernel_rfl) (fun ⟨_, _, h⟩ => h) ?_
      go_wp2_with (go_at_call 57; (with_reducible refine Calls.mono (LMX.out _) ?_); rintro e3 w3 ⟨rfl, hb9⟩; have HT := Lib.hid hb9; replace kx := hb9.cell' kx; replace kq := hb9.frozen' kr kq; replace kr := hb9.cell' kr; clear hb9 f0 f1 f2 f3 f4 kf)
      gi_wp2
      exact ⟨(KeepsFrom.of_bw HT.out).trans ((KeepsOthers.setCell _ _ _).from _), rfl, HG.out, cell_set_same _ _ _ _ kr, Bw.setCell (HBW.out.trans (HW.out.trans HT.out)) (by simp) _⟩
    · have HG := Lib.hid (HII.out (decide_eq_true (by omega)))
      clear HBI HII
      refine wpIn_block ?_
      refine wpIn_seq ?_
      refine wpIn_region_round (by kernel_rfl) (fun ⟨_, _, h⟩ => h) ?_
      go_wp2_with (go_at_call 57; (with_reducible refine Calls.mono (LMX.out _) ?_); rintro e3 w3 ⟨rfl, hb9⟩; have HT := Lib.hid hb9; replace kx := hb9.cell' kx; replace kq := hb9.frozen' kr kq; replace kr := hb9.cell' kr; clear hb9 f0 f1 f2 f3 f4 kf)
      gi_wp2
      exact ⟨KeepsFrom.of_bw HT.out, kpP_bw HT.out, HG.out, HW.out.trans HT.out⟩
  case done =>
    rintro D W hD ⟨hP, hbW⟩ hK
    have HP := Lib.hid hP
    have HW := Lib.hid hbW
    have HIN := Lib.hid (HYES.out (fun j hj => hP j (List.mem_range.2 hj)))
    clear hP hbW
    have HKD := Lib.hid hK
    clear hK
    have kx0 : W.cell? ⟨w.heap.size, 0, none⟩ = some (.int .i64 (x 0)) := (KX.out.bw HW.out).cell (pgV_at x 0 (by omega))
    have kx1 : W.cell? ⟨w.heap.size, 1, none⟩ = some (.int .i64 (x 1)) := (KX.out.bw HW.out).cell (pgV_at x 1 (by omega))
    have kr : W.cell? ⟨w.heap.size + 1, 0, none⟩ = some (.int .i64 0) := (KR.out.bw HW.out).cell rfl
    have kq := (KR.out.bw HW.out).frozen 0
    by_cases h1 : x 0 < 1
    · have HEQ := Lib.hid (HE.out.trans (show errPg x = 2 by unfold errPg; rw [if_neg (by omega)]))
      go_wp2
      have hK' := (KeepsOthers.setCell W ⟨w.heap.size + 1, 0, none⟩ (.int .i64 2)).same D _ HKD.out rfl
      refine ⟨Marks.one (by have := HBW.out.size; omega) hK', fun W' hS => ⟨.int .i64 2, ?_, by rw [HEQ.out], Bw.shut (W := W.setCell ⟨w.heap.size + 1, 0, none⟩ (.int .i64 2)) (Bw.setCell (HBW.out.trans HW.out) (by simp) _) hS⟩⟩
      have k4 := hS.cell (w.heap.size + 1) 0 (.int .i64 2) (cell_set_same _ _ _ _ kr)
      simp [results, Tryd.results43, go_sem, k4]
    by_cases h2 : 604800 ≤ x 1
    · have HEQ := Lib.hid (HE.out.trans (show errPg x = 2 by unfold errPg; rw [if_neg (by omega)]))
      go_wp2
      have hK' := (KeepsOthers.setCell W ⟨w.heap.size + 1, 0, none⟩ (.int .i64 2)).same D _ HKD.out rfl
      refine ⟨Marks.one (by have := HBW.out.size; omega) hK', fun W' hS => ⟨.int .i64 2, ?_, by rw [HEQ.out], Bw.shut (W := W.setCell ⟨w.heap.size + 1, 0, none⟩ (.int .i64 2)) (Bw.setCell (HBW.out.trans HW.out) (by simp) _) hS⟩⟩
      have k4 := hS.cell (w.heap.size + 1) 0 (.int .i64 2) (cell_set_same _ _ _ _ kr)
      simp [results, Tryd.results43, go_sem, k4]
    · have HEQ := Lib.hid (HE.out.trans (show errPg x = 0 by unfold errPg; rw [if_pos ⟨HIN.out, by omega, by omega⟩]))
      go_wp2
      have hK' := (KeepsOthers.setCell W ⟨w.heap.size + 1, 0, none⟩ (.int .i64 0)).same D _ HKD.out rfl
      refine ⟨Marks.one (by have := HBW.out.size; omega) hK', fun W' hS => ⟨.int .i64 0, ?_, by rw [HEQ.out], Bw.shut (W := W.setCell ⟨w.heap.size + 1, 0, none⟩ (.int .i64 0)) (Bw.setCell (HBW.out.trans HW.out) (by simp) _) hS⟩⟩
      have k4 := hS.cell (w.heap.size + 1) 0 (.int .i64 0) (cell_set_same _ _ _ _ kr)
      simp [results, Tryd.results43, go_sem, k4]
  case stop =>
    rintro D c k W hD _ ⟨rfl, ho, kr, hbW⟩ hK
    have HIN := Lib.hid (HE.out.trans (by unfold errPg; rw [ho, if_neg (by simp)]))
    have HKD := Lib.hid hK
    have HW := Lib.hid hbW
    clear ho hK hbW
    go_wp2
    refine ⟨Marks.one (by have := HBW.out.size; omega) HKD.out, fun W' hS => ⟨.int .i64 2, ?_, by rw [HIN.out], Bw.shut HW.out hS⟩⟩
    have k4 := hS.cell (w.heap.size + 1) 0 (.int .i64 2) kr
    simp [results, Tryd.results43, go_sem, k4]
end Go.Proofs.Sky

namespace Go.Proofs.Sky
open Go Go.RowKit Go.Shelf
set_option maxHeartbeats 4000000
set_option maxRecDepth 8000
/-! rounding; two results -/
/-- a quotient, rounded half away from zero -/
def rn (a b : Int) : Int := if a < 0 then -((2 * (-a) + b) / (2 * b)) else (2 * a + b) / (2 * b)
theorem rn_bd (a b : Int) (ha : 0 ≤ a ∧ a ≤ 1000000000000) (hb : 1 ≤ b ∧ b ≤ 1000000000000) : 0 ≤ rn a b ∧ rn a b ≤ 4000000000000 := by
  unfold rn
  rw [if_neg (by omega)]
  exact ⟨Int.ediv_nonneg (by omega) (by omega), Int.le_trans (Int.ediv_le_self _ (by omega)) (by omega)⟩
theorem results_two_row {fn : Func} {p u : Tmp} {ty : TypeId} (h : fn.results = #[.cell p ty, .tmp u]) (tmps : Array Value) (w : World) (g : Nat) (cs : Array Value) (hp : tmps.getD p undef = .pointer (some ⟨g, 0, none⟩))
    (h9 : (loadVar ty ⟨g, 0, none⟩).run Tryd.prog w = .ok (.agg cs) w) :
    (results fn tmps).run Tryd.prog w = .ok (.tuple #[.agg cs, tmps.getD u undef]) w := by
  have h8 : (results fn tmps).run Tryd.prog w = ((asAddr (tmps.getD p undef)).run Tryd.prog w).andThen fun a w₁ => ((loadVar ty a).run Tryd.prog w₁).andThen fun x w₂ => .ok (.tuple #[x, tmps.getD u undef]) w₂ := by
    simp only [results, h]
    simp [Sem.run_bind, Result.andThen]
    try rfl
  rw [h8, hp]
  simp [asAddr, h9, Result.andThen]
def mx28 (x y : Int) : Int := if y > x then y else x
theorem run_mx28 {P : Program} {w : World} (ts : Array TypeId) (t : TypeId) (k k' : IntKind) (x y : Int) : (Builtin.max_ ts t #[.int k x, .int k' y]).run P w = .ok (.int k (mx28 x y)) w := run_max_int2 w ts t k k' x y
theorem mx28_abs (n : Int) : mx28 n (-n) = (n.natAbs : Int) := by unfold mx28; split <;> omega
section
variable {P : Program} {Q : Exit → Act → World → Prop}
theorem wp_alloc_new28 {o : Oper} {a : Act} {w : World} {K : Act → World → Prop} (ty : TypeId) (ho : o.op = .alloc ty) (dst : Option Tmp) (hd : o.dst = dst) (cs : Array Value) (hz : (zeroValue ty).run P w = .ok (.agg cs) w)
    (h : ∀ g w', w.heap.size ≤ g → Blk w' g ty cs → Bw w w' → K (a.put dst (.pointer (some ⟨g, 0, none⟩))) w') : o.wp P a w K Q :=
  wp_alloc_agg ty ho dst hd cs hz (h _ _ (Nat.le_refl _) (Blk.new w ty cs) (Bw.alloc (Bw.refl w) _))
end
theorem wpList_load_roww28 {P : Program} {ops : Array Oper} {rest : List Oper} {o : Oper} {a : Act} {w : World} {Q : Exit → Act → World → Prop} (ty : TypeId) (x : Operand) (ho : o.op = .load ty x)
    (g : Nat) (hx : a.eval x = .pointer (some ⟨g, 0, none⟩)) (t : TypeId) (cs : Array Value) (fr : Nat × Nat) (d : TypeDesc) (hg : w.heap[g]? = some (.cells cs t fr))
    (hu : P.underlying ty = some d) (hd : (match d with | .struct _ | .array _ _ => true | _ => false) = true) (hi : (P.info? ty).map (·.size) = some cs.size) (hw : Region.wanted o (yielded ops a.tmps) = true)
    (h : wpList P ops Q rest (a.put o.dst (.agg cs)) w) : wpList P ops Q (o :: rest) a w := by
  rw [wpList, if_pos hw]
  exact .inl (wp_load_row ty x ho g hx t cs fr d hg hu hd hi h)
section
variable {P : Program} {o : Oper} {a : Act} {w : World} {K : Act → World → Prop} {Q : Exit → Act → World → Prop}
theorem wp_store_at28 (ty : TypeId) (x y : Operand) (ho : o.op = .store ty x y)
    (g off : Nat) (cells : Array Value) (hx : a.eval x = .pointer (some ⟨g, off, none⟩)) (hy : a.eval y = .agg cells)
    (t : TypeId) (old : Array Value) (hg : Blk w g t old) (hi : (P.info? ty).map (·.size) = some cells.size)
    (hsz : off + cells.size ≤ old.size) (h1 : cells.all (·.oneCell') = true)
    (h : K (a.put o.dst undef) (w.setRow g (old.toList.take off ++ cells.toList ++ old.toList.drop (off + cells.size)).toArray)) : o.wp P a w K Q := by
  have h9 := run_storeCells_at (P := P) g off t cells.toList 0 old w hg (by simpa using hsz) (fun v hv => (Array.all_eq_true_iff_forall_mem.1 h1) v (by simpa using hv))
  have hst : (storeVar ty ⟨g, off, none⟩ (.agg cells)).run P w = .ok () (w.setRow g (old.toList.take off ++ cells.toList ++ old.toList.drop (off + cells.size)).toArray) := by
    cases hq : P.info? ty with
    | none => simp [hq] at hi
    | some i =>
      have hs : cells.size = i.size := by simp [hq] at hi; omega
      simp only [Nat.add_zero, Array.length_toList] at h9
      simp [storeVar, sizeOf, typeInfo, hq, Value.cells, hs, h9]
  unfold Oper.wp execOp
  simp only [ho, hx, hy, Instr.storeAt, Instr.sureAddr, Sem.run_bind, Sem.run_pure, Result.andThen_ok, hst]
  exact h
end
end Go.Proofs.Sky

namespace Go.Proofs.Sky
open Go Go.RowKit Go.Shelf
set_option maxHeartbeats 4000000
set_option maxRecDepth 8000
/-! the almanac: the reference's Check -/
def pgB (i : Nat) : Int := if i = 0 then 20 else if i = 1 then 14 else 12
theorem pgB_ok (i : Nat) : pgB i = 12 ∨ pgB i = 14 ∨ pgB i = 20 := by unfold pgB; split; · simp
                                                                      split <;> simp
def hdP (x : Nat → Int) : Prop := 1 ≤ x 0 ∧ x 0 ≤ 63 ∧ 0 ≤ x 1 ∧ x 1 ≤ 604799 ∧ 0 ≤ x 2 ∧ x 2 ≤ 65535 ∧ 0 ≤ x 3 ∧ x 3 ≤ 1048575
theorem inPg_eq (x : Nat → Int) : inPg x = (okT x (6, false, 0) && (okT x (20, false, 1) && (okT x (16, false, 2) && (okT x (20, false, 3) && (okZ 20 (x 4) && (okZ 14 (x 5) && (okZ 12 (x 6) && (okZ 20 (x 7) && (okZ 14 (x 8) && (okZ 12 (x 9) && (okZ 20 (x 10) && (okZ 14 (x 11) && (okZ 12 (x 12) && true))))))))))))) := rfl
theorem errPg_iff (x : Nat → Int) : errPg x = 0 ↔ hdP x ∧ ∀ i, i < 3 → okZ (pgB i) (x (4 + i)) = true ∧ okZ (pgB i) (x (7 + i)) = true ∧ okZ (pgB i) (x (10 + i)) = true := by
  have u6 : okT x (6, false, 0) = decide (0 ≤ x 0 ∧ x 0 ≤ 63) := okT_un (by decide)
  have u20 : ∀ j, okT x (20, false, j) = decide (0 ≤ x j ∧ x j ≤ 1048575) := fun j => okT_un (by decide)
  have u16 : okT x (16, false, 2) = decide (0 ≤ x 2 ∧ x 2 ≤ 65535) := okT_un (by decide)
  have e0 : errPg x = 0 ↔ (inPg x = true ∧ 1 ≤ x 0 ∧ x 1 < 604800) := by unfold errPg; split <;> simp_all
  rw [e0, inPg_eq, u6, u20, u20, u16]
  simp only [Bool.and_eq_true, decide_eq_true_eq]
  constructor
  · rintro ⟨⟨a0, a1, a2, a3, b0, b1, b2, b3, b4, b5, b6, b7, b8, _⟩, h1, h2⟩
    refine ⟨by unfold hdP; omega, fun i hi => ?_⟩
    match i, hi with
    | 0, _ => exact ⟨b0, b3, b6⟩
    | 1, _ => exact ⟨b1, b4, b7⟩
    | 2, _ => exact ⟨b2, b5, b8⟩
  · rintro ⟨h, h3⟩
    unfold hdP at h
    obtain ⟨b0, b3, b6⟩ := h3 0 (by omega)
    obtain ⟨b1, b4, b7⟩ := h3 1 (by omega)
    obtain ⟨b2, b5, b8⟩ := h3 2 (by omega)
    exact ⟨⟨by omega, by omega, by omega, by omega, b0, b1, b2, b3, b4, b5, b6, b7, b8, trivial⟩, by omega, by omega⟩
theorem errPg_two (x : Nat → Int) : errPg x = 0 ∨ errPg x = 2 := by unfold errPg; split <;> simp
theorem errPg_hd {x : Nat → Int} (h : ¬ hdP x) : errPg x = 2 := (errPg_two x).resolve_left (fun e => h ((errPg_iff x).1 e).1)
theorem errPg_ax {x : Nat → Int} {i : Nat} (hi : i < 3) (h : okZ (pgB i) (x (4 + i)) = false ∨ okZ (pgB i) (x (7 + i)) = false ∨ okZ (pgB i) (x (10 + i)) = false) : errPg x = 2 := by
  refine (errPg_two x).resolve_left (fun e => ?_)
  have h9 := ((errPg_iff x).1 e).2 i hi
  rw [h9.1, h9.2.1, h9.2.2] at h
  simp at h
theorem errPg_yes {x : Nat → Int} (h : hdP x) (h3 : ∀ i, i < 3 → okZ (pgB i) (x (4 + i)) = true ∧ okZ (pgB i) (x (7 + i)) = true ∧ okZ (pgB i) (x (10 + i)) = true) : errPg x = 0 := (errPg_iff x).2 ⟨h, h3⟩
end Go.Proofs.Sky

namespace Go.Proofs.Sky
open Go Go.RowKit Go.Shelf
set_option maxHeartbeats 4000000
set_option maxRecDepth 8000
/-! the almanac: around, rounded, at, check, At, bound, Error -/
def arQ (d : Int) : Int := (d + 302400) % 604800 - 302400
theorem arQ_bd (d : Int) : -302400 ≤ arQ d ∧ arQ d ≤ 302399 := by unfold arQ; omega
theorem around_any (d : Int) (h : -1000000000000 ≤ d ∧ d ≤ 1000000000000) (w : World) : Calls Tryd.prog 39 #[.int .i64 d] w fun e w' => e = .returned (.int .i64 (arQ d)) ∧ Bw w w' := by
  have HR := Lib.hid (show arQ d = (d + 302400) % 604800 - 302400 from rfl)
  obtain ⟨r, t1, r1, r2, ways⟩ := tmod_way (d + 302400) 604800 (by decide)
  have t2 : (r + 604800).tmod 604800 = (r + 604800) % 604800 := Int.tmod_eq_emod_of_nonneg (by omega)
  have HE := Lib.hid (show (d + 302400) % 604800 = (r + 604800) % 604800 by rcases ways with ⟨y, z⟩ | ⟨y, z⟩ <;> omega)
  clear ways
  have hb : 0 ≤ (r + 604800) % 604800 ∧ (r + 604800) % 604800 < 604800 := by omega
  rw [HE.out] at HR
  clear HE
  generalize (r + 604800) % 604800 = q at *
  go_enter Tryd.func39, Tryd.ntmps39
  go_wp2
  go_ret
  exact ⟨ret_int (by rw [HR.out]), Bw.refl _⟩
theorem alRounded_pos (a b : Int) (ha : 0 ≤ a ∧ a ≤ 1000000000000000) (hb : 1 ≤ b ∧ b ≤ 1000000000000) (w : World) : Calls Tryd.prog 54 #[.int .i64 a, .int .i64 b] w fun e w' => e = .returned (.int .i64 (rn a b)) ∧ Bw w w' := by
  have HR := Lib.hid (show rn a b = (2 * a + b) / (2 * b) by unfold rn; rw [if_neg (by omega)])
  have hn : ¬ a < 0 := by omega
  have hq : (2 * a + b).tdiv (2 * b) = (2 * a + b) / (2 * b) := Int.tdiv_eq_ediv_of_nonneg (by omega)
  have hz : 2 * b ≠ 0 := by omega
  have hbd : 0 ≤ (2 * a + b) / (2 * b) ∧ (2 * a + b) / (2 * b) ≤ 4000000000000000 := ⟨Int.ediv_nonneg (by omega) (by omega), Int.le_trans (Int.ediv_le_self _ (by omega)) (by omega)⟩
  go_enter Tryd.func54, Tryd.ntmps54
  go_wp2
  go_ret
  exact ⟨ret_int (by rw [HR.out]), Bw.refl _⟩
theorem rn_bd2 (a b : Int) (ha : 0 ≤ a ∧ a ≤ 1000000000000000) (hb : 1 ≤ b ∧ b ≤ 1000000000000) : 0 ≤ rn a b ∧ rn a b ≤ 4000000000000000 := by
  unfold rn
  rw [if_neg (by omega)]
  exact ⟨Int.ediv_nonneg (by omega) (by omega), Int.le_trans (Int.ediv_le_self _ (by omega)) (by omega)⟩
theorem alRounded_any (a b : Int) (ha : -1000000000000000 ≤ a ∧ a ≤ 1000000000000000) (hb : 1 ≤ b ∧ b ≤ 1000000000000) (w : World) : Calls Tryd.prog 54 #[.int .i64 a, .int .i64 b] w fun e w' => e = .returned (.int .i64 (rn a b)) ∧ Bw w w' := by
  by_cases hn : 0 ≤ a
  · exact alRounded_pos a b ⟨hn, ha.2⟩ hb w
  have HC := Lib.hid (fun W => alRounded_pos (-a) b (by omega) hb W)
  have HR := Lib.hid (show rn a b = -(rn (-a) b) by unfold rn; rw [if_pos (show a < 0 by omega), if_neg (show ¬ (-a < 0) by omega)])
  have hbd := rn_bd2 (-a) b (by omega) hb
  generalize rn (-a) b = q at *
  generalize rn a b = r at *
  have hn2 : a < 0 := by omega
  go_enter Tryd.func54, Tryd.ntmps54
  go_wp2_with (go_at_call 54; (with_reducible refine Calls.mono (HC.out _) ?_); rintro e1 w1 ⟨rfl, hb1⟩)
  go_ret
  exact ⟨ret_int (by rw [HR.out]), hb1⟩
def atQ (l0 l1 l2 d : Int) : Int := rn ((64 * l0 + l1 * d) * 1024 + l2 * d * d) 1024
theorem mul_bd2 {x y : Int} {A B : Int} (hx : -A ≤ x ∧ x ≤ A) (hy : -B ≤ y ∧ y ≤ B) : -(A * B) ≤ x * y ∧ x * y ≤ A * B := by
  have h1 : (x.natAbs : Int) * (y.natAbs : Int) ≤ A * B := Int.mul_le_mul (by omega) (by omega) (by omega) (by omega)
  rw [← Int.natCast_mul, ← Int.natAbs_mul] at h1
  generalize A * B = AB at *
  omega
theorem al3at_any (l0 l1 l2 d : Int) (g o : Nat) (h0 : -524288 ≤ l0 ∧ l0 ≤ 524287) (h1 : -8192 ≤ l1 ∧ l1 ≤ 8191) (h2 : -2048 ≤ l2 ∧ l2 ≤ 2047) (hd : -302400 ≤ d ∧ d ≤ 302400) (w : World) (hr : w.rangeAt g o [.int .i64 l0, .int .i64 l1, .int .i64 l2]) :
    Calls Tryd.prog 40 #[.pointer (some ⟨g, o, none⟩), .int .i64 d] w fun e w' => e = .returned (.int .i64 (atQ l0 l1 l2 d)) ∧ Bw w w' := by
  have HL := Lib.hid hr
  have b1 := mul_bd2 (show -8192 ≤ l1 ∧ l1 ≤ 8192 by omega) hd
  have b2 := mul_bd2 (show -2048 ≤ l2 ∧ l2 ≤ 2048 by omega) hd
  have b3 := mul_bd2 b2 hd
  have RN := Lib.hid (fun W => alRounded_any ((64 * l0 + l1 * d) * 1024 + l2 * d * d) 1024 (by omega) (by decide) W)
  have HR := Lib.hid (show atQ l0 l1 l2 d = rn ((64 * l0 + l1 * d) * 1024 + l2 * d * d) 1024 from rfl)
  generalize rn ((64 * l0 + l1 * d) * 1024 + l2 * d * d) 1024 = q at *
  generalize atQ l0 l1 l2 d = q2 at *
  clear hr
  have KN := Lib.hid (Blk.new w 27 #[.int .i64 l0, .int .i64 l1, .int .i64 l2])
  have HW := Lib.hid (Bw.alloc (Bw.refl w) (.cells #[.int .i64 l0, .int .i64 l1, .int .i64 l2] 27))
  go_enter Tryd.func40, Tryd.ntmps40
  go_upto_region 2 with ((with_reducible refine at_load 27 (.tmp 7) ?_); refine wpList_load_mid rfl 27 (.tmp 7) rfl g o rfl [.int .i64 l0, .int .i64 l1, .int .i64 l2] _ HL.out Tryd.underlying27 rfl (by kernel_rfl) ?_)
  generalize hWX : World.alloc w _ = wx at *
  have c0 := KN.out.cell (show (#[.int .i64 l0, .int .i64 l1, .int .i64 l2] : Array Value)[0]? = _ from rfl)
  have c1 := KN.out.cell (show (#[.int .i64 l0, .int .i64 l1, .int .i64 l2] : Array Value)[1]? = _ from rfl)
  have c2 := KN.out.cell (show (#[.int .i64 l0, .int .i64 l1, .int .i64 l2] : Array Value)[2]? = _ from rfl)
  clear hWX
  go_wp2_with (go_at_call 54; (with_reducible refine Calls.mono (RN.out _) ?_); rintro e1 w1 ⟨rfl, hb1⟩)
  go_ret
  exact ⟨ret_int (by rw [HR.out]), HW.out.trans hb1⟩
theorem pg_lim {x : Nat → Int} (h : errPg x = 0) : (1 ≤ x 0 ∧ x 0 ≤ 63) ∧ (0 ≤ x 1 ∧ x 1 ≤ 604799) ∧ (0 ≤ x 2 ∧ x 2 ≤ 65535) ∧ (0 ≤ x 3 ∧ x 3 ≤ 1048575) ∧ ∀ i, i < 3 → (-524288 ≤ x (4 + 3 * i) ∧ x (4 + 3 * i) ≤ 524287) ∧ (-8192 ≤ x (5 + 3 * i) ∧ x (5 + 3 * i) ≤ 8191) ∧ (-2048 ≤ x (6 + 3 * i) ∧ x (6 + 3 * i) ≤ 2047) := by
  obtain ⟨h1, h2⟩ := (errPg_iff x).1 h
  unfold hdP at h1
  have k20 : ∀ z, okZ 20 z = true → -524288 ≤ z ∧ z ≤ 524287 := fun z hz => by have := of_decide_eq_true hz; rwa [show lowR 20 true = -524288 from by decide, show highR 20 true = 524287 from by decide] at this
  have k14 : ∀ z, okZ 14 z = true → -8192 ≤ z ∧ z ≤ 8191 := fun z hz => by have := of_decide_eq_true hz; rwa [show lowR 14 true = -8192 from by decide, show highR 14 true = 8191 from by decide] at this
  have k12 : ∀ z, okZ 12 z = true → -2048 ≤ z ∧ z ≤ 2047 := fun z hz => by have := of_decide_eq_true hz; rwa [show lowR 12 true = -2048 from by decide, show highR 12 true = 2047 from by decide] at this
  refine ⟨by omega, by omega, by omega, by omega, fun i hi => ?_⟩
  obtain ⟨a0, a1, a2⟩ := h2 0 (by omega)
  obtain ⟨b0, b1, b2⟩ := h2 1 (by omega)
  obtain ⟨c0, c1, c2⟩ := h2 2 (by omega)
  match i, hi with
  | 0, _ => exact ⟨k20 _ a0, k14 _ b0, k12 _ c0⟩
  | 1, _ => exact ⟨k20 _ a1, k14 _ b1, k12 _ c1⟩
  | 2, _ => exact ⟨k20 _ a2, k14 _ b2, k12 _ c2⟩
def errTm (x : Nat → Int) (t : Int) : Int := if errPg x ≠ 0 then errPg x else if t < 0 ∨ 604800 ≤ t then 2 else 0
theorem errTm_ok {x : Nat → Int} {t : Int} (h : errTm x t = 0) : errPg x = 0 ∧ 0 ≤ t ∧ t < 604800 := by
  unfold errTm at h
  split at h
  · omega
  · split at h
    · omega
    · omega
theorem alcheck_any (x : Nat → Int) (t : Int) (w : World) (hw : WdAt w) : Calls Tryd.prog 38 #[.agg (pgV x), .int .i64 t] w fun e w' => e = .returned (.int .i64 (errTm x t)) ∧ Bw w w' := by
  have HWD := Lib.hid hw
  have PK := Lib.hid (fun W h => PgCheck_any x W h)
  have KX := Lib.hid (Blk.new w 29 (pgV x))
  have HW := Lib.hid (Bw.alloc (Bw.refl w) (.cells (pgV x) 29))
  have HE := Lib.hid (show errTm x t = if errPg x ≠ 0 then errPg x else if t < 0 ∨ 604800 ≤ t then 2 else 0 from rfl)
  generalize errTm x t = et at *
  generalize errPg x = ep at *
  obtain ⟨A, hA⟩ : ∃ A, A = pgV x := ⟨_, rfl⟩
  have HSZ : Hid ((Tryd.prog.info? 29).map (·.size) = some A.size) := Lib.hid (by rw [hA]; kernel_rfl)
  rw [← hA] at PK KX HW ⊢
  clear hA hw
  go_enter Tryd.func38, Tryd.ntmps38
  go_upto_region 1 with fail
  obtain ⟨g, hg⟩ : ∃ g, w.heap.size = g := ⟨_, rfl⟩
  rw [hg] at KX ⊢
  generalize World.alloc w _ = W0 at *
  clear hg
  go_upto_region 2 with (first | ((with_reducible refine at_load 29 (.tmp 2) ?_); refine wpList_load_row rfl 29 _ rfl g rfl 29 A (0, 0) _ KX.out Tryd.underlying29 rfl HSZ.out ?_) | (go_at_call 43; (with_reducible refine Calls.mono (PK.out _ (HWD.out.bw HW.out)) ?_); rintro e1 w1 ⟨rfl, hb1⟩; replace HW := Lib.hid (HW.out.trans hb1); clear hb1))
  by_cases c1 : ep = 0
  case neg =>
    have c1z : (ep != 0) = true := by simpa using c1
    have HR := Lib.hid (HE.out.trans (if_pos c1))
    clear c1
    go_wp2
    go_ret
    exact ⟨ret_int (by rw [HR.out]), HW.out⟩
  case pos =>
    subst c1
    by_cases c2 : t < 0
    case pos =>
      have HR := Lib.hid (HE.out.trans (by rw [if_neg (by decide), if_pos (.inl c2)]))
      go_wp2
      go_ret
      exact ⟨ret_int (by rw [HR.out]), HW.out⟩
    case neg =>
      by_cases c3 : 604800 ≤ t
      case pos =>
        have HR := Lib.hid (HE.out.trans (by rw [if_neg (by decide), if_pos (.inr c3)]))
        go_wp2
        go_ret
        exact ⟨ret_int (by rw [HR.out]), HW.out⟩
      case neg =>
        have HR := Lib.hid (HE.out.trans (by rw [if_neg (by decide), if_neg (by omega)]))
        go_wp2
        go_ret
        exact ⟨ret_int (by rw [HR.out]), HW.out⟩
end Go.Proofs.Sky
