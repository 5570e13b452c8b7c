/-
  lemmas for the theorems of this claim. No conditions beyond those written in the statements.
-/
import Derived.Test.YtmndialneggbjaaTD21
import Derived.Test.YtmndialneggbjaaTB21
import Derived.Test.YtmndialneggbjaaL21
import Derived.Deep.Cut
import Derived.BigRegion
set_option linter.unusedVariables false
set_option linter.unusedSimpArgs false
set_option linter.unnecessarySimpa false
namespace Go.Proofs.Sky
open Go Go.RowKit Go.Shelf
set_option maxHeartbeats 4000000
set_option maxRecDepth 4000
section
variable {P : Program} {ops : Array Oper} {rest : List Oper} {o : Oper} {a : Act} {w : World} {K : Act → World → Prop} {Q : Exit → Act → World → Prop}
theorem wp_append_ints (s x : Operand) (t : TypeId) (ho : o.op = .call { callee := .builtin .append, args := #[s, x], argTypes := #[t, t] }) (dst : Option Tmp) (hd : o.dst = dst)
    (base : Nat) (e : TypeId) (ht : P.underlying t = some (.slice e)) (hi : (P.info? e).map (fun i => (i.zero, i.size, i.bytes)) = some (some (.int .i64 0), 1, 8))
    (v : Value) (hs : a.eval s = v) (hown : w.ownsRow base e 1 v 0 []) (ad : Addr) (c : Nat) (zs : List Int) (hx : a.eval x = .slice (some ad) zs.length c) (hr : RdI w (.slice (some ad) zs.length c) zs)
    (hn : zs.length ≤ 1000000) (hbase : base ≤ w.heap.size)
    (h : ∀ v' w', w'.ownsRow base e 1 v' zs.length (zs.map (Value.int .i64)) → w.grownBy w' v.ownBlock → K (a.put dst v') w') : o.wp P a w K Q := by
  subst hd
  obtain ⟨i, hi, hzz⟩ := Option.map_eq_some_iff.1 hi
  simp only [Prod.mk.injEq] at hzz
  obtain ⟨hz0, hz1, hz2⟩ := hzz
  exact wp_append_own w s x t ho base e i _ 1 8 ht hi hz0 hz1 hz2 rfl (by decide) v 0 [] hs hown ad zs.length c (zs.map (Value.int .i64)) hx (by simp) hr.cells (int_one zs) (by unfold maxLen; omega) (by omega) hbase (fun v' w' h2 h3 _ => h v' w' (by simpa using h2) h3)
end
theorem rScalar_any (a b c d : Int) (w : World) (h : insP (a, b) = true) (h2 : insP (c, d) = true) : Calls Try.prog 36 #[.agg #[.int .i64 a, .int .i64 b], .agg #[.int .i64 c, .int .i64 d]] w fun e w' => e = .returned (.int .i64 (scl (a, b) (c, d))) ∧ Bw w w' := by
  have HF := Lib.hid (show scl (a, b) (c, d) = a * c + b * d from rfl)
  obtain ⟨a1, a2, a3, a4⟩ := (insP_iff _).1 h
  obtain ⟨b1, b2, b3, b4⟩ := (insP_iff _).1 h2
  simp only at a1 a2 a3 a4 b1 b2 b3 b4
  have ⟨m1, m2⟩ := mul_bd3 a c 1048576 1048576 (by omega) (by omega) (by omega) (by omega)
  have ⟨m3, m4⟩ := mul_bd3 b d 1048576 1048576 (by omega) (by omega) (by omega) (by omega)
  clear h h2
  go_enter Try.func36, Try.ntmps36
  go_wp2
  go_ret
  exact ⟨ret_int HF.out.symm, (by repeat (first | exact Bw.refl _ | assumption | refine Bw.alloc ?_ _ | refine Bw.drew ?_ | refine Bw.trans ?_ (by assumption) | refine Bw.setCell ?_ (by simp; try omega) _))⟩
theorem own_fresh {w : World} {base : Nat} {e : TypeId} {k : Nat} {v : Value} {n : Nat} {xs : List Value} (h : w.ownsRow base e k v n xs) : Fresh base v := by
  rcases h.2 with ⟨rfl, _⟩ | ⟨g, cap, cur, rfl, hg, _⟩
  · exact Fresh.nil _ _ _
  · exact Fresh.at hg
theorem own_rdN {w : World} {base : Nat} {e : TypeId} {v : Value} {n : Nat} {zs : List Int} (h : w.ownsRow base e 1 v n (zs.map (Value.int .i64))) (hn : n ≤ 1000000) (hz : zs.length = n) : RdI w v zs := by
  subst hz; exact (own_rd h (by omega)).1
theorem own_cellN {w : World} {base : Nat} {e : TypeId} {g cap n : Nat} {zs : List Int} (h : w.ownsRow base e 1 (.slice (some ⟨g, 0, none⟩) n cap) n (zs.map (Value.int .i64))) (i : Nat) (hi : i < n) (hn : zs.length = n) : w.cell? ⟨g, i, none⟩ = some (.int .i64 (zs.getD i 0)) := by
  subst hn; exact own_cell h i hi
theorem blk_ne_own {w : World} {base : Nat} {e T : TypeId} {k g ga n cap : Nat} {m : Nat} {xs : List Value} {cs : Array Value} (h : Blk w g T cs) (ho : w.ownsRow base e k (.slice (some ⟨ga, 0, none⟩) n cap) m xs) (hne : T ≠ e) : g ≠ ga := by
  rintro rfl
  rcases ho.2 with ⟨h9, _⟩ | ⟨g1, cap1, cur1, hv, _, hh, _⟩
  · cases h9
  · injection hv with e1 _ _
    injection e1 with e1
    injection e1 with e1
    subst e1
    unfold Blk at h
    rw [hh] at h; cases h; exact hne rfl
theorem rAdd_bad (ch : List Int) (v : Value) (S x y a1 a2 : Int) (w : World) (hv : RdI w v ch) (h0 : errS ch S (x, y) ≠ 0) :
    Calls Try.prog 29 #[.agg #[v, .int .i64 S, .int .i64 x, .int .i64 y], .agg #[.int .i64 a1, .int .i64 a2]] w fun e w' => SyP w.heap.size [] 0 (0, 0) (errS ch S (x, y)) e w' ∧ Bw w w' := by
  have HV := Lib.hid hv
  obtain ⟨ad, cap, rfl⟩ := hv.form
  clear hv
  have HC := Lib.hid (fun W hW => rCheck_any ch (.slice ad ch.length cap) S x y W hW)
  generalize errS ch S (x, y) = er at HC h0 ⊢
  have hne : (er != 0) = true := by simpa using h0
  obtain ⟨n, hn⟩ : ∃ n, n = ch.length := ⟨_, rfl⟩
  rw [← hn] at HC HV ⊢
  clear hn
  have HBW := Lib.hid (Bw.alloc (Bw.alloc (Bw.alloc (Bw.refl w) (.cells #[.slice ad n cap, .int .i64 S, .int .i64 x, .int .i64 y] 36)) (.cells #[.int .i64 a1, .int .i64 a2] 34)) (.cells #[.slice none 0 0, .int .i64 0, .int .i64 0, .int .i64 0] 36))
  have KX := Lib.hid (((Blk.new w 36 #[.slice ad n cap, .int .i64 S, .int .i64 x, .int .i64 y]).alloc (.cells #[.int .i64 a1, .int .i64 a2] 34)).alloc (.cells #[.slice none 0 0, .int .i64 0, .int .i64 0, .int .i64 0] 36))
  have SX : Hid (Blk (((w.alloc (.cells #[.slice ad n cap, .int .i64 S, .int .i64 x, .int .i64 y] 36)).alloc (.cells #[.int .i64 a1, .int .i64 a2] 34)).alloc (.cells #[.slice none 0 0, .int .i64 0, .int .i64 0, .int .i64 0] 36)) (w.heap.size + 1) 34 #[.int .i64 a1, .int .i64 a2]) := Lib.hid (by have h9 := (Blk.new (w.alloc (.cells #[.slice ad n cap, .int .i64 S, .int .i64 x, .int .i64 y] 36)) 34 #[.int .i64 a1, .int .i64 a2]).alloc (.cells #[.slice none 0 0, .int .i64 0, .int .i64 0, .int .i64 0] 36); simpa using h9)
  have ZX : Hid (Blk (((w.alloc (.cells #[.slice ad n cap, .int .i64 S, .int .i64 x, .int .i64 y] 36)).alloc (.cells #[.int .i64 a1, .int .i64 a2] 34)).alloc (.cells #[.slice none 0 0, .int .i64 0, .int .i64 0, .int .i64 0] 36)) (w.heap.size + 1 + 1) 36 #[.slice none 0 0, .int .i64 0, .int .i64 0, .int .i64 0]) := Lib.hid (by have h9 := Blk.new ((w.alloc (.cells #[.slice ad n cap, .int .i64 S, .int .i64 x, .int .i64 y] 36)).alloc (.cells #[.int .i64 a1, .int .i64 a2] 34)) 36 #[.slice none 0 0, .int .i64 0, .int .i64 0, .int .i64 0]; simpa using h9)
  go_enter Try.func29, Try.ntmps29
  go_wp2_with (go_at_call 27; (with_reducible refine Calls.mono (HC.out _ (HV.out.mono HBW.out)) ?_); rintro e1 w1 ⟨rfl, hb1⟩; replace HBW := Lib.hid (HBW.out.trans hb1); replace KX := Lib.hid (KX.out.bw hb1); replace SX := Lib.hid (SX.out.bw hb1); replace ZX := Lib.hid (ZX.out.bw hb1); clear hb1; have k0 : w1.cell? ⟨w.heap.size, 0, none⟩ = some (.slice ad n cap) := KX.out.cell rfl; have k1 : w1.cell? ⟨w.heap.size, 1, none⟩ = some (.int .i64 S) := KX.out.cell rfl; have k2 : w1.cell? ⟨w.heap.size, 2, none⟩ = some (.int .i64 x) := KX.out.cell rfl; have k3 : w1.cell? ⟨w.heap.size, 3, none⟩ = some (.int .i64 y) := KX.out.cell rfl; have s0 : w1.cell? ⟨w.heap.size + 1, 0, none⟩ = some (.int .i64 a1) := SX.out.cell rfl; have s1 : w1.cell? ⟨w.heap.size + 1, 1, none⟩ = some (.int .i64 a2) := SX.out.cell rfl; have z0 : w1.cell? ⟨w.heap.size + 1 + 1, 0, none⟩ = some (.slice none 0 0) := ZX.out.cell rfl; have z1 : w1.cell? ⟨w.heap.size + 1 + 1, 1, none⟩ = some (.int .i64 0) := ZX.out.cell rfl; have z2 : w1.cell? ⟨w.heap.size + 1 + 1, 2, none⟩ = some (.int .i64 0) := ZX.out.cell rfl; have z3 : w1.cell? ⟨w.heap.size + 1 + 1, 3, none⟩ = some (.int .i64 0) := ZX.out.cell rfl; have q0 := ZX.out.frozen 0; have q1 := ZX.out.frozen 1; have q2 := ZX.out.frozen 2; have q3 := ZX.out.frozen 3)
  have B9 := (((ZX.out.set 0 (.slice none 0 0)).set 1 (.int .i64 0)).set 2 (.int .i64 0)).set 3 (.int .i64 0)
  have m0 := B9.cell (j := 0) rfl
  have m1 := B9.cell (j := 1) rfl
  have m2 := B9.cell (j := 2) rfl
  have m3 := B9.cell (j := 3) rfl
  refine bodyPost_ret (v := .tuple #[.agg #[.slice none 0 0, .int .i64 0, .int .i64 0, .int .i64 0], .int .i64 er]) ?_ rfl ⟨⟨_, rfl, RdI.nil _, Fresh.nil _ _ _⟩, Bw.setCell (Bw.setCell (Bw.setCell (Bw.setCell HBW.out (p := ⟨w.heap.size + 1 + 1, 0, none⟩) (by simp; try omega) _) (p := ⟨w.heap.size + 1 + 1, 1, none⟩) (by simp; try omega) _) (p := ⟨w.heap.size + 1 + 1, 2, none⟩) (by simp; try omega) _) (p := ⟨w.heap.size + 1 + 1, 3, none⟩) (by simp; try omega) _⟩
  simp [results, Try.results29, go_sem, m0, m1, m2, m3]
theorem rAdd_main (ch : List Int) (v : Value) (S : Nat) (x y a1 a2 : Int) (w : World) (hv : RdI w v ch) (h0 : errS ch S (x, y) = 0) :
    Calls Try.prog 29 #[.agg #[v, .int .i64 S, .int .i64 x, .int .i64 y], .agg #[.int .i64 a1, .int .i64 a2]] w fun e w' => SyP w.heap.size (if addE S (a1, a2) = 0 then chN ch S (x, y) (a1, a2) else []) (if addE S (a1, a2) = 0 then (S : Int) + 1 else 0) (if addE S (a1, a2) = 0 then (a1, a2) else (0, 0)) (addE S (a1, a2)) e w' ∧ Bw w w' := by
  have HV := Lib.hid hv
  obtain ⟨b, off, cap, rfl, _, _⟩ := hv.at (by have := (errS_zero h0).1.1; omega)
  clear hv
  have hz := errS_zero h0
  have HC := Lib.hid (fun W hW => rCheck_any ch (.slice (some ⟨b, off, none⟩) ch.length cap) S x y W hW)
  rw [h0] at HC
  clear h0
  obtain ⟨n, hn⟩ : ∃ n, n = ch.length := ⟨_, rfl⟩
  rw [← hn] at HC HV hz ⊢
  have HN := Lib.hid hn
  clear hn
  obtain ⟨⟨n1, n2⟩, ⟨_, n3⟩, hil, hcb⟩ := hz
  have HI := Lib.hid (fun W => rInside_any a1 a2 W)
  have HBW := Lib.hid (Bw.alloc (Bw.alloc (Bw.alloc (Bw.refl w) (.cells #[.slice (some ⟨b, off, none⟩) n cap, .int .i64 S, .int .i64 x, .int .i64 y] 36)) (.cells #[.int .i64 a1, .int .i64 a2] 34)) (.cells #[.slice none 0 0, .int .i64 0, .int .i64 0, .int .i64 0] 36))
  have KX := Lib.hid (((Blk.new w 36 #[.slice (some ⟨b, off, none⟩) n cap, .int .i64 S, .int .i64 x, .int .i64 y]).alloc (.cells #[.int .i64 a1, .int .i64 a2] 34)).alloc (.cells #[.slice none 0 0, .int .i64 0, .int .i64 0, .int .i64 0] 36))
  have SX : Hid (Blk (((w.alloc (.cells #[.slice (some ⟨b, off, none⟩) n cap, .int .i64 S, .int .i64 x, .int .i64 y] 36)).alloc (.cells #[.int .i64 a1, .int .i64 a2] 34)).alloc (.cells #[.slice none 0 0, .int .i64 0, .int .i64 0, .int .i64 0] 36)) (w.heap.size + 1) 34 #[.int .i64 a1, .int .i64 a2]) := Lib.hid (by have h9 := (Blk.new (w.alloc (.cells #[.slice (some ⟨b, off, none⟩) n cap, .int .i64 S, .int .i64 x, .int .i64 y] 36)) 34 #[.int .i64 a1, .int .i64 a2]).alloc (.cells #[.slice none 0 0, .int .i64 0, .int .i64 0, .int .i64 0] 36); simpa using h9)
  have ZX : Hid (Blk (((w.alloc (.cells #[.slice (some ⟨b, off, none⟩) n cap, .int .i64 S, .int .i64 x, .int .i64 y] 36)).alloc (.cells #[.int .i64 a1, .int .i64 a2] 34)).alloc (.cells #[.slice none 0 0, .int .i64 0, .int .i64 0, .int .i64 0] 36)) (w.heap.size + 1 + 1) 36 #[.slice none 0 0, .int .i64 0, .int .i64 0, .int .i64 0]) := Lib.hid (by have h9 := Blk.new ((w.alloc (.cells #[.slice (some ⟨b, off, none⟩) n cap, .int .i64 S, .int .i64 x, .int .i64 y] 36)).alloc (.cells #[.int .i64 a1, .int .i64 a2] 34)) 36 #[.slice none 0 0, .int .i64 0, .int .i64 0, .int .i64 0]; simpa using h9)
  by_cases h1 : S = 1000000
  · subst h1
    have HE := Lib.hid (show addE ((1000000 : Nat) : Int) (a1, a2) = 12 by unfold addE; rw [if_pos (by rfl)])
    rw [HE.out, if_neg (by decide), if_neg (by decide), if_neg (by decide)]
    go_enter Try.func29, Try.ntmps29
    go_wp2_with (go_at_call 27; (with_reducible refine Calls.mono (HC.out _ (HV.out.mono HBW.out)) ?_); rintro e1 w1 ⟨rfl, hb1⟩; replace HBW := Lib.hid (HBW.out.trans hb1); replace KX := Lib.hid (KX.out.bw hb1); replace SX := Lib.hid (SX.out.bw hb1); replace ZX := Lib.hid (ZX.out.bw hb1); clear hb1; have k0 : w1.cell? ⟨w.heap.size, 0, none⟩ = some (.slice (some ⟨b, off, none⟩) n cap) := KX.out.cell rfl; have k1 : w1.cell? ⟨w.heap.size, 1, none⟩ = some (.int .i64 ((1000000 : Nat) : Int)) := KX.out.cell rfl; have k2 : w1.cell? ⟨w.heap.size, 2, none⟩ = some (.int .i64 x) := KX.out.cell rfl; have k3 : w1.cell? ⟨w.heap.size, 3, none⟩ = some (.int .i64 y) := KX.out.cell rfl; have s0 : w1.cell? ⟨w.heap.size + 1, 0, none⟩ = some (.int .i64 a1) := SX.out.cell rfl; have s1 : w1.cell? ⟨w.heap.size + 1, 1, none⟩ = some (.int .i64 a2) := SX.out.cell rfl; have z0 : w1.cell? ⟨w.heap.size + 1 + 1, 0, none⟩ = some (.slice none 0 0) := ZX.out.cell rfl; have z1 : w1.cell? ⟨w.heap.size + 1 + 1, 1, none⟩ = some (.int .i64 0) := ZX.out.cell rfl; have z2 : w1.cell? ⟨w.heap.size + 1 + 1, 2, none⟩ = some (.int .i64 0) := ZX.out.cell rfl; have z3 : w1.cell? ⟨w.heap.size + 1 + 1, 3, none⟩ = some (.int .i64 0) := ZX.out.cell rfl; have q0 := ZX.out.frozen 0; have q1 := ZX.out.frozen 1; have q2 := ZX.out.frozen 2; have q3 := ZX.out.frozen 3)
    have B9 := (((ZX.out.set 0 (.slice none 0 0)).set 1 (.int .i64 0)).set 2 (.int .i64 0)).set 3 (.int .i64 0)
    have m0 := B9.cell (j := 0) rfl
    have m1 := B9.cell (j := 1) rfl
    have m2 := B9.cell (j := 2) rfl
    have m3 := B9.cell (j := 3) rfl
    refine bodyPost_ret (v := .tuple #[.agg #[.slice none 0 0, .int .i64 0, .int .i64 0, .int .i64 0], .int .i64 12]) ?_ rfl ⟨⟨_, rfl, RdI.nil _, Fresh.nil _ _ _⟩, Bw.setCell (Bw.setCell (Bw.setCell (Bw.setCell HBW.out (p := ⟨w.heap.size + 1 + 1, 0, none⟩) (by simp; try omega) _) (p := ⟨w.heap.size + 1 + 1, 1, none⟩) (by simp; try omega) _) (p := ⟨w.heap.size + 1 + 1, 2, none⟩) (by simp; try omega) _) (p := ⟨w.heap.size + 1 + 1, 3, none⟩) (by simp; try omega) _⟩
    simp [results, Try.results29, go_sem, m0, m1, m2, m3]
  have h1i : ¬ (S : Int) = 1000000 := by omega
  cases hi : insP (a1, a2) with
  | false =>
    have HE := Lib.hid (show addE (S : Int) (a1, a2) = 2 by unfold addE; rw [if_neg h1i, hi]; simp)
    rw [HE.out, if_neg (by decide), if_neg (by decide), if_neg (by decide)]
    rw [hi] at HI
    clear hi
    go_enter Try.func29, Try.ntmps29
    go_wp2_with (first | (go_at_call 27; (with_reducible refine Calls.mono (HC.out _ (HV.out.mono HBW.out)) ?_); rintro e1 w1 ⟨rfl, hb1⟩; replace HBW := Lib.hid (HBW.out.trans hb1); replace KX := Lib.hid (KX.out.bw hb1); replace SX := Lib.hid (SX.out.bw hb1); replace ZX := Lib.hid (ZX.out.bw hb1); clear hb1; have k0 : w1.cell? ⟨w.heap.size, 0, none⟩ = some (.slice (some ⟨b, off, none⟩) n cap) := KX.out.cell rfl; have k1 : w1.cell? ⟨w.heap.size, 1, none⟩ = some (.int .i64 S) := KX.out.cell rfl; have k2 : w1.cell? ⟨w.heap.size, 2, none⟩ = some (.int .i64 x) := KX.out.cell rfl; have k3 : w1.cell? ⟨w.heap.size, 3, none⟩ = some (.int .i64 y) := KX.out.cell rfl; have s0 : w1.cell? ⟨w.heap.size + 1, 0, none⟩ = some (.int .i64 a1) := SX.out.cell rfl; have s1 : w1.cell? ⟨w.heap.size + 1, 1, none⟩ = some (.int .i64 a2) := SX.out.cell rfl; have z0 : w1.cell? ⟨w.heap.size + 1 + 1, 0, none⟩ = some (.slice none 0 0) := ZX.out.cell rfl; have z1 : w1.cell? ⟨w.heap.size + 1 + 1, 1, none⟩ = some (.int .i64 0) := ZX.out.cell rfl; have z2 : w1.cell? ⟨w.heap.size + 1 + 1, 2, none⟩ = some (.int .i64 0) := ZX.out.cell rfl; have z3 : w1.cell? ⟨w.heap.size + 1 + 1, 3, none⟩ = some (.int .i64 0) := ZX.out.cell rfl; have q0 := ZX.out.frozen 0; have q1 := ZX.out.frozen 1; have q2 := ZX.out.frozen 2; have q3 := ZX.out.frozen 3) | (go_at_call 34; (with_reducible refine Calls.mono (HI.out _) ?_); rintro e1 w2 ⟨rfl, hb1⟩; replace HBW := Lib.hid (HBW.out.trans hb1); replace KX := Lib.hid (KX.out.bw hb1); replace SX := Lib.hid (SX.out.bw hb1); replace ZX := Lib.hid (ZX.out.bw hb1); clear hb1; clear k0 k1 k2 k3 s0 s1 z0 z1 z2 z3 q0 q1 q2 q3; have k0 : w2.cell? ⟨w.heap.size, 0, none⟩ = some (.slice (some ⟨b, off, none⟩) n cap) := KX.out.cell rfl; have k1 : w2.cell? ⟨w.heap.size, 1, none⟩ = some (.int .i64 S) := KX.out.cell rfl; have k2 : w2.cell? ⟨w.heap.size, 2, none⟩ = some (.int .i64 x) := KX.out.cell rfl; have k3 : w2.cell? ⟨w.heap.size, 3, none⟩ = some (.int .i64 y) := KX.out.cell rfl; have s0 : w2.cell? ⟨w.heap.size + 1, 0, none⟩ = some (.int .i64 a1) := SX.out.cell rfl; have s1 : w2.cell? ⟨w.heap.size + 1, 1, none⟩ = some (.int .i64 a2) := SX.out.cell rfl; have z0 : w2.cell? ⟨w.heap.size + 1 + 1, 0, none⟩ = some (.slice none 0 0) := ZX.out.cell rfl; have z1 : w2.cell? ⟨w.heap.size + 1 + 1, 1, none⟩ = some (.int .i64 0) := ZX.out.cell rfl; have z2 : w2.cell? ⟨w.heap.size + 1 + 1, 2, none⟩ = some (.int .i64 0) := ZX.out.cell rfl; have z3 : w2.cell? ⟨w.heap.size + 1 + 1, 3, none⟩ = some (.int .i64 0) := ZX.out.cell rfl; have q0 := ZX.out.frozen 0; have q1 := ZX.out.frozen 1; have q2 := ZX.out.frozen 2; have q3 := ZX.out.frozen 3))
    have B9 := (((ZX.out.set 0 (.slice none 0 0)).set 1 (.int .i64 0)).set 2 (.int .i64 0)).set 3 (.int .i64 0)
    have m0 := B9.cell (j := 0) rfl
    have m1 := B9.cell (j := 1) rfl
    have m2 := B9.cell (j := 2) rfl
    have m3 := B9.cell (j := 3) rfl
    refine bodyPost_ret (v := .tuple #[.agg #[.slice none 0 0, .int .i64 0, .int .i64 0, .int .i64 0], .int .i64 2]) ?_ rfl ⟨⟨_, rfl, RdI.nil _, Fresh.nil _ _ _⟩, Bw.setCell (Bw.setCell (Bw.setCell (Bw.setCell HBW.out (p := ⟨w.heap.size + 1 + 1, 0, none⟩) (by simp; try omega) _) (p := ⟨w.heap.size + 1 + 1, 1, none⟩) (by simp; try omega) _) (p := ⟨w.heap.size + 1 + 1, 2, none⟩) (by simp; try omega) _) (p := ⟨w.heap.size + 1 + 1, 3, none⟩) (by simp; try omega) _⟩
    simp [results, Try.results29, go_sem, m0, m1, m2, m3]
  | true =>
    have HE := Lib.hid (show addE (S : Int) (a1, a2) = 0 by unfold addE; rw [if_neg h1i, hi]; simp)
    rw [HE.out, if_pos rfl, if_pos rfl, if_pos rfl]
    rw [hi] at HI
    have SC := Lib.hid (fun W => rScalar_any x y a1 a2 W hil hi)
    clear hi
    obtain ⟨sc, hsc⟩ : ∃ sc, sc = scl (x, y) (a1, a2) := ⟨_, rfl⟩
    rw [← hsc] at SC
    have HCN := Lib.hid (show chN ch S (x, y) (a1, a2) = if 0 < (S : Int) ∧ sc < 0 then ch.set (S % n) (ch.getD (S % n) 0 + 1) else ch by rw [hsc, HN.out]; rfl)
    clear hsc hil
    have HCB := Lib.hid hcb
    clear hcb
    go_enter Try.func29, Try.ntmps29
    go_upto_region 8 with (first | (go_at_call 27; (with_reducible refine Calls.mono (HC.out _ (HV.out.mono HBW.out)) ?_); rintro e1 w1 ⟨rfl, hb1⟩; replace HBW := Lib.hid (HBW.out.trans hb1); replace KX := Lib.hid (KX.out.bw hb1); replace SX := Lib.hid (SX.out.bw hb1); replace ZX := Lib.hid (ZX.out.bw hb1); clear hb1; have k0 : w1.cell? ⟨w.heap.size, 0, none⟩ = some (.slice (some ⟨b, off, none⟩) n cap) := KX.out.cell rfl; have k1 : w1.cell? ⟨w.heap.size, 1, none⟩ = some (.int .i64 S) := KX.out.cell rfl; have k2 : w1.cell? ⟨w.heap.size, 2, none⟩ = some (.int .i64 x) := KX.out.cell rfl; have k3 : w1.cell? ⟨w.heap.size, 3, none⟩ = some (.int .i64 y) := KX.out.cell rfl; have s0 : w1.cell? ⟨w.heap.size + 1, 0, none⟩ = some (.int .i64 a1) := SX.out.cell rfl; have s1 : w1.cell? ⟨w.heap.size + 1, 1, none⟩ = some (.int .i64 a2) := SX.out.cell rfl; have z0 : w1.cell? ⟨w.heap.size + 1 + 1, 0, none⟩ = some (.slice none 0 0) := ZX.out.cell rfl; have z1 : w1.cell? ⟨w.heap.size + 1 + 1, 1, none⟩ = some (.int .i64 0) := ZX.out.cell rfl; have z2 : w1.cell? ⟨w.heap.size + 1 + 1, 2, none⟩ = some (.int .i64 0) := ZX.out.cell rfl; have z3 : w1.cell? ⟨w.heap.size + 1 + 1, 3, none⟩ = some (.int .i64 0) := ZX.out.cell rfl; have q0 := ZX.out.frozen 0; have q1 := ZX.out.frozen 1; have q2 := ZX.out.frozen 2; have q3 := ZX.out.frozen 3) | (go_at_call 34; (with_reducible refine Calls.mono (HI.out _) ?_); rintro e1 w2 ⟨rfl, hb1⟩; replace HBW := Lib.hid (HBW.out.trans hb1); replace KX := Lib.hid (KX.out.bw hb1); replace SX := Lib.hid (SX.out.bw hb1); replace ZX := Lib.hid (ZX.out.bw hb1); clear hb1; clear k0 k1 k2 k3 s0 s1 z0 z1 z2 z3 q0 q1 q2 q3; have k0 : w2.cell? ⟨w.heap.size, 0, none⟩ = some (.slice (some ⟨b, off, none⟩) n cap) := KX.out.cell rfl; have k1 : w2.cell? ⟨w.heap.size, 1, none⟩ = some (.int .i64 S) := KX.out.cell rfl; have k2 : w2.cell? ⟨w.heap.size, 2, none⟩ = some (.int .i64 x) := KX.out.cell rfl; have k3 : w2.cell? ⟨w.heap.size, 3, none⟩ = some (.int .i64 y) := KX.out.cell rfl; have s0 : w2.cell? ⟨w.heap.size + 1, 0, none⟩ = some (.int .i64 a1) := SX.out.cell rfl; have s1 : w2.cell? ⟨w.heap.size + 1, 1, none⟩ = some (.int .i64 a2) := SX.out.cell rfl; have z0 : w2.cell? ⟨w.heap.size + 1 + 1, 0, none⟩ = some (.slice none 0 0) := ZX.out.cell rfl; have z1 : w2.cell? ⟨w.heap.size + 1 + 1, 1, none⟩ = some (.int .i64 0) := ZX.out.cell rfl; have z2 : w2.cell? ⟨w.heap.size + 1 + 1, 2, none⟩ = some (.int .i64 0) := ZX.out.cell rfl; have z3 : w2.cell? ⟨w.heap.size + 1 + 1, 3, none⟩ = some (.int .i64 0) := ZX.out.cell rfl; have q0 := ZX.out.frozen 0; have q1 := ZX.out.frozen 1; have q2 := ZX.out.frozen 2; have q3 := ZX.out.frozen 3))
    obtain ⟨BB, hBB⟩ : ∃ BB, w2.heap.size = BB := ⟨_, rfl⟩
    have HBB := Lib.hid hBB
    have HZB := Lib.hid (show w.heap.size + 1 + 1 < BB by rw [← hBB]; exact ZX.out.lt)
    clear hBB
    go_cut [7] from 8 (fun s7 wc => ∃ g3 ga ca, s7 = .pointer (some ⟨g3, 0, none⟩) ∧ Hid (Bw w2 wc) ∧ Hid (Blk wc g3 36 #[.slice (some ⟨ga, 0, none⟩) n ca, .int .i64 (S + 1), .int .i64 a1, .int .i64 a2]) ∧ Hid (wc.ownsRow BB 3 1 (.slice (some ⟨ga, 0, none⟩) n ca) n (ch.map (Value.int .i64))))
    case first =>
      clear k0 k1 k2 k3 s0 s1 z0 z1 z2 z3 q0 q1 q2 q3
      refine wp_region_held_drew (S := Bw w2) (by kernel_rfl) (Bw.drew (Bw.refl _)) (fun hS => ?_)
      generalize World.drew _ = wd at hS ⊢
      refine take1 (i := 1) (some 23) rfl rfl (by kernel_rfl) (by kernel_rfl) (by kernel_rfl) (fun _ _ _ _ h => h) rfl hS ?_
      apply Exists.intro
      apply And.intro
      · intro W9 hW9; go_simp; try with_reducible rfl
      simp only [Act.put, List.setIfInBounds_toArray, List.set_cons_zero, List.set_cons_succ]
      refine take1 (i := 2) (some 24) rfl rfl (by kernel_rfl) (by kernel_rfl) (by kernel_rfl) (fun _ _ _ _ h => h) rfl hS ?_
      apply Exists.intro
      apply And.intro
      · intro W9 hW9; have y0 := (KX.out.bw hW9).cell (j := 0) rfl; go_simp; try with_reducible rfl
      simp only [Act.put, List.setIfInBounds_toArray, List.set_cons_zero, List.set_cons_succ]
      refine take1 (i := 4) (some 26) rfl rfl (by kernel_rfl) (by kernel_rfl) (by kernel_rfl) (fun _ _ _ _ h => h) rfl hS ?_
      apply Exists.intro
      apply And.intro
      · intro W9 hW9; go_simp; try with_reducible rfl
      simp only [Act.put, List.setIfInBounds_toArray, List.set_cons_zero, List.set_cons_succ]
      refine take1 (i := 5) (some 27) rfl rfl (by kernel_rfl) (by kernel_rfl) (by kernel_rfl) (fun _ _ _ _ h => h) rfl hS ?_
      apply Exists.intro
      apply And.intro
      · intro W9 hW9; have y0 := (KX.out.bw hW9).cell (j := 1) rfl; go_simp; try with_reducible rfl
      simp only [Act.put, List.setIfInBounds_toArray, List.set_cons_zero, List.set_cons_succ]
      refine take1 (i := 6) (some 28) rfl rfl (by kernel_rfl) (by kernel_rfl) (by kernel_rfl) (fun _ _ _ _ h => h) rfl hS ?_
      refine Exists.intro (.int .i64 (S + 1)) ?_
      apply And.intro
      · intro W9 hW9; go_simp; (try go_bits); (try with_reducible rfl); (try trivial)
      simp only [Act.put, List.setIfInBounds_toArray, List.set_cons_zero, List.set_cons_succ]
      refine take1 (i := 7) (some 29) rfl rfl (by kernel_rfl) (by kernel_rfl) (by kernel_rfl) (fun _ _ _ _ h => h) rfl hS ?_
      apply Exists.intro
      apply And.intro
      · intro W9 hW9; exact run_load_row 34 _ rfl (w.heap.size + 1) rfl 34 _ _ (SX.out.bw hW9) Try.underlying34 rfl (by kernel_rfl)
      simp only [Act.put, List.setIfInBounds_toArray, List.set_cons_zero, List.set_cons_succ]
      refine wpAnyH_ready (rs := [0, 9]) (by kernel_rfl) (by simp) ?_
      refine AllReadyH.cons rfl (fun K hK => ?_) ?_
      go_simp
      have hba := Bw.alloc (Bw.refl wd) (.cells #[] 3)
      obtain ⟨n0, hn0⟩ : ∃ n0, wd.heap.size = n0 := ⟨_, rfl⟩
      have HN0 := Lib.hid (show BB ≤ n0 by rw [← hn0]; exact Nat.le_trans (Nat.le_of_eq HBB.out.symm) hS.size)
      have O0 := Lib.hid (own_down (own0 (e := 3) wd n0 hn0) HN0.out)
      rw [hn0]
      refine hK.out _ _ (hS.trans hba) (fun hS => ?_)
      clear hK K
      clear hba hn0
      generalize World.alloc wd _ = wo at hS O0 ⊢
      refine wpAnyH_ready (rs := [3, 9]) (by kernel_rfl) (by simp) ?_
      refine AllReadyH.cons rfl (fun K hK => ?_) ?_
      rw [if_pos (by rfl)]
      refine wp_append_ints (.tmp 22) (.tmp 24) _ rfl (some 25) rfl BB 3 Try.underlying27 infoInt (.slice (some ⟨n0, 0, none⟩) 0 0) rfl O0.out ⟨b, off, none⟩ cap ch (congrArg (fun k => Value.slice (some ⟨b, off, none⟩) k cap) HN.out) (by rw [← HN.out]; exact HV.out.mono (HBW.out.trans hS)) (by have := HN.out; omega) (by rw [← HBB.out]; exact hS.size) ?_
      intro v9 wp hown hgr
      simp only [Act.put, List.setIfInBounds_toArray, List.set_cons_zero, List.set_cons_succ]
      have hb9 := Bw.grownN HBB.out hS O0.out hgr
      obtain ⟨ga, ca, rfl⟩ := own_some hown (by have := HN.out; omega)
      rw [← HN.out] at hown ⊢
      have O3 := Lib.hid hown
      clear hown hgr O0
      refine hK.out _ _ hb9 (fun hS => ?_)
      clear hK K
      refine take1 (i := 8) (some 30) rfl rfl (by kernel_rfl) (by kernel_rfl) (by kernel_rfl) (fun _ _ _ _ h => h) rfl hS ?_
      apply Exists.intro
      apply And.intro
      · intro W9 hW9; go_simp; try with_reducible rfl
      simp only [Act.put, List.setIfInBounds_toArray, List.set_cons_zero, List.set_cons_succ]
      refine wpAnyH_ready (rs := [9]) (by kernel_rfl) (by simp) ?_
      refine AllReadyH.cons rfl (fun K hK => ?_) ?_
      rw [if_pos (by rfl)]
      refine wp_alloc_new 36 rfl (some 7) rfl _ (zeroSy _) ?_
      intro g3 wb hg3 hN hbw
      simp only [Act.put, List.setIfInBounds_toArray, List.set_cons_zero, List.set_cons_succ]
      have NB3 := Lib.hid hN
      have HG3 := Lib.hid (Nat.le_trans hS.size hg3)
      replace O3 := Lib.hid (own_bw O3.out hbw)
      clear hN
      refine hK.out _ _ (hS.trans hbw) (fun hS => ?_)
      clear hK K
      refine wpAnyH_ready (rs := [10]) (by kernel_rfl) (by simp) ?_
      refine AllReadyH.cons rfl (fun K hK => ?_) ?_
      rw [if_pos (by rfl)]
      refine wp_store_row0 36 _ _ rfl rfl g3 #[.slice (some ⟨ga, 0, none⟩) n ca, .int .i64 (S + 1), .int .i64 a1, .int .i64 a2] rfl rfl 36 #[.slice none 0 0, .int .i64 0, .int .i64 0, .int .i64 0] NB3.out (by kernel_rfl) rfl (by simp [Value.oneCell']) ?_
      have OB := NB3.out
      replace NB3 := Lib.hid (NB3.out.row #[.slice (some ⟨ga, 0, none⟩) n ca, .int .i64 (S + 1), .int .i64 a1, .int .i64 a2])
      replace O3 := Lib.hid (own_rowT O3.out OB (by decide) #[.slice (some ⟨ga, 0, none⟩) n ca, .int .i64 (S + 1), .int .i64 a1, .int .i64 a2])
      clear OB
      refine hK.out _ _ (Bw.setRow hS HG3.out #[.slice (some ⟨ga, 0, none⟩) n ca, .int .i64 (S + 1), .int .i64 a1, .int .i64 a2]) (fun hS => ?_)
      clear hK K
      refine wpAnyH_done (by kernel_rfl) ?_ _
      rotate_left
      exact AllReadyH.nil
      exact AllReadyH.nil
      refine AllReadyH.cons rfl (fun K hK => ?_) ?_
      rw [if_pos (by rfl)]
      refine wp_alloc_new 36 rfl (some 7) rfl _ (zeroSy _) ?_
      intro g3 wb hg3 hN hbw
      simp only [Act.put, List.setIfInBounds_toArray, List.set_cons_zero, List.set_cons_succ]
      have NB3 := Lib.hid hN
      have HG3 := Lib.hid (Nat.le_trans hS.size hg3)
      replace O0 := Lib.hid (own_bw O0.out hbw)
      clear hN
      refine hK.out _ _ (hS.trans hbw) (fun hS => ?_)
      clear hK K
      refine wpAnyH_ready (rs := [3]) (by kernel_rfl) (by simp) ?_
      refine AllReadyH.cons rfl (fun K hK => ?_) ?_
      rw [if_pos (by rfl)]
      refine wp_append_ints (.tmp 22) (.tmp 24) _ rfl (some 25) rfl BB 3 Try.underlying27 infoInt (.slice (some ⟨n0, 0, none⟩) 0 0) rfl O0.out ⟨b, off, none⟩ cap ch (congrArg (fun k => Value.slice (some ⟨b, off, none⟩) k cap) HN.out) (by rw [← HN.out]; exact HV.out.mono (HBW.out.trans hS)) (by have := HN.out; omega) (by rw [← HBB.out]; exact hS.size) ?_
      intro v9 wp hown hgr
      simp only [Act.put, List.setIfInBounds_toArray, List.set_cons_zero, List.set_cons_succ]
      have hb9 := Bw.grownN HBB.out hS O0.out hgr
      obtain ⟨ga, ca, rfl⟩ := own_some hown (by have := HN.out; omega)
      replace NB3 := Lib.hid (NB3.out.grownT O0.out hgr (by decide))
      rw [← HN.out] at hown ⊢
      have O3 := Lib.hid hown
      clear hown hgr O0
      refine hK.out _ _ hb9 (fun hS => ?_)
      clear hK K
      refine take1 (i := 8) (some 30) rfl rfl (by kernel_rfl) (by kernel_rfl) (by kernel_rfl) (fun _ _ _ _ h => h) rfl hS ?_
      apply Exists.intro
      apply And.intro
      · intro W9 hW9; go_simp; try with_reducible rfl
      simp only [Act.put, List.setIfInBounds_toArray, List.set_cons_zero, List.set_cons_succ]
      refine wpAnyH_ready (rs := [10]) (by kernel_rfl) (by simp) ?_
      refine AllReadyH.cons rfl (fun K hK => ?_) ?_
      rw [if_pos (by rfl)]
      refine wp_store_row0 36 _ _ rfl rfl g3 #[.slice (some ⟨ga, 0, none⟩) n ca, .int .i64 (S + 1), .int .i64 a1, .int .i64 a2] rfl rfl 36 #[.slice none 0 0, .int .i64 0, .int .i64 0, .int .i64 0] NB3.out (by kernel_rfl) rfl (by simp [Value.oneCell']) ?_
      have OB := NB3.out
      replace NB3 := Lib.hid (NB3.out.row #[.slice (some ⟨ga, 0, none⟩) n ca, .int .i64 (S + 1), .int .i64 a1, .int .i64 a2])
      replace O3 := Lib.hid (own_rowT O3.out OB (by decide) #[.slice (some ⟨ga, 0, none⟩) n ca, .int .i64 (S + 1), .int .i64 a1, .int .i64 a2])
      clear OB
      refine hK.out _ _ (Bw.setRow hS HG3.out #[.slice (some ⟨ga, 0, none⟩) n ca, .int .i64 (S + 1), .int .i64 a1, .int .i64 a2]) (fun hS => ?_)
      clear hK K
      refine wpAnyH_done (by kernel_rfl) ?_ _
      rotate_left
      exact AllReadyH.nil
      exact AllReadyH.nil
      exact AllReadyH.nil
      refine AllReadyH.cons rfl (fun K hK => ?_) ?_
      rw [if_pos (by rfl)]
      refine wp_alloc_new 36 rfl (some 7) rfl _ (zeroSy _) ?_
      intro g3 wb hg3 hN hbw
      simp only [Act.put, List.setIfInBounds_toArray, List.set_cons_zero, List.set_cons_succ]
      have NB3 := Lib.hid hN
      have HG3 := Lib.hid (Nat.le_trans hS.size hg3)
      clear hN
      refine hK.out _ _ (hS.trans hbw) (fun hS => ?_)
      clear hK K
      refine wpAnyH_ready (rs := [0]) (by kernel_rfl) (by simp) ?_
      refine AllReadyH.cons rfl (fun K hK => ?_) ?_
      go_simp
      have hba := Bw.alloc (Bw.refl wb) (.cells #[] 3)
      obtain ⟨n0, hn0⟩ : ∃ n0, wb.heap.size = n0 := ⟨_, rfl⟩
      have HN0 := Lib.hid (show BB ≤ n0 by rw [← hn0]; exact Nat.le_trans (Nat.le_of_eq HBB.out.symm) hS.size)
      have O0 := Lib.hid (own_down (own0 (e := 3) wb n0 hn0) HN0.out)
      replace NB3 := Lib.hid (NB3.out.bw hba)
      rw [hn0]
      refine hK.out _ _ (hS.trans hba) (fun hS => ?_)
      clear hK K
      clear hba hn0
      generalize World.alloc wb _ = wo at hS O0 NB3 ⊢
      refine wpAnyH_ready (rs := [3]) (by kernel_rfl) (by simp) ?_
      refine AllReadyH.cons rfl (fun K hK => ?_) ?_
      rw [if_pos (by rfl)]
      refine wp_append_ints (.tmp 22) (.tmp 24) _ rfl (some 25) rfl BB 3 Try.underlying27 infoInt (.slice (some ⟨n0, 0, none⟩) 0 0) rfl O0.out ⟨b, off, none⟩ cap ch (congrArg (fun k => Value.slice (some ⟨b, off, none⟩) k cap) HN.out) (by rw [← HN.out]; exact HV.out.mono (HBW.out.trans hS)) (by have := HN.out; omega) (by rw [← HBB.out]; exact hS.size) ?_
      intro v9 wp hown hgr
      simp only [Act.put, List.setIfInBounds_toArray, List.set_cons_zero, List.set_cons_succ]
      have hb9 := Bw.grownN HBB.out hS O0.out hgr
      obtain ⟨ga, ca, rfl⟩ := own_some hown (by have := HN.out; omega)
      replace NB3 := Lib.hid (NB3.out.grownT O0.out hgr (by decide))
      rw [← HN.out] at hown ⊢
      have O3 := Lib.hid hown
      clear hown hgr O0
      refine hK.out _ _ hb9 (fun hS => ?_)
      clear hK K
      refine take1 (i := 8) (some 30) rfl rfl (by kernel_rfl) (by kernel_rfl) (by kernel_rfl) (fun _ _ _ _ h => h) rfl hS ?_
      apply Exists.intro
      apply And.intro
      · intro W9 hW9; go_simp; try with_reducible rfl
      simp only [Act.put, List.setIfInBounds_toArray, List.set_cons_zero, List.set_cons_succ]
      refine wpAnyH_ready (rs := [10]) (by kernel_rfl) (by simp) ?_
      refine AllReadyH.cons rfl (fun K hK => ?_) ?_
      rw [if_pos (by rfl)]
      refine wp_store_row0 36 _ _ rfl rfl g3 #[.slice (some ⟨ga, 0, none⟩) n ca, .int .i64 (S + 1), .int .i64 a1, .int .i64 a2] rfl rfl 36 #[.slice none 0 0, .int .i64 0, .int .i64 0, .int .i64 0] NB3.out (by kernel_rfl) rfl (by simp [Value.oneCell']) ?_
      have OB := NB3.out
      replace NB3 := Lib.hid (NB3.out.row #[.slice (some ⟨ga, 0, none⟩) n ca, .int .i64 (S + 1), .int .i64 a1, .int .i64 a2])
      replace O3 := Lib.hid (own_rowT O3.out OB (by decide) #[.slice (some ⟨ga, 0, none⟩) n ca, .int .i64 (S + 1), .int .i64 a1, .int .i64 a2])
      clear OB
      refine hK.out _ _ (Bw.setRow hS HG3.out #[.slice (some ⟨ga, 0, none⟩) n ca, .int .i64 (S + 1), .int .i64 a1, .int .i64 a2]) (fun hS => ?_)
      clear hK K
      refine wpAnyH_done (by kernel_rfl) ?_ _
      rotate_left
      exact AllReadyH.nil
      exact AllReadyH.nil
      exact AllReadyH.nil
      exact AllReadyH.nil
      all_goals
        go_wp2
        go_meet
        exact ⟨g3, ga, ca, rfl, Lib.hid hS, NB3, O3⟩
    case rest =>
      obtain ⟨g3, ga, ca, rfl, hb2, NB3, O3⟩ := hcut
      clear k0 k1 k2 k3 s0 s1 z0 z1 z2 z3 q0 q1 q2 q3
      replace HBW := Lib.hid (HBW.out.trans hb2.out)
      replace KX := Lib.hid (KX.out.bw hb2.out)
      replace SX := Lib.hid (SX.out.bw hb2.out)
      replace ZX := Lib.hid (ZX.out.bw hb2.out)
      clear hb2
      have k0 : wc.cell? ⟨w.heap.size, 0, none⟩ = some (.slice (some ⟨b, off, none⟩) n cap) := KX.out.cell rfl
      have k1 : wc.cell? ⟨w.heap.size, 1, none⟩ = some (.int .i64 S) := KX.out.cell rfl
      have k2 : wc.cell? ⟨w.heap.size, 2, none⟩ = some (.int .i64 x) := KX.out.cell rfl
      have k3 : wc.cell? ⟨w.heap.size, 3, none⟩ = some (.int .i64 y) := KX.out.cell rfl
      have s0 : wc.cell? ⟨w.heap.size + 1, 0, none⟩ = some (.int .i64 a1) := SX.out.cell rfl
      have s1 : wc.cell? ⟨w.heap.size + 1, 1, none⟩ = some (.int .i64 a2) := SX.out.cell rfl
      have z0 : wc.cell? ⟨w.heap.size + 1 + 1, 0, none⟩ = some (.slice none 0 0) := ZX.out.cell rfl
      have z1 : wc.cell? ⟨w.heap.size + 1 + 1, 1, none⟩ = some (.int .i64 0) := ZX.out.cell rfl
      have z2 : wc.cell? ⟨w.heap.size + 1 + 1, 2, none⟩ = some (.int .i64 0) := ZX.out.cell rfl
      have z3 : wc.cell? ⟨w.heap.size + 1 + 1, 3, none⟩ = some (.int .i64 0) := ZX.out.cell rfl
      have q0 := ZX.out.frozen 0
      have q1 := ZX.out.frozen 1
      have q2 := ZX.out.frozen 2
      have q3 := ZX.out.frozen 3
      have b0 : wc.cell? ⟨g3, 0, none⟩ = some (.slice (some ⟨ga, 0, none⟩) n ca) := NB3.out.cell rfl
      have b1 : wc.cell? ⟨g3, 1, none⟩ = some (.int .i64 (S + 1)) := NB3.out.cell rfl
      have b2 : wc.cell? ⟨g3, 2, none⟩ = some (.int .i64 a1) := NB3.out.cell rfl
      have b3 : wc.cell? ⟨g3, 3, none⟩ = some (.int .i64 a2) := NB3.out.cell rfl
      by_cases hS0 : S = 0
      · have hS1 : ¬ (0 : Int) < S := by omega
        clear hS0
        have HCN2 := Lib.hid (show chN ch S (x, y) (a1, a2) = ch by rw [HCN.out, if_neg (fun h => hS1 h.1)])
        have HLC := Lib.hid HN.out.symm
        obtain ⟨wf, rfl⟩ : ∃ wf, wf = wc := ⟨_, rfl⟩
        have hfr : Fresh BB (.slice (some ⟨ga, 0, none⟩) n ca) := (own_fresh O3.out)
        have hrd : RdI wf (.slice (some ⟨ga, 0, none⟩) n ca) (ch) := own_rdN O3.out (by have := HN.out; omega) HLC.out
        have HRD := Lib.hid ((((hrd.set hfr (show w.heap.size + 1 + 1 < BB from HZB.out) 0 (.slice (some ⟨ga, 0, none⟩) n ca)).set hfr HZB.out 1 (.int .i64 (S + 1))).set hfr HZB.out 2 (.int .i64 a1)).set hfr HZB.out 3 (.int .i64 a2))
        have HFR := Lib.hid (hfr.mono (show w.heap.size ≤ BB by have := HZB.out; omega))
        clear hfr hrd
        skip
        skip
        go_wp2
        have B9 := (((ZX.out.set 0 (.slice (some ⟨ga, 0, none⟩) n ca)).set 1 (.int .i64 (S + 1))).set 2 (.int .i64 a1)).set 3 (.int .i64 a2)
        have m0 := B9.cell (j := 0) rfl
        have m1 := B9.cell (j := 1) rfl
        have m2 := B9.cell (j := 2) rfl
        have m3 := B9.cell (j := 3) rfl
        refine bodyPost_ret (v := .tuple #[.agg #[.slice (some ⟨ga, 0, none⟩) n ca, .int .i64 (S + 1), .int .i64 a1, .int .i64 a2], .int .i64 0]) ?_ rfl ⟨⟨_, rfl, by rw [HCN2.out]; exact HRD.out, HFR.out⟩, Bw.setCell (Bw.setCell (Bw.setCell (Bw.setCell HBW.out (p := ⟨w.heap.size + 1 + 1, 0, none⟩) (by simp; try omega) _) (p := ⟨w.heap.size + 1 + 1, 1, none⟩) (by simp; try omega) _) (p := ⟨w.heap.size + 1 + 1, 2, none⟩) (by simp; try omega) _) (p := ⟨w.heap.size + 1 + 1, 3, none⟩) (by simp; try omega) _⟩
        simp [results, Try.results29, go_sem, m0, m1, m2, m3]
      · have hS1 : (0 : Int) < S := by omega
        by_cases hs : sc < 0
        · have HCN2 := Lib.hid (show chN ch S (x, y) (a1, a2) = ch.set (S % n) (ch.getD (S % n) 0 + 1) by rw [HCN.out, if_pos ⟨hS1, hs⟩])
          go_upto_region 10 with (go_at_call 36; (with_reducible refine Calls.mono (SC.out _) ?_); rintro e1 w4 ⟨rfl, hb4⟩; replace HBW := Lib.hid (HBW.out.trans hb4); replace KX := Lib.hid (KX.out.bw hb4); replace SX := Lib.hid (SX.out.bw hb4); replace ZX := Lib.hid (ZX.out.bw hb4); replace NB3 := Lib.hid (NB3.out.bw hb4); replace O3 := Lib.hid (own_bw O3.out hb4); clear hb4 k0 k1 k2 k3 s0 s1 z0 z1 z2 z3 q0 q1 q2 q3 b0 b1 b2 b3; have k0 : w4.cell? ⟨w.heap.size, 0, none⟩ = some (.slice (some ⟨b, off, none⟩) n cap) := KX.out.cell rfl; have k1 : w4.cell? ⟨w.heap.size, 1, none⟩ = some (.int .i64 S) := KX.out.cell rfl; have k2 : w4.cell? ⟨w.heap.size, 2, none⟩ = some (.int .i64 x) := KX.out.cell rfl; have k3 : w4.cell? ⟨w.heap.size, 3, none⟩ = some (.int .i64 y) := KX.out.cell rfl; have s0 : w4.cell? ⟨w.heap.size + 1, 0, none⟩ = some (.int .i64 a1) := SX.out.cell rfl; have s1 : w4.cell? ⟨w.heap.size + 1, 1, none⟩ = some (.int .i64 a2) := SX.out.cell rfl; have z0 : w4.cell? ⟨w.heap.size + 1 + 1, 0, none⟩ = some (.slice none 0 0) := ZX.out.cell rfl; have z1 : w4.cell? ⟨w.heap.size + 1 + 1, 1, none⟩ = some (.int .i64 0) := ZX.out.cell rfl; have z2 : w4.cell? ⟨w.heap.size + 1 + 1, 2, none⟩ = some (.int .i64 0) := ZX.out.cell rfl; have z3 : w4.cell? ⟨w.heap.size + 1 + 1, 3, none⟩ = some (.int .i64 0) := ZX.out.cell rfl; have q0 := ZX.out.frozen 0; have q1 := ZX.out.frozen 1; have q2 := ZX.out.frozen 2; have q3 := ZX.out.frozen 3; have b0 : w4.cell? ⟨g3, 0, none⟩ = some (.slice (some ⟨ga, 0, none⟩) n ca) := NB3.out.cell rfl; have b1 : w4.cell? ⟨g3, 1, none⟩ = some (.int .i64 (S + 1)) := NB3.out.cell rfl; have b2 : w4.cell? ⟨g3, 2, none⟩ = some (.int .i64 a1) := NB3.out.cell rfl; have b3 : w4.cell? ⟨g3, 3, none⟩ = some (.int .i64 a2) := NB3.out.cell rfl)
          obtain ⟨r, hr⟩ : ∃ r, r = S % n := ⟨_, rfl⟩
          have hmod : (S : Int).tmod n = (r : Int) := by rw [hr, Int.tmod_eq_emod_of_nonneg (by omega), Int.natCast_emod]
          have hrn : r < n := by rw [hr]; exact Nat.mod_lt _ (by omega)
          have hrz : (r : Int) < n := by omega
          have hn0 : ¬ (n : Int) = 0 := by omega
          have hzb := HCB.out r
          rw [← hr] at HCN2
          have HY := own_cellN O3.out r hrn HN.out.symm
          have kc := HY
          have kf := O3.out.frozenAt r
          clear hr HY
          generalize ch.getD r 0 = zr at kc HCN2 hzb
          go_region
          have hga : BB ≤ ga := (own_fresh O3.out) ga rfl
          have hne : g3 ≠ ga := blk_ne_own NB3.out O3.out (by decide)
          have hzb2 := HZB.out
          have HGA := Lib.hid hga
          replace O3 := Lib.hid (show ((w4.setCell ⟨ga, r, none⟩ (.int .i64 (zr + 1))).drew).ownsRow BB 3 1 (.slice (some ⟨ga, 0, none⟩) n ca) n ((ch.set r (zr + 1)).map (Value.int .i64)) by
            have h9 := own_bw (O3.out.stored r (.int .i64 (zr + 1))).1 (Bw.drew (Bw.refl _))
            rw [List.map_set]; exact h9)
          replace KX := Lib.hid ((KX.out.set_other (show w.heap.size ≠ ga by omega) r (.int .i64 (zr + 1))).bw (Bw.drew (Bw.refl _)))
          replace SX := Lib.hid ((SX.out.set_other (show w.heap.size + 1 ≠ ga by omega) r (.int .i64 (zr + 1))).bw (Bw.drew (Bw.refl _)))
          replace ZX := Lib.hid ((ZX.out.set_other (show w.heap.size + 1 + 1 ≠ ga by omega) r (.int .i64 (zr + 1))).bw (Bw.drew (Bw.refl _)))
          replace NB3 := Lib.hid ((NB3.out.set_other hne r (.int .i64 (zr + 1))).bw (Bw.drew (Bw.refl _)))
          replace HBW := Lib.hid (Bw.drew (Bw.setCell HBW.out (p := ⟨ga, r, none⟩) (by simp; omega) (.int .i64 (zr + 1))))
          clear k0 k1 k2 k3 s0 s1 z0 z1 z2 z3 q0 q1 q2 q3 b0 b1 b2 b3 kc kf hga hne hzb2
          generalize (w4.setCell ⟨ga, r, none⟩ (.int .i64 (zr + 1))).drew = wf at O3 KX SX ZX NB3 HBW ⊢
          have HLC := Lib.hid (show (ch.set r (zr + 1)).length = n by rw [List.length_set]; exact HN.out.symm)
          have hfr : Fresh BB (.slice (some ⟨ga, 0, none⟩) n ca) := (own_fresh O3.out)
          have hrd : RdI wf (.slice (some ⟨ga, 0, none⟩) n ca) (ch.set r (zr + 1)) := own_rdN O3.out (by have := HN.out; omega) HLC.out
          have HRD := Lib.hid ((((hrd.set hfr (show w.heap.size + 1 + 1 < BB from HZB.out) 0 (.slice (some ⟨ga, 0, none⟩) n ca)).set hfr HZB.out 1 (.int .i64 (S + 1))).set hfr HZB.out 2 (.int .i64 a1)).set hfr HZB.out 3 (.int .i64 a2))
          have HFR := Lib.hid (hfr.mono (show w.heap.size ≤ BB by have := HZB.out; omega))
          clear hfr hrd
          have b0 : wf.cell? ⟨g3, 0, none⟩ = some (.slice (some ⟨ga, 0, none⟩) n ca) := NB3.out.cell rfl
          have b1 : wf.cell? ⟨g3, 1, none⟩ = some (.int .i64 (S + 1)) := NB3.out.cell rfl
          have b2 : wf.cell? ⟨g3, 2, none⟩ = some (.int .i64 a1) := NB3.out.cell rfl
          have b3 : wf.cell? ⟨g3, 3, none⟩ = some (.int .i64 a2) := NB3.out.cell rfl
          have k0 : wf.cell? ⟨w.heap.size, 0, none⟩ = some (.slice (some ⟨b, off, none⟩) n cap) := KX.out.cell rfl
          have k1 : wf.cell? ⟨w.heap.size, 1, none⟩ = some (.int .i64 S) := KX.out.cell rfl
          have k2 : wf.cell? ⟨w.heap.size, 2, none⟩ = some (.int .i64 x) := KX.out.cell rfl
          have k3 : wf.cell? ⟨w.heap.size, 3, none⟩ = some (.int .i64 y) := KX.out.cell rfl
          have s0 : wf.cell? ⟨w.heap.size + 1, 0, none⟩ = some (.int .i64 a1) := SX.out.cell rfl
          have s1 : wf.cell? ⟨w.heap.size + 1, 1, none⟩ = some (.int .i64 a2) := SX.out.cell rfl
          have z0 : wf.cell? ⟨w.heap.size + 1 + 1, 0, none⟩ = some (.slice none 0 0) := ZX.out.cell rfl
          have z1 : wf.cell? ⟨w.heap.size + 1 + 1, 1, none⟩ = some (.int .i64 0) := ZX.out.cell rfl
          have z2 : wf.cell? ⟨w.heap.size + 1 + 1, 2, none⟩ = some (.int .i64 0) := ZX.out.cell rfl
          have z3 : wf.cell? ⟨w.heap.size + 1 + 1, 3, none⟩ = some (.int .i64 0) := ZX.out.cell rfl
          have q0 := ZX.out.frozen 0
          have q1 := ZX.out.frozen 1
          have q2 := ZX.out.frozen 2
          have q3 := ZX.out.frozen 3
          go_wp2
          have B9 := (((ZX.out.set 0 (.slice (some ⟨ga, 0, none⟩) n ca)).set 1 (.int .i64 (S + 1))).set 2 (.int .i64 a1)).set 3 (.int .i64 a2)
          have m0 := B9.cell (j := 0) rfl
          have m1 := B9.cell (j := 1) rfl
          have m2 := B9.cell (j := 2) rfl
          have m3 := B9.cell (j := 3) rfl
          refine bodyPost_ret (v := .tuple #[.agg #[.slice (some ⟨ga, 0, none⟩) n ca, .int .i64 (S + 1), .int .i64 a1, .int .i64 a2], .int .i64 0]) ?_ rfl ⟨⟨_, rfl, by rw [HCN2.out]; exact HRD.out, HFR.out⟩, Bw.setCell (Bw.setCell (Bw.setCell (Bw.setCell HBW.out (p := ⟨w.heap.size + 1 + 1, 0, none⟩) (by simp; try omega) _) (p := ⟨w.heap.size + 1 + 1, 1, none⟩) (by simp; try omega) _) (p := ⟨w.heap.size + 1 + 1, 2, none⟩) (by simp; try omega) _) (p := ⟨w.heap.size + 1 + 1, 3, none⟩) (by simp; try omega) _⟩
          simp [results, Try.results29, go_sem, m0, m1, m2, m3]
        · have HCN2 := Lib.hid (show chN ch S (x, y) (a1, a2) = ch by rw [HCN.out, if_neg (fun h => hs h.2)])
          have HLC := Lib.hid HN.out.symm
          go_upto_region 11 with (go_at_call 36; (with_reducible refine Calls.mono (SC.out _) ?_); rintro e1 w4 ⟨rfl, hb4⟩; replace HBW := Lib.hid (HBW.out.trans hb4); replace KX := Lib.hid (KX.out.bw hb4); replace SX := Lib.hid (SX.out.bw hb4); replace ZX := Lib.hid (ZX.out.bw hb4); replace NB3 := Lib.hid (NB3.out.bw hb4); replace O3 := Lib.hid (own_bw O3.out hb4); clear hb4 k0 k1 k2 k3 s0 s1 z0 z1 z2 z3 q0 q1 q2 q3 b0 b1 b2 b3; have k0 : w4.cell? ⟨w.heap.size, 0, none⟩ = some (.slice (some ⟨b, off, none⟩) n cap) := KX.out.cell rfl; have k1 : w4.cell? ⟨w.heap.size, 1, none⟩ = some (.int .i64 S) := KX.out.cell rfl; have k2 : w4.cell? ⟨w.heap.size, 2, none⟩ = some (.int .i64 x) := KX.out.cell rfl; have k3 : w4.cell? ⟨w.heap.size, 3, none⟩ = some (.int .i64 y) := KX.out.cell rfl; have s0 : w4.cell? ⟨w.heap.size + 1, 0, none⟩ = some (.int .i64 a1) := SX.out.cell rfl; have s1 : w4.cell? ⟨w.heap.size + 1, 1, none⟩ = some (.int .i64 a2) := SX.out.cell rfl; have z0 : w4.cell? ⟨w.heap.size + 1 + 1, 0, none⟩ = some (.slice none 0 0) := ZX.out.cell rfl; have z1 : w4.cell? ⟨w.heap.size + 1 + 1, 1, none⟩ = some (.int .i64 0) := ZX.out.cell rfl; have z2 : w4.cell? ⟨w.heap.size + 1 + 1, 2, none⟩ = some (.int .i64 0) := ZX.out.cell rfl; have z3 : w4.cell? ⟨w.heap.size + 1 + 1, 3, none⟩ = some (.int .i64 0) := ZX.out.cell rfl; have q0 := ZX.out.frozen 0; have q1 := ZX.out.frozen 1; have q2 := ZX.out.frozen 2; have q3 := ZX.out.frozen 3; have b0 : w4.cell? ⟨g3, 0, none⟩ = some (.slice (some ⟨ga, 0, none⟩) n ca) := NB3.out.cell rfl; have b1 : w4.cell? ⟨g3, 1, none⟩ = some (.int .i64 (S + 1)) := NB3.out.cell rfl; have b2 : w4.cell? ⟨g3, 2, none⟩ = some (.int .i64 a1) := NB3.out.cell rfl; have b3 : w4.cell? ⟨g3, 3, none⟩ = some (.int .i64 a2) := NB3.out.cell rfl)
          obtain ⟨wf, rfl⟩ : ∃ wf, wf = w4 := ⟨_, rfl⟩
          have hfr : Fresh BB (.slice (some ⟨ga, 0, none⟩) n ca) := (own_fresh O3.out)
          have hrd : RdI wf (.slice (some ⟨ga, 0, none⟩) n ca) (ch) := own_rdN O3.out (by have := HN.out; omega) HLC.out
          have HRD := Lib.hid ((((hrd.set hfr (show w.heap.size + 1 + 1 < BB from HZB.out) 0 (.slice (some ⟨ga, 0, none⟩) n ca)).set hfr HZB.out 1 (.int .i64 (S + 1))).set hfr HZB.out 2 (.int .i64 a1)).set hfr HZB.out 3 (.int .i64 a2))
          have HFR := Lib.hid (hfr.mono (show w.heap.size ≤ BB by have := HZB.out; omega))
          clear hfr hrd
          skip
          skip
          go_wp2
          have B9 := (((ZX.out.set 0 (.slice (some ⟨ga, 0, none⟩) n ca)).set 1 (.int .i64 (S + 1))).set 2 (.int .i64 a1)).set 3 (.int .i64 a2)
          have m0 := B9.cell (j := 0) rfl
          have m1 := B9.cell (j := 1) rfl
          have m2 := B9.cell (j := 2) rfl
          have m3 := B9.cell (j := 3) rfl
          refine bodyPost_ret (v := .tuple #[.agg #[.slice (some ⟨ga, 0, none⟩) n ca, .int .i64 (S + 1), .int .i64 a1, .int .i64 a2], .int .i64 0]) ?_ rfl ⟨⟨_, rfl, by rw [HCN2.out]; exact HRD.out, HFR.out⟩, Bw.setCell (Bw.setCell (Bw.setCell (Bw.setCell HBW.out (p := ⟨w.heap.size + 1 + 1, 0, none⟩) (by simp; try omega) _) (p := ⟨w.heap.size + 1 + 1, 1, none⟩) (by simp; try omega) _) (p := ⟨w.heap.size + 1 + 1, 2, none⟩) (by simp; try omega) _) (p := ⟨w.heap.size + 1 + 1, 3, none⟩) (by simp; try omega) _⟩
          simp [results, Try.results29, go_sem, m0, m1, m2, m3]
end Go.Proofs.Sky
