/-
  lemmas for the theorems of this claim. No conditions beyond those written in the statements.
-/
import Derived.Test.YtpmopobjlpfdaaaDoorP25L
import Derived.Laws.AppendOwnNone
import Derived.Test.YtpmopobjlpfdaaaDoorK25
set_option linter.unusedVariables false
set_option linter.unusedSimpArgs false
set_option linter.unnecessarySimpa false
namespace Go.Proofs.Sky
open Go Go.RowKit
section
variable {P : Program} {w : World} {ops : Array Oper} {rest : List Oper} {o : Oper} {a : Act} {Q : Exit → Act → World → Prop}
theorem run_append_nilsrc (base : Nat) (t ty e : TypeId) (i : TypeInfo) (size : Nat) (ht : P.underlying t = some (.slice e)) (hi : P.info? e = some i)
    (v : Value) (n : Nat) (xs : List Value) (hown : w.ownsRow base e size v n xs) (c : Nat) : (Builtin.append_ #[t, t] ty #[v, .slice none 0 c]).run P w = .ok v w := by
  rcases hown.2 with ⟨rfl, rfl⟩ | ⟨g, cap, cur, rfl, _, _, hnc, _⟩
  · simp [Builtin.append_, run_underlying ht, sizeOf, typeInfo, hi, Builtin.lenOf, Builtin.firstCells]
  · simp [Builtin.append_, run_underlying ht, sizeOf, typeInfo, hi, Builtin.lenOf, Builtin.firstCells, hnc, storeCells]
/-- append onto a row of the call's own: the source reads as cells, or is nil -/
theorem wpList_append_rd (hgd : o.guard = none) (s x : Operand) (t : TypeId)
    (ho : o.op = .call { callee := .builtin .append, args := #[s, x], argTypes := #[t, t] })
    (base : Nat) (e : TypeId) (i : TypeInfo) (z : Value) (size bytes : Nat) (ht : P.underlying t = some (.slice e)) (hi : P.info? e = some i) (hz : i.zero = some z)
    (hsize : i.size = size) (hby : i.bytes = bytes) (hzs : z.cells.size = size) (hsz : 0 < size)
    (v : Value) (n : Nat) (xs : List Value) (hs : a.eval s = v) (hown : w.ownsRow base e size v n xs)
    (A : Option Addr) (m c : Nat) (news : List Value) (hx : a.eval x = .slice A m c) (hl : news.length = m * size) (hn : A = none → m = 0) (hr : ∀ ad, A = some ad → ∀ j u, news[j]? = some u → w.cell? (ad.add j) = some u) (h1 : ∀ u ∈ news, u.oneCell' = true)
    (h63 : n + m ≤ maxLen) (hbytes : (n + m) * bytes ≤ 140737488355328) (hbase : base ≤ w.heap.size)
    (h : ∀ v' w', w'.ownsRow base e size v' (n + m) (xs ++ news) → w.grownBy w' v.ownBlock → wpList P ops Q rest (a.put o.dst v') w') : wpList P ops Q (o :: rest) a w := by
  cases A with
  | none =>
    obtain rfl : m = 0 := hn rfl
    obtain rfl : news = [] := List.eq_nil_of_length_eq_zero (by simpa using hl)
    refine wpList_plain hgd fun K hK => ?_
    have hrun := run_append_nilsrc (P := P) (w := w) base t o.type e i size ht hi v n xs hown c
    unfold Oper.wp
    simp [execOp, ho, resolve, invoke, builtin, hs, hx, hrun, Result.andThen]
    exact hK _ _ (h v w (by simpa using hown) (World.grownBy.refl w _))
  | some ad => exact wpList_append_own w hgd s x t ho base e i z size bytes ht hi hz hsize hby hzs hsz v n xs hs hown ad m c news hx hl (hr ad rfl) h1 h63 hbytes hbase (fun v' w' h2 h3 _ => h v' w' h2 h3)
theorem int_one (zs : List Int) : ∀ u ∈ zs.map (Value.int .i64), u.oneCell' = true := by
  intro u hu
  obtain ⟨x, _, rfl⟩ := List.mem_map.1 hu
  rfl
theorem RdI.cells {w : World} {a : Addr} {c : Nat} {zs : List Int} (h : RdI w (.slice (some a) zs.length c) zs) : ∀ j u, (zs.map (Value.int .i64))[j]? = some u → w.cell? (a.add j) = some u := by
  obtain ⟨_, a', c', e, h4⟩ := h
  injection e with e1 e2 e3
  subst e1
  intro j u hu
  rw [List.getElem?_map, Option.map_eq_some_iff] at hu
  obtain ⟨x, hx, rfl⟩ := hu
  obtain ⟨hj, hx'⟩ := List.getElem?_eq_some_iff.1 hx
  rcases h4 with h4 | ⟨b, off, e, _, hc⟩
  · subst h4; simp at hj
  · injection e with e; subst e
    have := hc j hj
    rw [List.getD_eq_getElem?_getD, hx, Option.getD_some] at this
    rw [show (⟨b, off, none⟩ : Addr).add j = ⟨b, off + j, none⟩ by simp [Addr.add]]; exact this
theorem wpList_append_int (hgd : o.guard = none) (s x : Operand) (t : TypeId)
    (ho : o.op = .call { callee := .builtin .append, args := #[s, x], argTypes := #[t, t] })
    (base : Nat) (e : TypeId) (ht : P.underlying t = some (.slice e)) (hi : (P.info? e).map (fun i => (i.zero, i.size, i.bytes)) = some (some (.int .i64 0), 1, 8))
    (v : Value) (xs zs : List Int) (hs : a.eval s = v) (hown : w.ownsRow base e 1 v xs.length (xs.map (Value.int .i64)))
    (A : Option Addr) (m c : Nat) (hx : a.eval x = .slice A m c) (hr : RdI w (.slice A m c) zs)
    (hn : xs.length + zs.length ≤ 17592186044416) (hbase : base ≤ w.heap.size)
    (h : ∀ v' w', w'.ownsRow base e 1 v' (xs ++ zs).length ((xs ++ zs).map (Value.int .i64)) → w.grownBy w' v.ownBlock → wpList P ops Q rest (a.put o.dst v') w') : wpList P ops Q (o :: rest) a w := by
  obtain ⟨i, hi, hzz⟩ := Option.map_eq_some_iff.1 hi
  simp only [Prod.mk.injEq] at hzz
  obtain ⟨hz0, hz1, hz2⟩ := hzz
  obtain rfl : m = zs.length := by obtain ⟨_, a', c', e, _⟩ := hr; injection e
  refine wpList_append_rd hgd s x t ho base e i (.int .i64 0) 1 8 ht hi hz0 hz1 hz2 rfl (by decide) v xs.length (xs.map (Value.int .i64)) hs hown A zs.length c (zs.map (Value.int .i64)) hx (by simp) ?_ ?_ (int_one zs) (by unfold maxLen; omega) (by omega) hbase ?_
  · intro hA
    obtain ⟨_, a', c', e, h4⟩ := hr
    injection e with e1 e2 e3
    subst e1; subst hA
    rcases h4 with h4 | ⟨b, off, e, _⟩
    · simp [h4]
    · cases e
  · intro ad hA
    subst hA
    exact hr.cells
  · intro v' w' h2 h3
    exact h v' w' (by simpa using h2) h3
/-- .. of one element, which lies in a new block of its own -/
theorem wpList_append_int1 (hgd : o.guard = none) (s x : Operand) (t : TypeId)
    (ho : o.op = .call { callee := .builtin .append, args := #[s, x], argTypes := #[t, t] })
    (base : Nat) (e : TypeId) (ht : P.underlying t = some (.slice e)) (hi : (P.info? e).map (fun i => (i.zero, i.size, i.bytes)) = some (some (.int .i64 0), 1, 8))
    (v : Value) (xs : List Int) (y : Int) (hs : a.eval s = v) (hown : w.ownsRow base e 1 v xs.length (xs.map (Value.int .i64)))
    (b : Nat) (hx : a.eval x = .slice (some ⟨b, 0, none⟩) 1 1) (hr : w.cell? ⟨b, 0, none⟩ = some (.int .i64 y))
    (hn : xs.length + 1 ≤ 17592186044416) (hbase : base ≤ w.heap.size)
    (h : ∀ v' w', w'.ownsRow base e 1 v' (xs ++ [y]).length ((xs ++ [y]).map (Value.int .i64)) → w.grownBy w' v.ownBlock → wpList P ops Q rest (a.put o.dst v') w') : wpList P ops Q (o :: rest) a w :=
  wpList_append_int hgd s x t ho base e ht hi v xs [y] hs hown (some ⟨b, 0, none⟩) 1 1 hx ⟨by simp, _, _, rfl, .inr ⟨b, 0, rfl, by
    rcases Nat.lt_or_ge b w.heap.size with h' | h'
    · exact h'
    · simp [World.cell?, Array.getElem?_eq_none h'] at hr, fun i hi => by simp at hi; subst hi; simpa using hr⟩⟩ (by simpa using hn) hbase h
theorem own_rd {w : World} {base : Nat} {e : TypeId} {v : Value} {zs : List Int} (h : w.ownsRow base e 1 v zs.length (zs.map (Value.int .i64))) (hn : zs.length ≤ 9223372036854775807) : RdI w v zs ∧ Fresh base v := by
  have h' := h
  rcases h'.2 with ⟨rfl, h2⟩ | ⟨g, cap, cur, rfl, hg, _⟩
  · obtain rfl : zs = [] := by simpa using h2
    exact ⟨RdI.nil w, Fresh.nil _ _ _⟩
  · exact ⟨own_rdI h hn, Fresh.at hg⟩
end
end Go.Proofs.Sky

namespace Go.Proofs.Sky
open Go Go.RowKit Go.Shelf
set_option maxHeartbeats 1000000
theorem infoInt : (Tryd.prog.info? 3).map (fun i => (i.zero, i.size, i.bytes)) = some (some (.int .i64 0), 1, 8) := by kernel_rfl
/-- a fresh own slice of ints that is not empty -/
theorem owI_of_own {w : World} {base : Nat} {e : TypeId} {v : Value} {zs : List Int} (h : w.ownsRow base e 1 v zs.length (zs.map (Value.int .i64))) (h0 : 0 < zs.length) : ∃ bl cap, v = .slice (some ⟨bl, 0, none⟩) zs.length cap ∧ base ≤ bl ∧ bl < w.heap.size ∧ OwI w bl zs := by
  obtain ⟨n, hn⟩ : ∃ n, zs.length = n + 1 := ⟨zs.length - 1, by omega⟩
  have hf : ∃ g cap, v = .slice (some ⟨g, 0, none⟩) zs.length cap := by rw [hn] at h ⊢; exact ownsRow_succ h
  obtain ⟨g, cap, rfl⟩ := hf
  have hl := h.lt g rfl
  refine ⟨g, cap, rfl, hl.1, hl.2, fun i hi => ?_, fun i hi => h.frozenAt i⟩
  rw [h.cellAt i (by omega)]
  simp [List.getD_eq_getElem?_getD, List.getElem?_eq_getElem hi]
theorem rdI_of_owI {w : World} {bl cap : Nat} {zs : List Int} (h : OwI w bl zs) (hb : bl < w.heap.size) (hn : zs.length ≤ 9223372036854775807) : RdI w (.slice (some ⟨bl, 0, none⟩) zs.length cap) zs :=
  ⟨hn, _, _, rfl, .inr ⟨bl, 0, rfl, hb, fun i hi => by rw [Nat.zero_add]; exact h.cell i hi⟩⟩
def errP (zs : List Int) (a n : Int) (g : Bool) (u c x : Int) : Int := if errT zs a n u c = 0 then (if rawB n g u c x then 0 else 5) else errT zs a n u c
def putR (zs : List Int) (a n : Int) (g : Bool) (u c x : Int) : List Int := if errP zs a n g u c x = 0 then putL zs a.toNat n.toNat (rawV u c x) n.toNat else []
def PutP (base : Nat) (zs : List Int) (a n : Int) (g : Bool) (u c x : Int) (e : Ending) (w' : World) : Prop := ∃ v', e = .returned (.tuple #[v', .int .i64 (errP zs a n g u c x)]) ∧ RdI w' v' (putR zs a n g u c x) ∧ Fresh base v'
theorem rawB_bd {n : Int} {g : Bool} {u c x : Int} (h : rawB n g u c x = true) (h1 : 1 ≤ n) (h2 : n ≤ 40) : -1099511627776 ≤ rawV u c x ∧ rawV u c x ≤ 1099511627776 := by
  unfold rawB at h
  simp only [Bool.and_eq_true, decide_eq_true_eq] at h
  have := lowR_bd n g h1 h2
  have := highR_bd n g h1 h2
  rw [rawV_in h.1]; omega
theorem ret_vi {v : Value} {a b : Int} (h : a = b) : Ending.returned (.tuple #[v, .int .i64 a]) = .returned (.tuple #[v, .int .i64 b]) := by rw [h]
end Go.Proofs.Sky

namespace Go.Proofs.Sky
open Go Go.RowKit Go.Shelf
set_option maxHeartbeats 1000000
theorem list_eq_getD {xs ys : List Int} (hl : xs.length = ys.length) (h : ∀ i, i < xs.length → xs.getD i 0 = ys.getD i 0) : xs = ys := by
  apply List.ext_getElem hl
  intro i h1 h2
  have := h i h1
  simpa [List.getD_eq_getElem?_getD, List.getElem?_eq_getElem h1, List.getElem?_eq_getElem h2] using this
theorem list_ne_getD {xs ys : List Int} (i : Nat) (h : xs.getD i 0 ≠ ys.getD i 0) : ¬ xs = ys := fun e => h (by rw [e])
theorem alike_any (xs ys : List Int) (v1 v2 : Value) (w : World) (h1 : RdI w v1 xs) (h2 : RdI w v2 ys) : Calls Tryd.prog 13 #[v1, v2] w fun e w' => e = .returned (.bool (decide (xs = ys))) ∧ Bw w w' := by
  have hx := h1.1
  have hy := h2.1
  by_cases hl : xs.length = ys.length
  · by_cases h0 : 0 < xs.length
    · obtain ⟨b1, o1, c1, rfl, hb1, z1⟩ := h1.at h0
      obtain ⟨b2, o2, c2, rfl, hb2, z2⟩ := h2.at (by omega)
      have HL := Lib.hid hl
      rw [← hl] at z2
      rw [← hl]
      obtain ⟨n, hn⟩ : ∃ n, xs.length = n := ⟨_, rfl⟩
      rw [hn] at z1 z2 hx h0 ⊢
      have HN := Lib.hid hn; clear hn hl hy
      have Z1 := Lib.hid z1; clear z1
      have Z2 := Lib.hid z2; clear z2
      clear h1 h2
      go_enter Tryd.func13, Tryd.ntmps13
      go_wp2
      go_loopw [5] (fun i wr => ∃ k : Nat, k ≤ n ∧ i = .int .i64 k ∧ Bw w wr ∧ Hid (∀ j, j < k → xs.getD j 0 = ys.getD j 0)) (fun i _ => n - (intOf i).toNat)
      case atStart => exact ⟨0, Nat.zero_le _, rfl, (by repeat (first | exact Bw.refl _ | assumption | refine Bw.alloc ?_ _ | refine Bw.drew ?_ | refine Bw.trans ?_ (by assumption) | refine Bw.setCell ?_ (by simp; try omega) _)), fun j hj => absurd hj (Nat.not_lt_zero _)⟩
      case round =>
        obtain ⟨k, hk, rfl, hbw, HA⟩ := hrel
        by_cases hlt : k < n
        · have d1 := Z1.out k hlt
          have d2 := Z2.out k hlt
          rw [← hbw.cells.1 _ _ hb1] at d1
          rw [← hbw.cells.1 _ _ hb2] at d2
          have HE := Lib.hid (show xs.getD k 0 = ys.getD k 0 → ∀ j, j < k + 1 → xs.getD j 0 = ys.getD j 0 from fun h j hj => by
            rcases Nat.lt_succ_iff_lt_or_eq.1 hj with h' | rfl
            · exact HA.out j h'
            · exact h)
          have HD := Lib.hid (list_ne_getD (xs := xs) (ys := ys) k)
          generalize xs.getD k 0 = p at d1 HE HD
          generalize ys.getD k 0 = q at d2 HE HD
          have e1 := fun p' : Ext wr => Ext.cell' d1 p'
          have e2 := fun p' : Ext wr => Ext.cell' d2 p'
          have hkn : (k : Int) < n := by omega
          by_cases hpq : p = q
          · subst hpq
            go_wp2
            (refine wp_region_quiet_ext (by kernel_rfl) (by kernel_rfl) ?_; (repeat (go_big_quiet_step ((fail)))); refine wpQuiet_nil ?_; rintro wq ⟨⟨_, hbq⟩, rfl⟩; obtain ⟨hccq, hffq⟩ := Bw.cells hbq; have hszq := Bw.size hbq)
            go_wp2
            go_roundw
            case rel => exact ⟨k + 1, by omega, by go_num, Bw.trans hbw hbq, HE.out (by simp)⟩
            case measure => simp [intOf]; omega
          · have hne : (p != q) = true := by simpa using hpq
            have hd : decide (xs = ys) = false := by simpa using HD.out hpq
            have HDD := Lib.hid hd; clear hd
            clear hpq
            go_wp2
            (refine wp_region_quiet_ext (by kernel_rfl) (by kernel_rfl) ?_; (repeat (go_big_quiet_step ((fail)))); refine wpQuiet_nil ?_; rintro wq ⟨⟨_, hbq⟩, rfl⟩; obtain ⟨hccq, hffq⟩ := Bw.cells hbq; have hszq := Bw.size hbq)
            go_wp2
            go_ret
            exact ⟨ret_bool HDD.out.symm, Bw.trans hbw hbq⟩
        · obtain rfl : k = n := by omega
          have hd : decide (xs = ys) = true := by simpa using list_eq_getD HL.out (fun i hi => HA.out i (by have := HN.out; omega))
          have HDD := Lib.hid hd; clear hd
          go_wp2
          go_ret
          exact ⟨ret_bool HDD.out.symm, hbw⟩
    · obtain rfl : xs = [] := List.length_eq_zero_iff.1 (by omega)
      obtain rfl : ys = [] := List.length_eq_zero_iff.1 (by simp at hl; omega)
      obtain ⟨a1, c1, rfl⟩ := h1.form
      obtain ⟨a2, c2, rfl⟩ := h2.form
      clear h1 h2
      go_enter Tryd.func13, Tryd.ntmps13
      go_wp2
      go_loopw [5] (fun i wr => i = .int .i64 0 ∧ Bw w wr) (fun i _ => 0)
      case atStart => exact ⟨rfl, (by repeat (first | exact Bw.refl _ | assumption | refine Bw.alloc ?_ _ | refine Bw.drew ?_ | refine Bw.trans ?_ (by assumption) | refine Bw.setCell ?_ (by simp; try omega) _))⟩
      case round =>
        obtain ⟨rfl, hbw⟩ := hrel
        go_wp2
        go_ret
        exact ⟨ret_bool (by simp), hbw⟩
  · obtain ⟨a1, c1, rfl⟩ := h1.form
    obtain ⟨a2, c2, rfl⟩ := h2.form
    clear h1 h2
    have hne : ((xs.length : Int) != ys.length) = true := by simp; omega
    have hd : decide (xs = ys) = false := by simp; intro e; exact hl (by rw [e])
    have HDD := Lib.hid hd; clear hd hl
    go_enter Tryd.func13, Tryd.ntmps13
    go_wp2
    go_ret
    exact ⟨ret_bool HDD.out.symm, (by repeat (first | exact Bw.refl _ | assumption | refine Bw.alloc ?_ _ | refine Bw.drew ?_ | refine Bw.trans ?_ (by assumption) | refine Bw.setCell ?_ (by simp; try omega) _))⟩
end Go.Proofs.Sky
