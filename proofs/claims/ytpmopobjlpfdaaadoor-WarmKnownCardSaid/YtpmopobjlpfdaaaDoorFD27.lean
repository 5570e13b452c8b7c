/-
  lemmas for the theorems of this claim. No conditions beyond those written in the statements.
-/
import Derived.Test.YtpmopobjlpfdaaaDoorAL5
import Derived.Laws.StructEq
import Derived.Test.YtpmopobjlpfdaaaDoorAL6
import Derived.Test.YtpmopobjlpfdaaaDoorBlkC
import Derived.Test.YtpmopobjlpfdaaaDoorFA25
set_option linter.unusedVariables false
set_option linter.unusedSimpArgs false
set_option linter.unnecessarySimpa false
namespace Go.Proofs.Sky
open Go Go.RowKit Go.Shelf
set_option maxHeartbeats 4000000
set_option maxRecDepth 8000
/-! equal pages -/
theorem eqA3 (d : Nat) (a b c : Int) (w : World) : (Op.equalIn (d + 2) 27 (.agg #[.int .i64 a, .int .i64 b, .int .i64 c]) (.agg #[.int .i64 a, .int .i64 b, .int .i64 c])).run Tryd.prog w = .ok true w := by
  have hu : Tryd.prog.underlying 27 = some (.array 3 3) := by kernel_rfl
  have hi : Tryd.prog.underlying 3 = some (.int .i64) := by kernel_rfl
  have hs : ∀ w, (sizeOf 3).run Tryd.prog w = .ok 1 w := fun w => by kernel_rfl
  simp [Op.equalIn, run_underlying hu, run_underlying hi, hs, go_sem, part, Std.Legacy.Range.forIn_eq_forIn_range', Std.Legacy.Range.size, List.range'_succ, List.range'_zero, List.forIn_cons, List.forIn_nil]
theorem eqPg_self (x : Nat → Int) (w : World) : (Op.equalIn 10000 29 (.agg (pgV x)) (.agg (pgV x))).run Tryd.prog w = .ok true w := by
  unfold pgV
  generalize x 0 = a0, x 1 = a1, x 2 = a2, x 3 = a3, x 4 = a4, x 5 = a5, x 6 = a6, x 7 = a7, x 8 = a8, x 9 = a9, x 10 = a10, x 11 = a11, x 12 = a12
  rw [show (10000 : Nat) = 9998 + 1 + 1 from rfl, run_equalIn_agg _ _ _ _ _ (by kernel_rfl) (by kernel_rfl)]
  simp only [Program.fieldsOf, Tryd.underlying29]
  have h3 : ∀ w, (sizeOf 27).run Tryd.prog w = .ok 3 w := fun w => by kernel_rfl
  have h1 : ∀ w, (sizeOf 3).run Tryd.prog w = .ok 1 w := fun w => by kernel_rfl
  have i3 : Tryd.prog.underlying 27 = some (.array 3 3) := by kernel_rfl
  have hi : Tryd.prog.underlying 3 = some (.int .i64) := by kernel_rfl
  have q3 := fun d => eqA3 d
  simp [Op.eqFields, part, h3, h1, go_sem, run_underlying i3, run_underlying hi, q3 9997, run_equalIn_int _ _ _ _ _ _ _ hi]
theorem eqPg_guard (x y : Array Value) (op : BinOp) (p q : Operand) (w : World) : (eqGuard op 29 p q (.agg x) (.agg y)).run Tryd.prog w = .ok () w := run_eqGuard_agg w op _ _ _ _ _ (by kernel_rfl)
end Go.Proofs.Sky

namespace Go.Proofs.Sky
open Go Go.RowKit Go.Shelf
set_option maxHeartbeats 4000000
set_option maxRecDepth 8000
/-! chapter 27: a page read from its frame; the examples -/
theorem errPg_congr {x y : Nat → Int} (h : ∀ i, i < 13 → x i = y i) : errPg x = errPg y := by
  have e : inPg x = inPg y := by
    rw [inPg_eq, inPg_eq]
    unfold okT
    dsimp only
    rw [h 0 (by omega), h 1 (by omega), h 2 (by omega), h 3 (by omega), h 4 (by omega), h 5 (by omega), h 6 (by omega), h 7 (by omega), h 8 (by omega), h 9 (by omega), h 10 (by omega), h 11 (by omega), h 12 (by omega)]
  unfold errPg
  rw [e, h 0 (by omega), h 1 (by omega)]
theorem getD_map13 (x : Nat → Int) (i : Nat) (h : i < 13) : ((List.range 13).map x).getD i 0 = x i := by
  rw [List.getD_eq_getElem?_getD, List.getElem?_map, List.getElem?_range h]; rfl
theorem eqA_self (x y z : Int) (w : World) : (Op.equalIn 10000 27 (.agg #[.int .i64 x, .int .i64 y, .int .i64 z]) (.agg #[.int .i64 x, .int .i64 y, .int .i64 z])).run Tryd.prog w = .ok true w := eqA3 9998 x y z w
theorem eqA_guard (x y : Array Value) (op : BinOp) (p q : Operand) (w : World) : (eqGuard op 27 p q (.agg x) (.agg y)).run Tryd.prog w = .ok () w := run_eqGuard_agg w op _ _ _ _ _ (by kernel_rfl)
theorem quiet_load {P : Program} {o : Oper} {a : Act} {C : World → Prop} {K : Act → Prop} (v : Value) (dst : Option Tmp) (hd : o.dst = dst) (hv : ∀ w, C w → (execOp a.eval o).run P w = .ok (.value v) w) (h : K (a.put dst v)) : o.quiet P a C K := by
  subst hd
  refine ⟨v, fun w hw => ?_, h⟩
  unfold Oper.quietAt Oper.quietUpon
  rw [hv w hw]
  exact ⟨rfl, rfl⟩
def plX27 : Nat → Int := fun i => [3, 600000, 100, 1000, 1, 2, 3, 0, 0, 0, 0, 0, 0].getD i 0
theorem pl27_ok : errPg plX27 = 0 := by kernel_rfl
theorem pl27_s : errTm plX27 600010 = 0 := by kernel_rfl
theorem pl27_sv : t3V (atP plX27 600010) = #[.int .i64 84, .int .i64 0, .int .i64 0] := by kernel_rfl
theorem pl27_b : errTm plX27 600001 = 0 := by kernel_rfl
theorem pl27_bv : bdP plX27 600001 = 101 := by kernel_rfl
end Go.Proofs.Sky

namespace Go.Proofs.Sky
open Go Go.RowKit Go.Shelf
set_option maxHeartbeats 4000000
set_option maxRecDepth 8000
/-! chapter 27: a page by numbers -/
theorem Below_any (n k : Int) (w : World) (h : 1 ≤ k) (h2 : k ≤ 4611686018427387904) : Calls Tryd.prog 15 #[.int .i64 n, .int .i64 k] w fun e w' => e = .returned (.int .i64 (bel n k)) ∧ Bw w w' := by
  obtain ⟨r, t1, r1, r2, ways⟩ := tmod_way n k h
  have hk0 : (k == 0) = false := by simp; omega
  rcases ways with ⟨y1, yR⟩ | ⟨y1, yR⟩
  all_goals
    have HB := Lib.hid (show bel n k = n % k by unfold bel; rw [if_neg (by omega)])
    rw [yR] at HB
    clear yR
    go_enter Tryd.func15, Tryd.ntmps15
    go_wp2
    go_ret
    exact ⟨ret_int (by rw [HB.out]), (by repeat (first | exact Bw.refl _ | assumption | refine Bw.alloc ?_ _ | refine Bw.drew ?_ | refine Bw.trans ?_ (by assumption) | refine Bw.setCell ?_ (by simp; try omega) _))⟩
theorem Nth_any (zs : List Int) (v : Value) (i : Int) (w : World) (hv : RdI w v zs) : Calls Tryd.prog 16 #[v, .int .i64 i] w fun e w' => e = .returned (.int .i64 (nth zs i)) ∧ Bw w w' := by
  obtain ⟨hlen, ad, cap, rfl, hz⟩ := hv
  by_cases h : i < 0 ∨ (zs.length : Int) ≤ i
  · have HN := Lib.hid (show nth zs i = 0 by unfold nth; rw [if_pos h])
    clear hz
    rcases h with h | h
    all_goals
      go_enter Tryd.func16, Tryd.ntmps16
      go_wp2
      all_goals (go_ret; exact ⟨ret_int HN.out.symm, (by repeat (first | exact Bw.refl _ | assumption | refine Bw.alloc ?_ _ | refine Bw.drew ?_ | refine Bw.trans ?_ (by assumption) | refine Bw.setCell ?_ (by simp; try omega) _))⟩)
  · have HN := Lib.hid (show nth zs i = zs.getD i.toNat 0 by unfold nth; rw [if_neg h])
    obtain ⟨j, rfl⟩ := Int.eq_ofNat_of_zero_le (show 0 ≤ i by omega)
    obtain ⟨b, off, rfl, hb, hz⟩ := hz.resolve_left (by intro e; subst e; simp at h)
    have hc := hz j (by omega)
    rw [show ((j : Int)).toNat = j by omega] at HN
    have hj : (j : Int) < zs.length := by omega
    clear hz h
    generalize zs.getD j 0 = z at hc HN
    go_enter Tryd.func16, Tryd.ntmps16
    go_wp2
    go_ret
    exact ⟨ret_int HN.out.symm, (by repeat (first | exact Bw.refl _ | assumption | refine Bw.alloc ?_ _ | refine Bw.drew ?_ | refine Bw.trans ?_ (by assumption) | refine Bw.setCell ?_ (by simp; try omega) _))⟩
/-! chapter 28: an ephemeris by numbers -/
def sgE (n b : Int) : Int := bel n (2 ^ b.toNat) - 2 ^ (b.toNat - 1)
theorem sgn_ok27 (n b : Int) (hb : b = 20 ∨ b = 14 ∨ b = 12) : okZ b (sgE n b) = true := by
  unfold okZ sgE
  have h9 := bel_bd n (2 ^ b.toNat) (by rcases hb with rfl | rfl | rfl <;> decide)
  rcases hb with rfl | rfl | rfl
  · rw [show (2 : Int) ^ ((20 : Int)).toNat = 1048576 from by decide] at h9
    apply decide_eq_true
    rw [show lowR 20 true = -524288 from by decide, show highR 20 true = 524287 from by decide, show (2 : Int) ^ ((20 : Int)).toNat = 1048576 from by decide, show (2 : Int) ^ (((20 : Int)).toNat - 1) = 524288 from by decide]
    omega
  · rw [show (2 : Int) ^ ((14 : Int)).toNat = 16384 from by decide] at h9
    apply decide_eq_true
    rw [show lowR 14 true = -8192 from by decide, show highR 14 true = 8191 from by decide, show (2 : Int) ^ ((14 : Int)).toNat = 16384 from by decide, show (2 : Int) ^ (((14 : Int)).toNat - 1) = 8192 from by decide]
    omega
  · rw [show (2 : Int) ^ ((12 : Int)).toNat = 4096 from by decide] at h9
    apply decide_eq_true
    rw [show lowR 12 true = -2048 from by decide, show highR 12 true = 2047 from by decide, show (2 : Int) ^ ((12 : Int)).toNat = 4096 from by decide, show (2 : Int) ^ (((12 : Int)).toNat - 1) = 2048 from by decide]
    omega
def ofX27 (zs : List Int) : Nat → Int := fun i => [1 + bel (nth zs 0) 63, bel (nth zs 1) 604800, bel (nth zs 2) 65536, bel (nth zs 3) 1048576, sgE (nth zs 4) 20, sgE (nth zs 5) 14, sgE (nth zs 6) 12, sgE (nth zs 7) 20, sgE (nth zs 8) 14, sgE (nth zs 9) 12, sgE (nth zs 10) 20, sgE (nth zs 11) 14, sgE (nth zs 12) 12].getD i 0
theorem ofX27_ok (zs : List Int) : errPg (ofX27 zs) = 0 := by
  refine errPg_yes ?_ ?_
  · have b0 := bel_bd (nth zs 0) 63 (by decide)
    have b1 := bel_bd (nth zs 1) 604800 (by decide)
    have b2 := bel_bd (nth zs 2) 65536 (by decide)
    have b3 := bel_bd (nth zs 3) 1048576 (by decide)
    show 1 ≤ 1 + bel (nth zs 0) 63 ∧ 1 + bel (nth zs 0) 63 ≤ 63 ∧ 0 ≤ bel (nth zs 1) 604800 ∧ bel (nth zs 1) 604800 ≤ 604799 ∧ 0 ≤ bel (nth zs 2) 65536 ∧ bel (nth zs 2) 65536 ≤ 65535 ∧ 0 ≤ bel (nth zs 3) 1048576 ∧ bel (nth zs 3) 1048576 ≤ 1048575
    omega
  · intro i hi
    match i, hi with
    | 0, _ => exact ⟨sgn_ok27 _ 20 (by decide), sgn_ok27 _ 20 (by decide), sgn_ok27 _ 20 (by decide)⟩
    | 1, _ => exact ⟨sgn_ok27 _ 14 (by decide), sgn_ok27 _ 14 (by decide), sgn_ok27 _ 14 (by decide)⟩
    | 2, _ => exact ⟨sgn_ok27 _ 12 (by decide), sgn_ok27 _ 12 (by decide), sgn_ok27 _ 12 (by decide)⟩
end Go.Proofs.Sky

namespace Go.Proofs.Sky
open Go Go.RowKit Go.Shelf
set_option maxHeartbeats 2000000
set_option maxRecDepth 8000
/-! chapter 27: rows of pages -/
def pgc (x : Nat → Int) : List Value := (pgV x).toList
theorem pgc_len (x : Nat → Int) : (pgc x).length = 13 := rfl
theorem pgc_arr (x : Nat → Int) : (pgc x).toArray = pgV x := rfl
theorem pgc_at (x : Nat → Int) (j : Nat) (hj : j < 13) : (pgc x)[j]? = some (.int .i64 (x j)) := by
  have : j = 0 ∨ j = 1 ∨ j = 2 ∨ j = 3 ∨ j = 4 ∨ j = 5 ∨ j = 6 ∨ j = 7 ∨ j = 8 ∨ j = 9 ∨ j = 10 ∨ j = 11 ∨ j = 12 := by omega
  rcases this with rfl | rfl | rfl | rfl | rfl | rfl | rfl | rfl | rfl | rfl | rfl | rfl | rfl <;> rfl
theorem pgc_one (x : Nat → Int) : ∀ u ∈ pgc x, u.oneCell' = true := fun u hu => by
  simp only [pgc, pgV, List.mem_cons, List.not_mem_nil, or_false] at hu
  rcases hu with rfl | rfl | rfl | rfl | rfl | rfl | rfl | rfl | rfl | rfl | rfl | rfl | rfl <;> rfl
def flatG (ps : List (Nat → Int)) : List Value := ps.flatMap pgc
theorem flatG_append (fs gs : List (Nat → Int)) : flatG (fs ++ gs) = flatG fs ++ flatG gs := by simp [flatG]
theorem flatG_one (f : Nat → Int) : flatG [f] = pgc f := by simp [flatG]
theorem flatG_cons (f : Nat → Int) (r : List (Nat → Int)) : flatG (f :: r) = pgc f ++ flatG r := rfl
theorem flatG_len (fs : List (Nat → Int)) : (flatG fs).length = fs.length * 13 := by
  induction fs with
  | nil => rfl
  | cons f r ih => rw [flatG_cons, List.length_append, ih, List.length_cons, pgc_len]; omega
theorem flatG_one' (fs : List (Nat → Int)) : ∀ u ∈ flatG fs, u.oneCell' = true := fun u hu => by
  obtain ⟨x, _, h⟩ := List.mem_flatMap.1 hu
  exact pgc_one x u h
theorem flatG_at (fs : List (Nat → Int)) : ∀ (i : Nat) (f : Nat → Int), fs[i]? = some f → ∀ j, j < 13 → (flatG fs)[i * 13 + j]? = (pgc f)[j]? := by
  induction fs with
  | nil => intro i f h; simp at h
  | cons g r ih =>
    intro i f h j hj
    rw [flatG_cons]
    cases i with
    | zero =>
      simp only [List.getElem?_cons_zero, Option.some.injEq] at h
      subst h
      rw [List.getElem?_append_left (by rw [pgc_len]; omega)]
      congr 1; omega
    | succ i =>
      rw [List.getElem?_cons_succ] at h
      rw [List.getElem?_append_right (by rw [pgc_len]; omega)]
      rw [← ih i f h j hj]
      congr 1; rw [pgc_len]; omega
theorem flatG_take (fs : List (Nat → Int)) : ∀ k, flatG (fs.take k) = (flatG fs).take (k * 13) := by
  induction fs with
  | nil => intro k; simp [flatG]
  | cons g r ih =>
    intro k
    cases k with
    | zero => simp [flatG]
    | succ k =>
      rw [List.take_succ_cons, flatG_cons, flatG_cons, ih, List.take_append, pgc_len, List.take_of_length_le (l := pgc g) (by rw [pgc_len]; omega), show (k + 1) * 13 - 13 = k * 13 by omega]
theorem flatG_drop (fs : List (Nat → Int)) : ∀ k, flatG (fs.drop k) = (flatG fs).drop (k * 13) := by
  induction fs with
  | nil => intro k; simp [flatG]
  | cons g r ih =>
    intro k
    cases k with
    | zero => simp
    | succ k =>
      rw [List.drop_succ_cons, flatG_cons, ih, List.drop_append, pgc_len, show List.drop ((k + 1) * 13) (pgc g) = [] from List.drop_eq_nil_of_le (by rw [pgc_len]; omega), List.nil_append, show (k + 1) * 13 - 13 = k * 13 by omega]
def RdG (w : World) (v : Value) (ps : List (Nat → Int)) : Prop :=
  ps.length ≤ 9223372036854775807 ∧ ∃ a cap, v = .slice a ps.length cap ∧ (ps = [] ∨ ∃ b off, a = some ⟨b, off, none⟩ ∧ b < w.heap.size ∧ ∀ i x, ps[i]? = some x → w.rangeAt b (off + i * 13) (pgc x))
theorem RdG.mono {w w' : World} {v : Value} {fs : List (Nat → Int)} (h : RdG w v fs) (hb : Bw w w') : RdG w' v fs := by
  obtain ⟨h2, a, cap, h3, h4⟩ := h
  refine ⟨h2, a, cap, h3, ?_⟩
  rcases h4 with h4 | ⟨b, off, h5, h6, h7⟩
  · exact .inl h4
  · exact .inr ⟨b, off, h5, Nat.lt_of_lt_of_le h6 hb.size, fun i f hi j u hu => hb.cell' (h7 i f hi j u hu)⟩
theorem RdG.form {w : World} {v : Value} {fs : List (Nat → Int)} (h : RdG w v fs) : ∃ a c, v = .slice a fs.length c := by obtain ⟨_, a, c, h, _⟩ := h; exact ⟨a, c, h⟩
theorem RdG.nil (w : World) : RdG w (.slice none 0 0) [] := ⟨by simp, none, 0, rfl, .inl rfl⟩
theorem RdG.at {w : World} {v : Value} {ps : List (Nat → Int)} (h : RdG w v ps) (h0 : 0 < ps.length) : ∃ b off c, v = .slice (some ⟨b, off, none⟩) ps.length c ∧ b < w.heap.size ∧ ∀ i x, ps[i]? = some x → w.rangeAt b (off + i * 13) (pgc x) := by
  obtain ⟨_, a, c, hv, h4⟩ := h
  rcases h4 with rfl | ⟨b, off, rfl, h6, h7⟩
  · simp at h0
  · exact ⟨b, off, c, hv, h6, h7⟩
theorem own_rdG {w : World} {base : Nat} {e : TypeId} {v : Value} {fs : List (Nat → Int)} (h : w.ownsRow base e 13 v fs.length (flatG fs)) (hn : fs.length ≤ 9223372036854775807) : RdG w v fs ∧ Fresh base v := by
  have h' := h
  rcases h'.2 with ⟨rfl, h2⟩ | ⟨g, cap, cur, rfl, hg, hh, _⟩
  · obtain rfl : fs = [] := List.length_eq_zero_iff.1 h2
    exact ⟨RdG.nil w, Fresh.nil _ _ _⟩
  · refine ⟨⟨hn, some ⟨g, 0, none⟩, cap, rfl, .inr ⟨g, 0, rfl, (Array.getElem?_eq_some_iff.1 hh).1, fun i f hi j u hu => ?_⟩⟩, Fresh.at hg⟩
    have hil : i < fs.length := (List.getElem?_eq_some_iff.1 hi).1
    have hj : j < 13 := (List.getElem?_eq_some_iff.1 hu).1
    rw [Nat.zero_add]
    exact (h.cellAt (i * 13 + j) (by omega)).trans ((flatG_at fs i f hi j hj).trans hu)
theorem infoPg : (Tryd.prog.info? 29).map (fun i => (i.zero, i.size, i.bytes)) = some (some (.agg #[.int .i64 0, .int .i64 0, .int .i64 0, .int .i64 0, .int .i64 0, .int .i64 0, .int .i64 0, .int .i64 0, .int .i64 0, .int .i64 0, .int .i64 0, .int .i64 0, .int .i64 0]), 13, 104) := by kernel_rfl
section
variable {ops : Array Oper} {rest : List Oper} {o : Oper} {a : Act} {w : World} {K : Act → World → Prop} {Q : Exit → Act → World → Prop}
theorem rg_news {w : World} {b off : Nat} {cs : List Value} (hb : w.rangeAt b off cs) : ∀ (j : Nat) (u : Value), cs[j]? = some u → w.cell? ((⟨b, off, none⟩ : Addr).add j) = some u := fun j u hu => by
  rw [Addr.add_mid]; exact hb j u hu
theorem blk_rg {w : World} {b : Nat} {T : TypeId} {cs : List Value} (hb : Blk w b T cs.toArray) : w.rangeAt b 0 cs := fun j u hu => by
  rw [Nat.zero_add]; exact hb.cell (j := j) (v := u) (by simpa using hu)
/-- a row of pages behind a row of the call's own -/
theorem wp_append_pgs (s x : Operand) (t : TypeId)
    (ho : o.op = .call { callee := .builtin .append, args := #[s, x], argTypes := #[t, t] }) (dst : Option Tmp) (hd : o.dst = dst)
    (base : Nat) (ht : Tryd.prog.underlying t = some (.slice 29))
    (v : Value) (fs gs : List (Nat → Int)) (hs : a.eval s = v) (hown : w.ownsRow base 29 13 v fs.length (flatG fs))
    (b off c : Nat) (hx : a.eval x = .slice (some ⟨b, off, none⟩) gs.length c) (hb : ∀ i x, gs[i]? = some x → w.rangeAt b (off + i * 13) (pgc x))
    (hn : fs.length + gs.length ≤ 1000000) (hbase : base ≤ w.heap.size)
    (h : ∀ v' w', w'.ownsRow base 29 13 v' (fs ++ gs).length (flatG (fs ++ gs)) → w.grownBy w' v.ownBlock → (v' = .slice none 0 0 ↔ v = .slice none 0 0 ∧ gs.length = 0) → K (a.put dst v') w') : o.wp Tryd.prog a w K Q := by
  subst hd
  obtain ⟨i, hi, hzz⟩ := Option.map_eq_some_iff.1 infoPg
  simp only [Prod.mk.injEq] at hzz
  obtain ⟨hz0, hz1, hz2⟩ := hzz
  refine wp_append_own w s x t ho base 29 i _ 13 104 ht hi hz0 hz1 hz2 rfl (by decide) v fs.length (flatG fs) hs hown ⟨b, off, none⟩ gs.length c (flatG gs) hx (flatG_len gs) (fun j u hu => ?_) (flatG_one' gs) (by unfold maxLen; omega) (by omega) hbase (fun v' w' h2 h3 h4 => h v' w' ?_ h3 h4)
  · have hj : j < gs.length * 13 := by have := (List.getElem?_eq_some_iff.1 hu).1; rwa [flatG_len] at this
    have hq : j / 13 < gs.length := by omega
    have hf := flatG_at gs (j / 13) _ (List.getElem?_eq_getElem hq) (j % 13) (by omega)
    rw [show j / 13 * 13 + j % 13 = j by omega, hu] at hf
    rw [Addr.add_mid]
    have h9 := hb (j / 13) _ (List.getElem?_eq_getElem hq) (j % 13) u hf.symm
    rwa [show off + j / 13 * 13 + j % 13 = off + j by omega] at h9
  · rw [flatG_append, List.length_append]; exact h2
theorem wpList_append_pgs (hgd : o.guard = none) (s x : Operand) (t : TypeId)
    (ho : o.op = .call { callee := .builtin .append, args := #[s, x], argTypes := #[t, t] })
    (base : Nat) (ht : Tryd.prog.underlying t = some (.slice 29))
    (v : Value) (fs gs : List (Nat → Int)) (hs : a.eval s = v) (hown : w.ownsRow base 29 13 v fs.length (flatG fs))
    (b off c : Nat) (hx : a.eval x = .slice (some ⟨b, off, none⟩) gs.length c) (hb : ∀ i x, gs[i]? = some x → w.rangeAt b (off + i * 13) (pgc x))
    (hn : fs.length + gs.length ≤ 1000000) (hbase : base ≤ w.heap.size)
    (h : ∀ v' w', w'.ownsRow base 29 13 v' (fs ++ gs).length (flatG (fs ++ gs)) → w.grownBy w' v.ownBlock → (v' = .slice none 0 0 ↔ v = .slice none 0 0 ∧ gs.length = 0) → wpList Tryd.prog ops Q rest (a.put o.dst v') w') : wpList Tryd.prog ops Q (o :: rest) a w :=
  wpList_plain hgd fun _ hK => wp_append_pgs s x t ho o.dst rfl base ht v fs gs hs hown b off c hx hb hn hbase (fun v' w' h1 h2 h3 => hK _ _ (h v' w' h1 h2 h3))
theorem wpList_append_none (hgd : o.guard = none) (s x : Operand) (t : TypeId)
    (ho : o.op = .call { callee := .builtin .append, args := #[s, x], argTypes := #[t, t] })
    (base : Nat) (ht : Tryd.prog.underlying t = some (.slice 29))
    (v : Value) (fs : List (Nat → Int)) (hs : a.eval s = v) (hown : w.ownsRow base 29 13 v fs.length (flatG fs))
    (ad : Addr) (c : Nat) (hx : a.eval x = .slice (some ad) 0 c)
    (hn : fs.length ≤ 1000000) (hbase : base ≤ w.heap.size)
    (h : ∀ v' w', w'.ownsRow base 29 13 v' fs.length (flatG fs) → w.grownBy w' v.ownBlock → (v' = .slice none 0 0 ↔ v = .slice none 0 0) → wpList Tryd.prog ops Q rest (a.put o.dst v') w') : wpList Tryd.prog ops Q (o :: rest) a w := by
  obtain ⟨i, hi, hzz⟩ := Option.map_eq_some_iff.1 infoPg
  simp only [Prod.mk.injEq] at hzz
  obtain ⟨hz0, hz1, hz2⟩ := hzz
  refine wpList_append_own w hgd s x t ho base 29 i _ 13 104 ht hi hz0 hz1 hz2 rfl (by decide) v fs.length (flatG fs) hs hown ad 0 c [] hx rfl (fun j u hu => by simp at hu) (fun u hu => by simp at hu) (by unfold maxLen; omega) (by omega) hbase (fun v' w' h2 h3 h4 => h v' w' (by simpa using h2) h3 (by simpa using h4))
theorem run_load_pg {ρ : Operand → Value} (x : Operand) (ho : o.op = .load 29 x) (g b : Nat) (hx : ρ x = .pointer (some ⟨g, b, none⟩)) {y : Nat → Int} (hB : w.rangeAt g b (pgc y)) : (execOp ρ o).run Tryd.prog w = .ok (.value (.agg (pgV y))) w := by
  have h9 : (Instr.loadAt 29 (.pointer (some ⟨g, b, none⟩))).run Tryd.prog w = .ok (.agg (pgV y)) w := run_loadAt_mid w g b 29 _ _ hB Tryd.underlying29 rfl (by kernel_rfl)
  unfold execOp
  simp only [ho, hx, Sem.run_bind, Sem.run_pure, Result.andThen_ok, h9]
theorem wp_load_pg (x : Operand) (ho : o.op = .load 29 x) (dst : Option Tmp) (hd : o.dst = dst) (g b : Nat) (hx : a.eval x = .pointer (some ⟨g, b, none⟩)) {y : Nat → Int} (hB : w.rangeAt g b (pgc y))
    (h : K (a.put dst (.agg (pgV y))) w) : o.wp Tryd.prog a w K Q := by
  subst hd
  unfold Oper.wp
  rw [run_load_pg x ho g b hx hB]
  exact h
theorem wpList_load_pg (hgd : o.guard = none) (x : Operand) (ho : o.op = .load 29 x) (g b : Nat) (hx : a.eval x = .pointer (some ⟨g, b, none⟩)) {y : Nat → Int} (hB : w.rangeAt g b (pgc y))
    (h : wpList Tryd.prog ops Q rest (a.put o.dst (.agg (pgV y))) w) : wpList Tryd.prog ops Q (o :: rest) a w :=
  wpList_plain hgd fun _ hK => wp_load_pg x ho o.dst rfl g b hx hB (hK _ _ h)
theorem wpList_load_pg_w (hw : Region.wanted o (yielded ops a.tmps) = true) (x : Operand) (ho : o.op = .load 29 x) (g b : Nat) (hx : a.eval x = .pointer (some ⟨g, b, none⟩)) {y : Nat → Int} (hB : w.rangeAt g b (pgc y))
    (h : wpList Tryd.prog ops Q rest (a.put o.dst (.agg (pgV y))) w) : wpList Tryd.prog ops Q (o :: rest) a w :=
  wpList_step fun K hK => by
    rw [if_pos hw]
    exact wp_load_pg x ho o.dst rfl g b hx hB (hK _ _ h)
end
theorem rg_one {w : World} {b : Nat} {x : Nat → Int} (h : w.rangeAt b 0 (pgc x)) : ∀ i y, [x][i]? = some y → w.rangeAt b (0 + i * 13) (pgc y) := fun i y hi => by
  cases i with
  | zero => simp at hi; subst hi; exact h
  | succ i => simp at hi
/-- the error of an almanac -/
def nmG (ps : List (Nat → Int)) (i : Nat) : Int := (ps.getD i fun _ => 0) 0
def okR27 (ps : List (Nat → Int)) : Prop := ∀ i, i < ps.length → errPg (ps.getD i fun _ => 0) = 0
instance (ps : List (Nat → Int)) : Decidable (okR27 ps) := inferInstanceAs (Decidable (∀ i, i < ps.length → errPg (ps.getD i fun _ => 0) = 0))
def ascG (ps : List (Nat → Int)) : Prop := ∀ i, i < ps.length - 1 → nmG ps i < nmG ps (i + 1)
instance (ps : List (Nat → Int)) : Decidable (ascG ps) := inferInstanceAs (Decidable (∀ i, i < ps.length - 1 → nmG ps i < nmG ps (i + 1)))
def errRow (ps : List (Nat → Int)) : Int := if 63 < ps.length then 4 else if okR27 ps then (if ascG ps then 0 else 9) else 2
theorem errRow_long {ps : List (Nat → Int)} (h : 63 < ps.length) : errRow ps = 4 := if_pos h
theorem errRow_bad {ps : List (Nat → Int)} (h : ¬ 63 < ps.length) (i : Nat) (hi : i < ps.length) (he : errPg (ps.getD i fun _ => 0) ≠ 0) : errRow ps = 2 := by
  unfold errRow; rw [if_neg h, if_neg (fun hk => he (hk i hi))]
theorem errRow_ord {ps : List (Nat → Int)} (h : ¬ 63 < ps.length) (hk : okR27 ps) (i : Nat) (hi : i < ps.length - 1) (he : ¬ nmG ps i < nmG ps (i + 1)) : errRow ps = 9 := by
  unfold errRow; rw [if_neg h, if_pos hk, if_neg (fun ha => he (ha i hi))]
theorem errRow_ok {ps : List (Nat → Int)} (h : ¬ 63 < ps.length) (hk : okR27 ps) (ha : ascG ps) : errRow ps = 0 := by
  unfold errRow; rw [if_neg h, if_pos hk, if_pos ha]
theorem errRow_zero {ps : List (Nat → Int)} (h : errRow ps = 0) : ps.length ≤ 63 ∧ okR27 ps ∧ ascG ps := by
  unfold errRow at h
  split at h
  · simp at h
  · split at h
    · split at h
      · exact ⟨by omega, ‹_›, ‹_›⟩
      · simp at h
    · simp at h
end Go.Proofs.Sky

namespace Go.Proofs.Sky
open Go Go.RowKit Go.Shelf
attribute [local go_sem] Oper.semAt_some
set_option maxHeartbeats 4000000
set_option maxRecDepth 8000
/-! chapter 27: the error of an almanac -/
theorem getD_some {ps : List (Nat → Int)} {i : Nat} (h : i < ps.length) : ps[i]? = some (ps.getD i fun _ => 0) := by
  rw [List.getD_eq_getElem?_getD, List.getElem?_eq_getElem h]; rfl
theorem rg_at0 {w : World} {b o : Nat} {x : Nat → Int} (h : w.rangeAt b o (pgc x)) : w.cell? ⟨b, o, none⟩ = some (.int .i64 (x 0)) := h 0 _ rfl
theorem whole_any (ps : List (Nat → Int)) (v : Value) (w : World) (hw : WdAt w) (hv : RdG w v ps) : Calls Tryd.prog 52 #[v] w fun e w' => e = .returned (.int .i64 (errRow ps)) ∧ Bw w w' := by
  have hl := hv.1
  by_cases hlong : 63 < ps.length
  · obtain ⟨a1, c1, rfl⟩ := hv.form
    have HG := Lib.hid (errRow_long hlong)
    clear hv hw
    generalize ps.length = n at *
    have hq : (63 : Int) < n := by omega
    go_enter Tryd.func52, Tryd.ntmps52
    go_wp2
    go_ret
    exact ⟨ret_int HG.out.symm, Bw.refl _⟩
  have HBAD := Lib.hid (fun i hi he => errRow_bad hlong i hi he)
  have HORD := Lib.hid (fun hk i hi he => errRow_ord hlong hk i hi he)
  have HOK := Lib.hid (fun hk ha => errRow_ok hlong hk ha)
  by_cases h0 : 0 < ps.length
  · obtain ⟨b, o, c, rfl, hb, hz⟩ := hv.at h0
    have HV := Lib.hid hv
    have HWD := Lib.hid hw
    have CK := Lib.hid (fun x W h => PgCheck_any x W h)
    have HSZ : Hid (∀ x, (Tryd.prog.info? 29).map (·.size) = some (pgV x).size) := Lib.hid (fun x => by kernel_rfl)
    have HPX : Hid (∀ x, (pgV x).all (·.oneCell') = true) := Lib.hid (fun x => by simp [Value.oneCell', pgV])
    have HZ := Lib.hid hz
    clear hz hv hw
    generalize errRow ps = E at *
    obtain ⟨n, hn⟩ : ∃ n, ps.length = n := ⟨_, rfl⟩
    have HN := Lib.hid hn
    rw [hn] at hl hlong h0 ⊢
    clear hn
    have hq : ¬ (63 : Int) < n := by omega
    go_enter Tryd.func52, Tryd.ntmps52
    go_wp2
    go_loopw [12] (fun i wr => ∃ k : Nat, k ≤ n ∧ i = .int .i64 k ∧ Hid (Bw w wr) ∧ Hid (∀ j, j < k → errPg (ps.getD j fun _ => 0) = 0)) (fun i _ => n - (intOf i).toNat)
    case atStart => exact ⟨0, Nat.zero_le _, rfl, Lib.hid (Bw.refl _), Lib.hid (fun j hj => absurd hj (Nat.not_lt_zero _))⟩
    case round =>
      obtain ⟨k, hk, rfl, HW, HA⟩ := hrel
      obtain ⟨wb, rfl⟩ : ∃ wb, wb = wr := ⟨_, rfl⟩
      by_cases hlt : k < n
      · have hkn : (k : Int) < n := by omega
        have R := Lib.hid (show wb.rangeAt b (o + k * 13) (pgc (ps.getD k fun _ => 0)) from fun j u hu => HW.out.cell' (HZ.out k _ (getD_some (by have := HN.out; omega)) j u hu))
        have HB1 := Lib.hid (HBAD.out k (by have := HN.out; omega))
        have HA1 := Lib.hid (fun h => (fun j (hj : j < k + 1) => (by
          rcases Nat.lt_succ_iff_lt_or_eq.1 hj with h' | rfl
          · exact HA.out j h'
          · exact h) : ∀ j, j < k + 1 → errPg (ps.getD j fun _ => 0) = 0))
        generalize (ps.getD k fun _ => 0) = x at R HB1 HA1
        have CX := Lib.hid (fun W h => CK.out x W h)
        have H2 := Lib.hid (errPg_two x)
        generalize errPg x = ex at HB1 HA1 CX H2
        have K1 := Lib.hid (Blk.new wb 29 #[.int .i64 0, .int .i64 0, .int .i64 0, .int .i64 0, .int .i64 0, .int .i64 0, .int .i64 0, .int .i64 0, .int .i64 0, .int .i64 0, .int .i64 0, .int .i64 0, .int .i64 0])
        have HW1 := Lib.hid (Bw.alloc (Bw.refl wb) (.cells #[.int .i64 0, .int .i64 0, .int .i64 0, .int .i64 0, .int .i64 0, .int .i64 0, .int .i64 0, .int .i64 0, .int .i64 0, .int .i64 0, .int .i64 0, .int .i64 0, .int .i64 0] 29))
        go_upto_region 6 with (first | ((with_reducible refine at_load 29 (.tmp 14) ?_); refine wpList_load_pg rfl (.tmp 14) rfl b (o + k * 13) (by simp [Act.eval, Act.put]) R.out ?_) | ((with_reducible refine at_store 29 (.tmp 4) (.tmp 15) ?_); refine wpList_store_row rfl 29 (.tmp 4) (.tmp 15) rfl wb.heap.size (pgV x) rfl rfl 29 _ K1.out (by kernel_rfl) rfl (HPX.out x) ?_))
        obtain ⟨g1, hg1⟩ : ∃ g1, wb.heap.size = g1 := ⟨_, rfl⟩
        have hbq := Bw.setRow HW1.out (Nat.le_of_eq hg1) (pgV x)
        have K2 := Lib.hid (K1.out.row (pgV x))
        rw [hg1] at K2 ⊢
        generalize World.setRow (World.alloc wb _) _ _ = wc at *
        clear HW1 K1 hg1
        replace HW := Lib.hid (HW.out.trans hbq)
        clear hbq R
        have HWC := Lib.hid (HWD.out.bw HW.out)
        have HSX := Lib.hid (HSZ.out x)
        obtain ⟨A, hA⟩ : ∃ A, A = pgV x := ⟨_, rfl⟩
        rw [← hA] at K2 CX HSX ⊢
        clear hA
        by_cases hex : ex = 0
        · subst hex
          have HG := Lib.hid (HA1.out rfl)
          go_wp2_with (first | ((with_reducible refine at_load 29 (.tmp 4) ?_); refine wpList_load_row rfl 29 (.tmp 4) rfl g1 rfl 29 A (0, 0) _ K2.out Tryd.underlying29 rfl HSX.out ?_) | (go_at_call 43; (with_reducible refine Calls.mono (CX.out _ HWC.out) ?_); rintro e1 w1 ⟨rfl, hb1⟩; replace HW := Lib.hid (HW.out.trans hb1); clear hb1))
          go_roundw
          case rel => exact ⟨k + 1, by omega, by go_num, HW, HG⟩
          case measure => simp [intOf]; omega
        · have HG := Lib.hid (show E = ex from (HB1.out hex).trans (H2.out.resolve_left hex).symm)
          go_wp2_with (first | ((with_reducible refine at_load 29 (.tmp 4) ?_); refine wpList_load_row rfl 29 (.tmp 4) rfl g1 rfl 29 A (0, 0) _ K2.out Tryd.underlying29 rfl HSX.out ?_) | (go_at_call 43; (with_reducible refine Calls.mono (CX.out _ HWC.out) ?_); rintro e1 w1 ⟨rfl, hb1⟩; replace HW := Lib.hid (HW.out.trans hb1); clear hb1))
          go_ret
          exact ⟨ret_int HG.out.symm, HW.out⟩
      · obtain rfl : k = n := by omega
        have HOKR := Lib.hid (show okR27 ps from fun i hi => HA.out i (by have := HN.out; omega))
        go_wp2
        go_loopw [6] (fun i wr => ∃ m : Nat, m + 1 ≤ k ∧ i = .int .i64 ((m : Int) + 1) ∧ Hid (Bw w wr) ∧ Hid (∀ j, j < m → nmG ps j < nmG ps (j + 1))) (fun i _ => k - (intOf i).toNat)
        case atStart => exact ⟨0, by omega, rfl, HW, Lib.hid (fun j hj => absurd hj (Nat.not_lt_zero _))⟩
        case round =>
          obtain ⟨m, hm, rfl, HW2, HA2⟩ := hrel
          obtain ⟨wc, rfl⟩ : ∃ wc, wc = wr := ⟨_, rfl⟩
          clear HW HA
          by_cases hlt2 : m + 1 < k
          · have hkn : (m : Int) + 1 < k := by omega
            have hm0 : (0 : Int) ≤ m := by omega
            have hm1 : (m : Int) < k := by omega
            have hm2 : (0 : Int) ≤ (m : Int) + 1 := by omega
            have d1 : wc.cell? ⟨b, o + (m + 1) * 13, none⟩ = some (.int .i64 (nmG ps (m + 1))) := HW2.out.cell' (rg_at0 (HZ.out (m + 1) _ (getD_some (by have := HN.out; omega))))
            have d2 : wc.cell? ⟨b, o + m * 13, none⟩ = some (.int .i64 (nmG ps m)) := HW2.out.cell' (rg_at0 (HZ.out m _ (getD_some (by have := HN.out; omega))))
            have HB2 := Lib.hid (HORD.out HOKR.out m (by have := HN.out; omega))
            have HA3 := Lib.hid (fun h => (fun j (hj : j < m + 1) => (by
              rcases Nat.lt_succ_iff_lt_or_eq.1 hj with h' | rfl
              · exact HA2.out j h'
              · exact h) : ∀ j, j < m + 1 → nmG ps j < nmG ps (j + 1)))
            generalize nmG ps (m + 1) = p at d1 HB2 HA3
            generalize nmG ps m = q at d2 HB2 HA3
            have e1 := fun p' : Ext wc => Ext.cell' d1 p'
            have e2 := fun p' : Ext wc => Ext.cell' d2 p'
            have ew : IntKind.i64.wrap ((m : Int) + 1 - 1) = m := by rw [IntKind.wrap_i64]; omega
            have et : ((m : Int) + 1).toNat = m + 1 := by omega
            by_cases hpq : q < p
            · have HG := Lib.hid (HA3.out hpq)
              have hpn : ¬ p ≤ q := by omega
              go_upto_region 13 with fail
              (refine wp_region_quiet_ext (by kernel_rfl) (by kernel_rfl) ?_; (repeat (go_big_quiet_step ((fail)))); refine wpQuiet_nil ?_; rintro wq ⟨⟨_, hbq⟩, rfl⟩; obtain ⟨hccq, hffq⟩ := Bw.cells hbq; have hszq := Bw.size hbq)
              go_wp2
              go_roundw
              case rel => exact ⟨m + 1, by omega, by go_num, Lib.hid (HW2.out.trans hbq), HG⟩
              case measure => simp [intOf]; omega
            · have HG := Lib.hid (HB2.out (by omega))
              have hpn : p ≤ q := by omega
              go_upto_region 13 with fail
              (refine wp_region_quiet_ext (by kernel_rfl) (by kernel_rfl) ?_; (repeat (go_big_quiet_step ((fail)))); refine wpQuiet_nil ?_; rintro wq ⟨⟨_, hbq⟩, rfl⟩; obtain ⟨hccq, hffq⟩ := Bw.cells hbq; have hszq := Bw.size hbq)
              go_wp2
              go_ret
              exact ⟨ret_int HG.out.symm, HW2.out.trans hbq⟩
          · obtain rfl : k = m + 1 := by omega
            have HG := Lib.hid (HOK.out HOKR.out (fun i hi => HA2.out i (by have := HN.out; omega)))
            go_wp2
            go_ret
            exact ⟨ret_int HG.out.symm, HW2.out⟩
  · obtain rfl : ps = [] := List.length_eq_zero_iff.1 (by omega)
    obtain ⟨a1, c1, rfl⟩ := hv.form
    have HG := Lib.hid (HOK.out (fun i hi => absurd hi (by simp)) (fun i hi => absurd hi (by simp)))
    clear hv hw HBAD HORD HOK
    go_enter Tryd.func52, Tryd.ntmps52
    go_wp2
    go_loopw [12] (fun i wr => i = .int .i64 0 ∧ Hid (Bw w wr)) (fun i _ => 0)
    case atStart => exact ⟨rfl, Lib.hid (Bw.refl _)⟩
    case round =>
      obtain ⟨rfl, HW⟩ := hrel
      go_wp2
      go_loopw [6] (fun i wr => i = .int .i64 1 ∧ Hid (Bw w wr)) (fun i _ => 0)
      case atStart => exact ⟨rfl, HW⟩
      case round =>
        obtain ⟨rfl, HW2⟩ := hrel
        go_wp2
        go_ret
        exact ⟨ret_int HG.out.symm, HW2.out⟩
end Go.Proofs.Sky

namespace Go.Proofs.Sky
open Go Go.RowKit Go.Shelf
attribute [local go_sem] Oper.semAt_some
set_option maxHeartbeats 4000000
set_option maxRecDepth 8000
/-! chapter 27: where a page is -/
def cmpZ (a b : Int) : Int := if a < b then -1 else if b < a then 1 else 0
theorem cmpZ_bd (a b : Int) : cmpZ a b = -1 ∨ cmpZ a b = 0 ∨ cmpZ a b = 1 := by
  unfold cmpZ
  split
  · simp
  · split <;> simp
theorem cmpInt_any (a b : Int) (w : World) : Calls Tryd.prog 35 #[.int .i64 a, .int .i64 b] w fun e w' => e = .returned (.int .i64 (cmpZ a b)) ∧ w' = w := by
  by_cases h1 : a < b
  · have HG := Lib.hid (show cmpZ a b = -1 from if_pos h1)
    go_enter Tryd.func35, Tryd.ntmps35
    go_wp2
    go_ret
    exact ⟨ret_int HG.out.symm, rfl⟩
  · by_cases h2 : b < a
    · have HG := Lib.hid (show cmpZ a b = 1 by unfold cmpZ; rw [if_neg h1, if_pos h2])
      go_enter Tryd.func35, Tryd.ntmps35
      go_wp2
      go_ret
      exact ⟨ret_int HG.out.symm, rfl⟩
    · have HG := Lib.hid (show cmpZ a b = 0 by unfold cmpZ; rw [if_neg h1, if_neg h2])
      go_enter Tryd.func35, Tryd.ntmps35
      go_wp2
      go_ret
      exact ⟨ret_int HG.out.symm, rfl⟩
theorem numCmp_any (n : Int) (x : Nat → Int) (w : World) : Calls Tryd.prog 60 #[.int .i64 n, .agg (pgV x)] w fun e w' => e = .returned (.int .i64 (cmpZ n (x 0))) ∧ Bw w w' := by
  have KX := (Blk.new w 29 (pgV x)).cell (pgV_at x 0 (by omega))
  have HW := Lib.hid (Bw.alloc (Bw.refl w) (.cells (pgV x) 29))
  have CP := Lib.hid (fun a b W => cmpInt_any a b W)
  generalize x 0 = p at *
  go_enter Tryd.func60, Tryd.ntmps60
  go_wp2_with (first | (go_at_call 35; (with_reducible refine Calls.mono (CP.out _ _ _) ?_); rintro e1 w1 ⟨rfl, rfl⟩))
  go_ret
  exact ⟨rfl, HW.out⟩
def NCf (w : World) (B : Nat) : Prop := B < w.heap.size ∧ w.cell? ⟨B, 0, none⟩ = some (.func (.func 60) #[] #[])
theorem find1_any (n : Int) (x : Nat → Int) (B : Nat) (w : World) (hB : NCf w B) : Calls Tryd.prog 62 #[.agg (pgV x), .int .i64 n, .pointer (some ⟨B, 0, none⟩)] w fun e w' => e = .returned (.int .i64 (- cmpZ n (x 0))) ∧ Bw w w' := by
  have HW := Lib.hid (Bw.alloc (Bw.refl w) (.cells (pgV x) 29))
  have NC := Lib.hid (fun W => numCmp_any n x W)
  have KX := Lib.hid (Blk.new w 29 (pgV x))
  have HSZ : Hid ((Tryd.prog.info? 29).map (·.size) = some (pgV x).size) := Lib.hid (by kernel_rfl)
  have hc := hB.2
  have hb := hB.1
  have hz := cmpZ_bd n (x 0)
  generalize cmpZ n (x 0) = q at *
  have ec : (w.alloc (.cells (pgV x) 29)).cell? ⟨B, 0, none⟩ = some (.func (.func 60) #[] #[]) := (Bw.alloc (Bw.refl w) _).cell' hc
  obtain ⟨A, hA⟩ : ∃ A, A = pgV x := ⟨_, rfl⟩
  rw [← hA] at HW NC KX HSZ ec ⊢
  clear hA
  go_enter Tryd.func62, Tryd.ntmps62
  go_upto_region 1 with fail
  obtain ⟨W0, hW0⟩ : ∃ W0, w.alloc (.cells A 29) = W0 := ⟨_, rfl⟩
  rw [hW0] at HW KX ec ⊢
  clear hW0
  go_wp2_with (first | ((with_reducible refine at_load 29 (.tmp 3) ?_); refine wpList_load_row rfl 29 (.tmp 3) rfl w.heap.size rfl 29 A (0, 0) _ KX.out Tryd.underlying29 rfl HSZ.out ?_) | (go_at_call 60; (with_reducible refine Calls.mono (NC.out _) ?_); rintro e1 w1 ⟨rfl, hb1⟩; replace HW := Lib.hid (HW.out.trans hb1); clear hb1))
  have hn : IntKind.i64.wrap (-q) = -q := by rw [IntKind.wrap_i64]; omega
  go_ret
  refine ⟨?_, HW.out⟩
  first | rfl | (rw [hn])
/-- the place of a number -/
def PosG (ps : List (Nat → Int)) (n : Int) (i : Nat) : Prop := i ≤ ps.length ∧ (∀ j, j < i → nmG ps j < n) ∧ ∀ j, i ≤ j → j < ps.length → n ≤ nmG ps j
def thG (ps : List (Nat → Int)) (n : Int) (i : Nat) : Bool := decide (i < ps.length ∧ nmG ps i = n)
theorem search_any (ps : List (Nat → Int)) (hs : ps.length ≤ 1000) (n : Int) (i : Nat) (hi : PosG ps n i) (v : Value) (B : Nat) (w : World) (hv : RdG w v ps) (hB : NCf w B) :
    Calls Tryd.prog 61 #[v, .int .i64 n, .func (.func 62) #[] #[.pointer (some ⟨B, 0, none⟩)]] w fun e w' => e = .returned (.tuple #[.int .i64 i, .bool (thG ps n i)]) ∧ Bw w w' := by
  have hp := hi.1
  have HP := Lib.hid hi
  clear hi
  by_cases h0 : 0 < ps.length
  · obtain ⟨b, o, c, rfl, hb, hz⟩ := hv.at h0
    have F1 := Lib.hid (fun x W h => find1_any n x B W h)
    have HB := Lib.hid hB
    have HZ := Lib.hid hz
    clear hz hv hB
    obtain ⟨m, hm⟩ : ∃ m, ps.length = m := ⟨_, rfl⟩
    have HN := Lib.hid hm
    rw [hm] at hs hp h0 ⊢
    clear hm
    have HT := Lib.hid (show thG ps n i = decide (i < m ∧ nmG ps i = n) by unfold thG; rw [HN.out])
    generalize thG ps n i = T at HT ⊢
    go_enter Tryd.func61, Tryd.ntmps61
    go_wp2
    go_loopw [9, 10] (fun s9 s10 wr => ∃ lo hi : Nat, lo ≤ i ∧ i ≤ hi ∧ hi ≤ m ∧ s9 = .int .i64 lo ∧ s10 = .int .i64 hi ∧ Hid (Bw w wr)) (fun s9 s10 _ => (intOf s10).toNat - (intOf s9).toNat)
    case atStart => exact ⟨0, m, Nat.zero_le _, hp, Nat.le_refl _, rfl, rfl, Lib.hid (Bw.refl _)⟩
    case round =>
      obtain ⟨lo, hi, h1, h2, h3, rfl, rfl, HW⟩ := hrel
      obtain ⟨wb, rfl⟩ : ∃ wb, wb = wr := ⟨_, rfl⟩
      by_cases hlt : lo < hi
      · have hkn : (lo : Int) < hi := by omega
        obtain ⟨h, hh⟩ : ∃ h, h = (lo + hi) / 2 := ⟨_, rfl⟩
        have hu0 : IntKind.i64.wrap ((lo : Int) + hi) = (lo : Int) + hi := by rw [IntKind.wrap_i64]; omega
        have hu1 : IntKind.u64.wrap ((lo : Int) + hi) = (lo : Int) + hi := by rw [IntKind.wrap_u64]; omega
        have hu2 : ((lo : Int) + hi) / 2 = (h : Int) := by omega
        have hu3 : IntKind.i64.wrap (h : Int) = h := by rw [IntKind.wrap_i64]; omega
        have HH := Lib.hid hh
        clear hh
        go_upto_region 5 with fail
        have hhm : h < m := by have := HH.out; omega
        have hq1 : (0 : Int) ≤ h := by omega
        have hq2 : (h : Int) < m := by omega
        have hq3 : IntKind.i64.wrap ((h : Int) + 1) = (h : Int) + 1 := by rw [IntKind.wrap_i64]; omega
        have R := Lib.hid (show wb.rangeAt b (o + h * 13) (pgc (ps.getD h fun _ => 0)) from fun j u hu => HW.out.cell' (HZ.out h _ (getD_some (by have := HN.out; omega)) j u hu))
        have FX := Lib.hid (fun W hW => F1.out (ps.getD h fun _ => 0) W hW)
        rw [show (ps.getD h fun _ => 0) 0 = nmG ps h from rfl] at FX
        have NB := Lib.hid (show NCf wb B from ⟨Nat.lt_of_lt_of_le HB.out.1 HW.out.size, HW.out.cell' HB.out.2⟩)
        generalize (ps.getD h fun _ => 0) = x at R FX
        by_cases hih : h < i
        · have hz : cmpZ n (nmG ps h) = 1 := by
            have := HP.out.2.1 h hih
            unfold cmpZ; rw [if_neg (by omega), if_pos this]
          rw [hz] at FX
          clear hz
          go_wp2_with (first | ((with_reducible refine at_load 29 (.tmp 27) ?_); refine wpList_load_pg rfl (.tmp 27) rfl b (o + h * 13) (by simp [Act.eval, Act.put]) R.out ?_) | (go_at_call 62; (with_reducible refine Calls.mono (FX.out _ NB.out) ?_); rintro e1 w1 ⟨rfl, hb1⟩; replace HW := Lib.hid (HW.out.trans hb1); clear hb1))
          go_roundw
          case rel => exact ⟨h + 1, hi, by omega, h2, h3, by go_num, rfl, HW⟩
          case measure => have := HH.out; simp [intOf]; omega
        · have hz : 0 ≤ - cmpZ n (nmG ps h) := by
            have := HP.out.2.2 h (by omega) (by have := HN.out; omega)
            unfold cmpZ; split
            · simp
            · rw [if_neg (by omega)]; simp
          generalize - cmpZ n (nmG ps h) = q at FX hz
          have hq4 : ¬ q < 0 := by omega
          go_wp2_with (first | ((with_reducible refine at_load 29 (.tmp 27) ?_); refine wpList_load_pg rfl (.tmp 27) rfl b (o + h * 13) (by simp [Act.eval, Act.put]) R.out ?_) | (go_at_call 62; (with_reducible refine Calls.mono (FX.out _ NB.out) ?_); rintro e1 w1 ⟨rfl, hb1⟩; replace HW := Lib.hid (HW.out.trans hb1); clear hb1))
          go_roundw
          case rel => exact ⟨lo, h, h1, by omega, by omega, rfl, rfl, HW⟩
          case measure => have := HH.out; simp [intOf]; omega
      · obtain rfl : lo = i := by omega
        by_cases hlm : lo < m
        · have hq1 : (0 : Int) ≤ lo := by omega
          have hq2 : (lo : Int) < m := by omega
          have R := Lib.hid (show wb.rangeAt b (o + lo * 13) (pgc (ps.getD lo fun _ => 0)) from fun j u hu => HW.out.cell' (HZ.out lo _ (getD_some (by have := HN.out; omega)) j u hu))
          have FX := Lib.hid (fun W hW => F1.out (ps.getD lo fun _ => 0) W hW)
          rw [show (ps.getD lo fun _ => 0) 0 = nmG ps lo from rfl] at FX
          have NB := Lib.hid (show NCf wb B from ⟨Nat.lt_of_lt_of_le HB.out.1 HW.out.size, HW.out.cell' HB.out.2⟩)
          generalize (ps.getD lo fun _ => 0) = x at R FX
          have hnl := HP.out.2.2 lo (Nat.le_refl _) (by have := HN.out; omega)
          have HT2 := Lib.hid (show T = decide (- cmpZ n (nmG ps lo) = 0) by
            rw [HT.out]; apply decide_eq_decide.2; unfold cmpZ
            constructor
            · rintro ⟨_, h9⟩; rw [if_neg (by omega), if_neg (by omega)]; rfl
            · intro h9
              refine ⟨hlm, ?_⟩
              split at h9
              · simp at h9
              · split at h9
                · simp at h9
                · omega)
          generalize - cmpZ n (nmG ps lo) = q at FX HT2
          clear hnl HT
          go_wp2_with (first | ((with_reducible refine at_load 29 (.tmp 43) ?_); refine wpList_load_pg_w (by rfl) (.tmp 43) rfl b (o + lo * 13) (by simp [Act.eval, Act.put]) R.out ?_) | (go_at_call 62; (with_reducible refine Calls.mono (FX.out _ NB.out) ?_); rintro e1 w1 ⟨rfl, hb1⟩; replace HW := Lib.hid (HW.out.trans hb1); clear hb1))
          refine bodyPost_ret (v := .tuple #[.int .i64 lo, .bool (decide (q = 0))]) ?_ rfl ⟨by rw [HT2.out], HW.out⟩
          simp [results, Tryd.results61, go_sem]
          rfl
        · have HT2 := Lib.hid (show T = false by rw [HT.out]; exact decide_eq_false (by omega))
          have hq2 : ¬ (lo : Int) < m := by omega
          clear HT
          go_wp2
          refine bodyPost_ret (v := .tuple #[.int .i64 lo, .bool false]) ?_ rfl ⟨by rw [HT2.out], HW.out⟩
          simp [results, Tryd.results61, go_sem]
  · obtain rfl : ps = [] := List.length_eq_zero_iff.1 (by omega)
    obtain rfl : i = 0 := by simpa using hp
    obtain ⟨a1, c1, rfl⟩ := hv.form
    have HG := Lib.hid (show thG [] n 0 = false from decide_eq_false (by simp))
    clear hv hB
    go_enter Tryd.func61, Tryd.ntmps61
    go_wp2
    go_loopw [9, 10] (fun s9 s10 wr => s9 = .int .i64 0 ∧ s10 = .int .i64 0 ∧ Hid (Bw w wr)) (fun _ _ _ => 0)
    case atStart => exact ⟨rfl, rfl, Lib.hid (Bw.refl _)⟩
    case round =>
      obtain ⟨rfl, rfl, HW⟩ := hrel
      go_wp2
      refine bodyPost_ret (v := .tuple #[.int .i64 0, .bool false]) ?_ rfl ⟨by rw [HG.out]; rfl, HW.out⟩
      simp [results, Tryd.results61, go_sem]
theorem asc_lt {ps : List (Nat → Int)} (h : ascG ps) : ∀ j, j < ps.length → ∀ i, i < j → nmG ps i < nmG ps j := by
  intro j
  induction j with
  | zero => intro _ i hi; omega
  | succ j ih =>
    intro hj i hi
    have h1 := h j (by omega)
    rcases Nat.lt_succ_iff_lt_or_eq.1 hi with h2 | rfl
    · exact Int.lt_trans (ih (by omega) i h2) h1
    · exact h1
theorem pos_ex {ps : List (Nat → Int)} (h : ascG ps) (n : Int) : ∃ i, PosG ps n i := by
  have : ∀ k, k ≤ ps.length → ∃ i, i ≤ k ∧ (∀ j, j < i → nmG ps j < n) ∧ ∀ j, i ≤ j → j < k → n ≤ nmG ps j := by
    intro k
    induction k with
    | zero => intro _; exact ⟨0, Nat.le_refl _, fun j hj => absurd hj (by omega), fun j _ hj => absurd hj (by omega)⟩
    | succ k ih =>
      intro hk
      obtain ⟨i, h1, h2, h3⟩ := ih (by omega)
      by_cases hn : n ≤ nmG ps k
      · refine ⟨i, by omega, h2, fun j hj hjk => ?_⟩
        rcases Nat.lt_succ_iff_lt_or_eq.1 hjk with h4 | rfl
        · exact h3 j hj h4
        · exact hn
      · refine ⟨k + 1, Nat.le_refl _, fun j hj => ?_, fun j hj hjk => absurd hjk (by omega)⟩
        rcases Nat.lt_succ_iff_lt_or_eq.1 hj with h4 | rfl
        · have := asc_lt h k (by omega) j h4; omega
        · omega
  obtain ⟨i, h1, h2, h3⟩ := this ps.length (Nat.le_refl _)
  exact ⟨i, h1, h2, h3⟩
theorem find27_any (ps : List (Nat → Int)) (hs : ps.length ≤ 1000) (n : Int) (i : Nat) (hi : PosG ps n i) (v : Value) (w : World) (hv : RdG w v ps) :
    Calls Tryd.prog 53 #[v, .int .i64 n] w fun e w' => e = .returned (.tuple #[.int .i64 i, .bool (thG ps n i)]) ∧ Bw w w' := by
  have HW := Lib.hid (Bw.alloc (Bw.refl w) (.cells #[.func (.func 60) #[] #[]] 96))
  have NB := Lib.hid (show NCf (w.alloc (.cells #[.func (.func 60) #[] #[]] 96)) w.heap.size from ⟨block_lt_of_cell ((Blk.new w 96 #[.func (.func 60) #[] #[]]).cell (j := 0) rfl), (Blk.new w 96 #[.func (.func 60) #[] #[]]).cell rfl⟩)
  have SE := Lib.hid (fun W h h2 => search_any ps hs n i hi v w.heap.size W h h2)
  have HV := Lib.hid (hv.mono HW.out)
  clear hv hi hs
  generalize thG ps n i = T at *
  go_enter Tryd.func53, Tryd.ntmps53
  go_upto_region 2 with fail
  go_wp2_with (first | (go_at_call 61; (with_reducible refine Calls.mono (SE.out _ HV.out NB.out) ?_); rintro e1 w1 ⟨rfl, hb1⟩; replace HW := Lib.hid (HW.out.trans hb1); clear hb1))
  refine bodyPost_ret (v := .tuple #[.int .i64 i, .bool T]) ?_ rfl ⟨rfl, HW.out⟩
  simp [results, Tryd.results53, go_sem]
end Go.Proofs.Sky

namespace Go.Proofs.Sky
open Go Go.RowKit Go.Shelf
attribute [local go_sem] Oper.semAt_some
set_option maxHeartbeats 4000000
set_option maxRecDepth 8000
/-! chapter 27: the document's error of an almanac -/
end Go.Proofs.Sky

namespace Go.Proofs.Sky
open Go Go.RowKit Go.Shelf
attribute [local go_sem] Oper.semAt_some
set_option maxHeartbeats 4000000
set_option maxRecDepth 8000
/-! chapter 27: Find -/
theorem rg_bw {w w' : World} {b o : Nat} {cs : List Value} (h : w.rangeAt b o cs) (hb : Bw w w') : w'.rangeAt b o cs := fun j u hu => hb.cell' (h j u hu)
def zrX : Nat → Int := fun _ => 0
def FindQ (ps : List (Nat → Int)) (n : Int) (X : Nat → Int) (E : Int) : Prop :=
  (errRow ps ≠ 0 ∧ X = zrX ∧ E = errRow ps) ∨ (errRow ps = 0 ∧ ∃ i, i < ps.length ∧ nmG ps i = n ∧ X = (ps.getD i fun _ => 0) ∧ E = 0) ∨ (errRow ps = 0 ∧ (∀ i, i < ps.length → nmG ps i ≠ n) ∧ X = zrX ∧ E = 18)
theorem findQ_ex (ps : List (Nat → Int)) (n : Int) : ∃ X E, FindQ ps n X E := by
  by_cases h : errRow ps = 0
  · by_cases h2 : ∃ i, i < ps.length ∧ nmG ps i = n
    · obtain ⟨i, h3, h4⟩ := h2
      exact ⟨_, _, .inr (.inl ⟨h, i, h3, h4, rfl, rfl⟩)⟩
    · exact ⟨_, _, .inr (.inr ⟨h, fun i hi he => h2 ⟨i, hi, he⟩, rfl, rfl⟩)⟩
  · exact ⟨_, _, .inl ⟨h, rfl, rfl⟩⟩
theorem pos_th {ps : List (Nat → Int)} {n : Int} {i j : Nat} (ha : ascG ps) (hi : PosG ps n i) (hj : j < ps.length) (h : nmG ps j = n) : j = i := by
  by_cases h1 : j < i
  · have := hi.2.1 j h1; omega
  · by_cases h2 : i < j
    · have h3 := asc_lt ha j hj i h2
      have h4 := hi.2.2 i (Nat.le_refl _) (by omega)
      omega
    · omega
theorem AlFind_any (ps : List (Nat → Int)) (n : Int) (X : Nat → Int) (E : Int) (h : FindQ ps n X E) (v : Value) (w : World) (hw : WdAt w) (hv : RdG w v ps) :
    Calls Tryd.prog 36 #[v, .int .i64 n] w fun e w' => e = .returned (.tuple #[.agg (pgV X), .int .i64 E]) ∧ Bw w w' := by
  have HB0 := Bw.alloc (Bw.refl w) (.cells #[.int .i64 0, .int .i64 0, .int .i64 0, .int .i64 0, .int .i64 0, .int .i64 0, .int .i64 0, .int .i64 0, .int .i64 0, .int .i64 0, .int .i64 0, .int .i64 0, .int .i64 0] 29)
  have KR0 : Blk (w.alloc (.cells #[.int .i64 0, .int .i64 0, .int .i64 0, .int .i64 0, .int .i64 0, .int .i64 0, .int .i64 0, .int .i64 0, .int .i64 0, .int .i64 0, .int .i64 0, .int .i64 0, .int .i64 0] 29)) w.heap.size 29 (pgV zrX) := Blk.new w 29 #[.int .i64 0, .int .i64 0, .int .i64 0, .int .i64 0, .int .i64 0, .int .i64 0, .int .i64 0, .int .i64 0, .int .i64 0, .int .i64 0, .int .i64 0, .int .i64 0, .int .i64 0]
  have WH := Lib.hid (fun W hW hV => whole_any ps v W hW hV)
  have HSZ : Hid (∀ x, (Tryd.prog.info? 29).map (·.size) = some (pgV x).size) := Lib.hid (fun x => by kernel_rfl)
  have HPX : Hid (∀ x, (pgV x).all (·.oneCell') = true) := Lib.hid (fun x => by simp [Value.oneCell', pgV])
  obtain ⟨g, hg⟩ : ∃ g, w.heap.size = g := ⟨_, rfl⟩
  obtain ⟨W0, hW0⟩ : ∃ W0, w.alloc (.cells #[.int .i64 0, .int .i64 0, .int .i64 0, .int .i64 0, .int .i64 0, .int .i64 0, .int .i64 0, .int .i64 0, .int .i64 0, .int .i64 0, .int .i64 0, .int .i64 0, .int .i64 0] 29) = W0 := ⟨_, rfl⟩
  have HQ := Lib.hid h
  have HWD := Lib.hid (hw.bw HB0)
  have HV := Lib.hid (hv.mono HB0)
  rw [hW0] at HB0 KR0 HWD HV
  rw [hg] at KR0
  have HW := Lib.hid HB0
  have KR := Lib.hid KR0
  clear HB0 KR0 h hw hv
  rcases HQ.out with ⟨h1, h2, h3⟩ | ⟨h1, i, h2, h3, h4, h5⟩ | ⟨h1, h2, h3, h4⟩
  · rw [h3, h2]
    generalize errRow ps = Er at *
    go_enter Tryd.func36, Tryd.ntmps36
    go_upto_region 1 with fail
    (try rw [hg])
    clear hW0
    go_wp2_with (first | ((with_reducible refine at_store 29 (.tmp 4) (.tmp 13) ?_); refine wpList_store_row rfl 29 (.tmp 4) (.tmp 13) rfl g (pgV zrX) rfl rfl 29 _ KR.out (HSZ.out _) rfl (HPX.out _) ?_) | (go_at_call 52; (with_reducible refine Calls.mono (WH.out _ HWD.out HV.out) ?_); rintro e1 w1 ⟨rfl, hb1⟩; replace HW := Lib.hid (HW.out.trans hb1); replace KR := Lib.hid (KR.out.bw hb1); replace HV := Lib.hid (HV.out.mono hb1); clear hb1))
    refine bodyPost_ret (v := .tuple #[.agg (pgV zrX), .int .i64 Er]) ?_ rfl ⟨rfl, Bw.setRow HW.out (Nat.le_of_eq hg) _⟩
    exact results_two_row (p := 4) (u := 5) rfl _ _ g _ rfl (run_loadVar_row _ g 29 29 (pgV zrX) (0, 0) _ (KR.out.row _) Tryd.underlying29 rfl (by kernel_rfl))
  · obtain ⟨hlen, hok, ha⟩ := errRow_zero h1
    obtain ⟨i', hp⟩ := pos_ex ha n
    obtain rfl := pos_th ha hp h2 h3
    have FI := Lib.hid (fun W hV => find27_any ps (by omega) n i hp v W hV)
    rw [show thG ps n i = true from decide_eq_true ⟨h2, h3⟩] at FI
    rw [h1] at WH
    rw [h4, h5]
    obtain ⟨b, o, c, rfl, hb, hz⟩ := HV.out.at (by omega)
    have R := Lib.hid (show W0.rangeAt b (o + i * 13) (pgc (ps.getD i fun _ => 0)) from hz i _ (getD_some h2))
    have hq1 : (i : Int) < ps.length := by omega
    have hq0 : (0 : Int) ≤ i := by omega
    clear hz h1 h3 h4 h5 hp ha hok HQ
    generalize (ps.getD i fun _ => 0) = x at *
    obtain ⟨m, hm⟩ : ∃ m, ps.length = m := ⟨_, rfl⟩
    rw [hm] at FI WH HV hq1 h2 hlen ⊢
    clear hm
    go_enter Tryd.func36, Tryd.ntmps36
    go_upto_region 1 with fail
    (try rw [hg])
    clear hW0
    go_wp2_with (first | ((with_reducible refine at_store 29 (.tmp 4) (.tmp 27) ?_); refine wpList_store_row rfl 29 (.tmp 4) (.tmp 27) rfl g (pgV x) rfl rfl 29 _ KR.out (HSZ.out _) rfl (HPX.out _) ?_) | ((with_reducible refine at_load 29 (.tmp 26) ?_); refine wpList_load_pg rfl (.tmp 26) rfl b (o + i * 13) (by simp [Act.eval, Act.put]) R.out ?_) | (go_at_call 52; (with_reducible refine Calls.mono (WH.out _ HWD.out HV.out) ?_); rintro e1 w1 ⟨rfl, hb1⟩; replace HW := Lib.hid (HW.out.trans hb1); replace KR := Lib.hid (KR.out.bw hb1); replace HV := Lib.hid (HV.out.mono hb1); replace R := Lib.hid (rg_bw R.out hb1); clear hb1) | (go_at_call 53; (with_reducible refine Calls.mono (FI.out _ HV.out) ?_); rintro e1 w2 ⟨rfl, hb1⟩; replace HW := Lib.hid (HW.out.trans hb1); replace KR := Lib.hid (KR.out.bw hb1); replace HV := Lib.hid (HV.out.mono hb1); replace R := Lib.hid (rg_bw R.out hb1); clear hb1))
    refine bodyPost_ret (v := .tuple #[.agg (pgV x), .int .i64 0]) ?_ rfl ⟨rfl, Bw.setRow HW.out (Nat.le_of_eq hg) _⟩
    exact results_two_row (p := 4) (u := 5) rfl _ _ g _ rfl (run_loadVar_row _ g 29 29 (pgV x) (0, 0) _ (KR.out.row _) Tryd.underlying29 rfl (by kernel_rfl))
  · obtain ⟨hlen, hok, ha⟩ := errRow_zero h1
    obtain ⟨i, hp⟩ := pos_ex ha n
    have FI := Lib.hid (fun W hV => find27_any ps (by omega) n i hp v W hV)
    rw [show thG ps n i = false from decide_eq_false (fun h9 => h2 i h9.1 h9.2)] at FI
    rw [h1] at WH
    rw [h3, h4]
    clear hp ha hok HQ h1 h2 h3 h4
    go_enter Tryd.func36, Tryd.ntmps36
    go_upto_region 1 with fail
    (try rw [hg])
    clear hW0
    go_wp2_with (first | ((with_reducible refine at_store 29 (.tmp 4) (.tmp 23) ?_); refine wpList_store_row rfl 29 (.tmp 4) (.tmp 23) rfl g (pgV zrX) rfl rfl 29 _ KR.out (HSZ.out _) rfl (HPX.out _) ?_) | (go_at_call 52; (with_reducible refine Calls.mono (WH.out _ HWD.out HV.out) ?_); rintro e1 w1 ⟨rfl, hb1⟩; replace HW := Lib.hid (HW.out.trans hb1); replace KR := Lib.hid (KR.out.bw hb1); replace HV := Lib.hid (HV.out.mono hb1); clear hb1) | (go_at_call 53; (with_reducible refine Calls.mono (FI.out _ HV.out) ?_); rintro e1 w2 ⟨rfl, hb1⟩; replace HW := Lib.hid (HW.out.trans hb1); replace KR := Lib.hid (KR.out.bw hb1); replace HV := Lib.hid (HV.out.mono hb1); clear hb1))
    refine bodyPost_ret (v := .tuple #[.agg (pgV zrX), .int .i64 18]) ?_ rfl ⟨rfl, Bw.setRow HW.out (Nat.le_of_eq hg) _⟩
    exact results_two_row (p := 4) (u := 5) rfl _ _ g _ rfl (run_loadVar_row _ g 29 29 (pgV zrX) (0, 0) _ (KR.out.row _) Tryd.underlying29 rfl (by kernel_rfl))
end Go.Proofs.Sky
