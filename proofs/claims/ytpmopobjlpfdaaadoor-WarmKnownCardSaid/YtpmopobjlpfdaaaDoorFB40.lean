/-
  lemmas for the theorems of this claim. No conditions beyond those written in the statements.
-/
import Derived.Test.YtpmopobjlpfdaaaDoorNP40
import Derived.Laws.StructEq
import Derived.Test.YtpmopobjlpfdaaaDoorBlkC
import Derived.Test.YtpmopobjlpfdaaaDoorFA25
import Derived.Test.YtpmopobjlpfdaaaDoorFD27
import Derived.Test.YtpmopobjlpfdaaaDoorPW40
set_option linter.unusedVariables false
set_option linter.unusedSimpArgs false
set_option linter.unnecessarySimpa false
namespace Go.Proofs.Sky
open Go Go.RowKit Go.Shelf
attribute [local go_sem] Oper.semAt_some
set_option maxHeartbeats 4000000
set_option maxRecDepth 8000
/-! chapter 40: the examples -/
theorem eqH_self (a b c d e f : Int) (w : World) : (Op.equalIn 10000 23 (.agg #[.int .i64 a, .int .i64 b, .int .i64 c, .int .i64 d, .int .i64 e, .int .i64 f]) (.agg #[.int .i64 a, .int .i64 b, .int .i64 c, .int .i64 d, .int .i64 e, .int .i64 f])).run Tryd.prog w = .ok true w := by
  rw [show (10000 : Nat) = 9998 + 1 + 1 from rfl, run_equalIn_agg _ _ _ _ _ (by kernel_rfl) (by kernel_rfl)]
  simp only [Program.fieldsOf, Tryd.underlying23]
  have h1 : ∀ w, (sizeOf 3).run Tryd.prog w = .ok 1 w := fun w => by kernel_rfl
  have hi : Tryd.prog.underlying 3 = some (.int .i64) := by kernel_rfl
  simp [Op.eqFields, part, h1, go_sem, run_underlying hi, run_equalIn_int _ _ _ _ _ _ _ hi]
theorem eqH_guard (x y : Array Value) (op : BinOp) (p q : Operand) (w : World) : (eqGuard op 23 p q (.agg x) (.agg y)).run Tryd.prog w = .ok () w := run_eqGuard_agg w op _ _ _ _ _ (by kernel_rfl)
def plX4 : Nat → Int := fun i => [3, 1000, 0, 0, 400000, 0, 0, 0, 0, 0, 0, 0, 0].getD i 0
theorem plain40_any (w : World) : Calls Tryd.prog 8 #[] w fun e w' => e = .returned (.agg (pgV plX4)) ∧ Bw w w' := by
  have KR := Lib.hid (Blk.new w 29 #[.int .i64 0, .int .i64 0, .int .i64 0, .int .i64 0, .int .i64 0, .int .i64 0, .int .i64 0, .int .i64 0, .int .i64 0, .int .i64 0, .int .i64 0, .int .i64 0, .int .i64 0])
  have HW := Lib.hid (Bw.alloc (Bw.refl w) (.cells #[.int .i64 0, .int .i64 0, .int .i64 0, .int .i64 0, .int .i64 0, .int .i64 0, .int .i64 0, .int .i64 0, .int .i64 0, .int .i64 0, .int .i64 0, .int .i64 0, .int .i64 0] 29))
  go_enter Tryd.func8, Tryd.ntmps8
  go_wp2_with ((with_reducible refine at_store 29 (.tmp 0) (.tmp 2) ?_); refine wpList_store_row rfl 29 (.tmp 0) (.tmp 2) rfl w.heap.size (pgV plX4) rfl rfl 29 _ KR.out (by kernel_rfl) rfl (by simp [Value.oneCell', pgV]) ?_)
  refine bodyPost_ret (v := .agg (pgV plX4)) ?_ rfl ⟨rfl, Bw.setRow HW.out (Nat.le_refl _) _⟩
  exact results_cell_row (p := 0) rfl _ _ w.heap.size _ _ (0, 0) _ rfl (KR.out.row _) Tryd.underlying29 rfl (by kernel_rfl)
theorem at40_any (x : Int) (w : World) : Calls Tryd.prog 9 #[.int .i64 x] w fun e w' => e = .returned (.agg #[.int .i64 x, .int .i64 0, .int .i64 0]) ∧ Bw w w' := by
  have KR := Lib.hid (Blk.new w 32 #[.int .i64 0, .int .i64 0, .int .i64 0])
  have HW := Lib.hid (Bw.alloc (Bw.refl w) (.cells #[.int .i64 0, .int .i64 0, .int .i64 0] 32))
  go_enter Tryd.func9, Tryd.ntmps9
  go_wp2_with ((with_reducible refine at_store 32 (.tmp 2) (.tmp 4) ?_); refine wpList_store_row rfl 32 (.tmp 2) (.tmp 4) rfl w.heap.size #[.int .i64 x, .int .i64 0, .int .i64 0] rfl rfl 32 _ KR.out (by kernel_rfl) rfl (by simp [Value.oneCell']) ?_)
  refine bodyPost_ret (v := .agg #[.int .i64 x, .int .i64 0, .int .i64 0]) ?_ rfl ⟨rfl, Bw.setRow HW.out (Nat.le_refl _) _⟩
  exact results_cell_row (p := 2) rfl _ _ w.heap.size _ _ (0, 0) _ rfl (KR.out.row _) Tryd.underlying32 rfl (by kernel_rfl)
def qA : Nat → Int := X0p plX4 6400000 0 0 0 1000 0 0 1000
def qB : Nat → Int := X0p plX4 (-6400000) 0 0 0 1000 0 0 1000
theorem qA_ok : prE qA = 0 := by kernel_rfl
theorem qB_ok : prE qB = 0 := by kernel_rfl
theorem qA_s : sK40 (pr3 qA) 3 = 368640000000000 := by kernel_rfl
theorem qB_s : sK40 (pr3 qB) 3 = 1024000000000000 := by kernel_rfl
theorem qA_h : hV (pr4 qA 19200000) = #[.int .i64 3, .int .i64 1, .int .i64 19199998, .int .i64 19200003, .int .i64 44, .int .i64 1] := by kernel_rfl
theorem qB_h : ∃ n f l m, hV (pr4 qB 32000000) = #[.int .i64 3, .int .i64 (-1), .int .i64 n, .int .i64 f, .int .i64 l, .int .i64 m] := ⟨(pr4 qB 32000000) 28, (pr4 qB 32000000) 29, (pr4 qB 32000000) 30, (pr4 qB 32000000) 31, by
  unfold hV
  rw [show pr4 qB 32000000 26 = 3 by kernel_rfl, show pr4 qB 32000000 27 = -1 by kernel_rfl]⟩
theorem awake40_any (w : World) (hw : WdAt w) : Calls Tryd.prog 14 #[] w fun e w' => e = .returned (.bool true) ∧ Bw w w' := by
  have HWD := Lib.hid hw
  have PLN := Lib.hid (fun W => plain40_any W)
  have AT := Lib.hid (fun x W => at40_any x W)
  have PA := Lib.hid (fun W h => Predict_ok plX4 6400000 0 0 0 1000 0 0 1000 19200000 W h qA_ok (fun k hk => by match k, hk with | 0, _ | 1, _ | 2, _ => decide) (by decide) (by show _ ≤ sK40 (pr3 qA) 3; rw [qA_s]; decide) (by show sK40 (pr3 qA) 3 < _; rw [qA_s]; decide))
  have PB := Lib.hid (fun W h => Predict_ok plX4 (-6400000) 0 0 0 1000 0 0 1000 32000000 W h qB_ok (fun k hk => by match k, hk with | 0, _ | 1, _ | 2, _ => decide) (by decide) (by show _ ≤ sK40 (pr3 qB) 3; rw [qB_s]; decide) (by show sK40 (pr3 qB) 3 < _; rw [qB_s]; decide))
  have FI := Lib.hid (fun W => Fits_ok 0 0 0 0 998 3 0 1000 W (by decide) (by decide) (by decide) (by decide))
  rw [show decide (((0 : Int) - 998 + 1000) % 1000 < 3) = true from by decide] at FI
  obtain ⟨n, f, l, m, hqb⟩ := qB_h
  have ea := qA_h
  unfold qA at ea
  unfold qB at hqb
  rw [ea] at PA
  rw [hqb] at PB
  have hq2 := fun a b c d e f W => eqH_self a b c d e f W
  have hgg := fun W a b op p q => eqH_guard a b op p q W
  clear ea hqb hw
  obtain ⟨A, hA⟩ : ∃ A, A = pgV plX4 := ⟨_, rfl⟩
  rw [← hA] at PLN PA PB
  clear hA
  have HW := Lib.hid (Bw.refl w)
  have HZ6 := Lib.hid (fun (W : World) => Blk.new W 23 #[.int .i64 0, .int .i64 0, .int .i64 0, .int .i64 0, .int .i64 0, .int .i64 0])
  go_enter Tryd.func14, Tryd.ntmps14
  go_upto_region 2 with (first | (go_at_call 8; (with_reducible refine Calls.mono (PLN.out _) ?_); rintro e1 w1 ⟨rfl, hb1⟩; replace HW := Lib.hid (HW.out.trans hb1); clear hb1) | (go_at_call 9; (with_reducible refine Calls.mono (AT.out _ _) ?_); rintro e1 w1 ⟨rfl, hb1⟩; replace HW := Lib.hid (HW.out.trans hb1); clear hb1) | (go_at_call 7; (with_reducible refine Calls.mono (PA.out _ (HWD.out.bw HW.out)) ?_); rintro e1 w1 ⟨rfl, hb1⟩; replace HW := Lib.hid (HW.out.trans hb1); clear hb1) | ((with_reducible refine at_store 23 (.tmp 1) (.tmp 11) ?_); refine wpList_store_row rfl 23 (.tmp 1) (.tmp 11) rfl w1.heap.size #[.int .i64 3, .int .i64 1, .int .i64 19199998, .int .i64 19200003, .int .i64 44, .int .i64 1] rfl rfl 23 #[.int .i64 0, .int .i64 0, .int .i64 0, .int .i64 0, .int .i64 0, .int .i64 0] (HZ6.out w1) (by kernel_rfl) rfl (by simp [Value.oneCell']) ?_))
  obtain ⟨g1, hg1⟩ : ∃ g1, w1.heap.size = g1 := ⟨_, rfl⟩
  have hb2 := Bw.setRow (Bw.alloc (Bw.refl w1) (.cells #[.int .i64 0, .int .i64 0, .int .i64 0, .int .i64 0, .int .i64 0, .int .i64 0] 23)) (Nat.le_of_eq hg1) #[.int .i64 3, .int .i64 1, .int .i64 19199998, .int .i64 19200003, .int .i64 44, .int .i64 1]
  have K1 := Lib.hid ((HZ6.out w1).row #[.int .i64 3, .int .i64 1, .int .i64 19199998, .int .i64 19200003, .int .i64 44, .int .i64 1])
  rw [hg1] at K1 ⊢
  replace HW := Lib.hid (HW.out.trans hb2)
  generalize World.setRow (World.alloc w1 _) _ _ = w1 at *
  clear hb2 hg1
  (try simp only [Act.put])
  go_upto_region 3 with (first | (go_at_call 8; (with_reducible refine Calls.mono (PLN.out _) ?_); rintro e1 w1 ⟨rfl, hb1⟩; replace K1 := Lib.hid (K1.out.bw hb1); replace HW := Lib.hid (HW.out.trans hb1); clear hb1) | (go_at_call 9; (with_reducible refine Calls.mono (AT.out _ _) ?_); rintro e1 w1 ⟨rfl, hb1⟩; replace K1 := Lib.hid (K1.out.bw hb1); replace HW := Lib.hid (HW.out.trans hb1); clear hb1) | (go_at_call 7; (with_reducible refine Calls.mono (PB.out _ (HWD.out.bw HW.out)) ?_); rintro e1 w1 ⟨rfl, hb1⟩; replace HW := Lib.hid (HW.out.trans hb1); replace K1 := Lib.hid (K1.out.bw hb1); clear hb1) | ((with_reducible refine at_store 23 (.tmp 3) (.tmp 17) ?_); refine wpList_store_row rfl 23 (.tmp 3) (.tmp 17) rfl w1.heap.size #[.int .i64 3, .int .i64 (-1), .int .i64 n, .int .i64 f, .int .i64 l, .int .i64 m] rfl rfl 23 #[.int .i64 0, .int .i64 0, .int .i64 0, .int .i64 0, .int .i64 0, .int .i64 0] (HZ6.out w1) (by kernel_rfl) rfl (by simp [Value.oneCell']) ?_))
  obtain ⟨g3, hg3⟩ : ∃ g3, w1.heap.size = g3 := ⟨_, rfl⟩
  have hb2 := Bw.setRow (Bw.alloc (Bw.refl w1) (.cells #[.int .i64 0, .int .i64 0, .int .i64 0, .int .i64 0, .int .i64 0, .int .i64 0] 23)) (Nat.le_of_eq hg3) #[.int .i64 3, .int .i64 (-1), .int .i64 n, .int .i64 f, .int .i64 l, .int .i64 m]
  have K3 := Lib.hid ((HZ6.out w1).row #[.int .i64 3, .int .i64 (-1), .int .i64 n, .int .i64 f, .int .i64 l, .int .i64 m])
  rw [hg3] at K3 ⊢
  replace HW := Lib.hid (HW.out.trans hb2)
  replace K1 := Lib.hid (K1.out.bw hb2)
  generalize World.setRow (World.alloc w1 _) _ _ = w1 at *
  clear hb2 hg3
  (try simp only [Act.put])
  go_upto_region 4 with ((go_at_call 11; (with_reducible refine Calls.mono (FI.out _) ?_); rintro e1 w1 ⟨rfl, hb1⟩; replace HW := Lib.hid (HW.out.trans hb1); replace K1 := Lib.hid (K1.out.bw hb1); replace K3 := Lib.hid (K3.out.bw hb1); clear hb1))
  have d1 := K3.out.cell (show (#[.int .i64 3, .int .i64 (-1), .int .i64 n, .int .i64 f, .int .i64 l, .int .i64 m] : Array Value)[1]? = some (.int .i64 (-1)) from rfl)
  go_wp2_with ((with_reducible refine at_load 23 (.tmp 1) ?_); refine wpList_load_row rfl 23 _ rfl g1 rfl 23 #[.int .i64 3, .int .i64 1, .int .i64 19199998, .int .i64 19200003, .int .i64 44, .int .i64 1] (0, 0) _ K1.out Tryd.underlying23 rfl (by kernel_rfl) ?_)
  go_ret
  exact ⟨rfl, HW.out⟩
end Go.Proofs.Sky

namespace Go.Proofs.Sky
open Go Go.RowKit Go.Shelf
set_option maxHeartbeats 2000000
set_option maxRecDepth 8000
/-! chapter 40: rows of hints -/
def hnV (x : Nat → Int) : Array Value := #[.int .i64 (x 0), .int .i64 (x 1), .int .i64 (x 2), .int .i64 (x 3), .int .i64 (x 4), .int .i64 (x 5)]
def hnc (x : Nat → Int) : List Value := (hnV x).toList
theorem hnc_len (x : Nat → Int) : (hnc x).length = 6 := rfl
theorem hnc_arr (x : Nat → Int) : (hnc x).toArray = hnV x := rfl
theorem hnc_at (x : Nat → Int) (j : Nat) (hj : j < 6) : (hnc x)[j]? = some (.int .i64 (x j)) := by
  have : j = 0 ∨ j = 1 ∨ j = 2 ∨ j = 3 ∨ j = 4 ∨ j = 5 := by omega
  rcases this with rfl | rfl | rfl | rfl | rfl | rfl <;> rfl
theorem hnc_one (x : Nat → Int) : ∀ u ∈ hnc x, u.oneCell' = true := fun u hu => by
  simp only [hnc, hnV, List.mem_cons, List.not_mem_nil, or_false] at hu
  rcases hu with rfl | rfl | rfl | rfl | rfl | rfl <;> rfl
def flatH (ps : List (Nat → Int)) : List Value := ps.flatMap hnc
theorem flatH_append (fs gs : List (Nat → Int)) : flatH (fs ++ gs) = flatH fs ++ flatH gs := by simp [flatH]
theorem flatH_one (f : Nat → Int) : flatH [f] = hnc f := by simp [flatH]
theorem flatH_cons (f : Nat → Int) (r : List (Nat → Int)) : flatH (f :: r) = hnc f ++ flatH r := rfl
theorem flatH_len (fs : List (Nat → Int)) : (flatH fs).length = fs.length * 6 := by
  induction fs with
  | nil => rfl
  | cons f r ih => rw [flatH_cons, List.length_append, ih, List.length_cons, hnc_len]; omega
theorem flatH_one' (fs : List (Nat → Int)) : ∀ u ∈ flatH fs, u.oneCell' = true := fun u hu => by
  obtain ⟨x, _, h⟩ := List.mem_flatMap.1 hu
  exact hnc_one x u h
theorem flatH_at (fs : List (Nat → Int)) : ∀ (i : Nat) (f : Nat → Int), fs[i]? = some f → ∀ j, j < 6 → (flatH fs)[i * 6 + j]? = (hnc f)[j]? := by
  induction fs with
  | nil => intro i f h; simp at h
  | cons g r ih =>
    intro i f h j hj
    rw [flatH_cons]
    cases i with
    | zero =>
      simp only [List.getElem?_cons_zero, Option.some.injEq] at h
      subst h
      rw [List.getElem?_append_left (by rw [hnc_len]; omega)]
      congr 1; omega
    | succ i =>
      rw [List.getElem?_cons_succ] at h
      rw [List.getElem?_append_right (by rw [hnc_len]; omega)]
      rw [← ih i f h j hj]
      congr 1; rw [hnc_len]; omega
theorem flatH_take (fs : List (Nat → Int)) : ∀ k, flatH (fs.take k) = (flatH fs).take (k * 6) := by
  induction fs with
  | nil => intro k; simp [flatH]
  | cons g r ih =>
    intro k
    cases k with
    | zero => simp [flatH]
    | succ k =>
      rw [List.take_succ_cons, flatH_cons, flatH_cons, ih, List.take_append, hnc_len, List.take_of_length_le (l := hnc g) (by rw [hnc_len]; omega), show (k + 1) * 6 - 6 = k * 6 by omega]
theorem flatH_drop (fs : List (Nat → Int)) : ∀ k, flatH (fs.drop k) = (flatH fs).drop (k * 6) := by
  induction fs with
  | nil => intro k; simp [flatH]
  | cons g r ih =>
    intro k
    cases k with
    | zero => simp
    | succ k =>
      rw [List.drop_succ_cons, flatH_cons, ih, List.drop_append, hnc_len, show List.drop ((k + 1) * 6) (hnc g) = [] from List.drop_eq_nil_of_le (by rw [hnc_len]; omega), List.nil_append, show (k + 1) * 6 - 6 = k * 6 by omega]
def RdH (w : World) (v : Value) (ps : List (Nat → Int)) : Prop :=
  ps.length ≤ 9223372036854775807 ∧ ∃ a cap, v = .slice a ps.length cap ∧ (ps = [] ∨ ∃ b off, a = some ⟨b, off, none⟩ ∧ b < w.heap.size ∧ ∀ i x, ps[i]? = some x → w.rangeAt b (off + i * 6) (hnc x))
theorem RdH.mono {w w' : World} {v : Value} {fs : List (Nat → Int)} (h : RdH w v fs) (hb : Bw w w') : RdH w' v fs := by
  obtain ⟨h2, a, cap, h3, h4⟩ := h
  refine ⟨h2, a, cap, h3, ?_⟩
  rcases h4 with h4 | ⟨b, off, h5, h6, h7⟩
  · exact .inl h4
  · exact .inr ⟨b, off, h5, Nat.lt_of_lt_of_le h6 hb.size, fun i f hi j u hu => hb.cell' (h7 i f hi j u hu)⟩
theorem RdH.form {w : World} {v : Value} {fs : List (Nat → Int)} (h : RdH w v fs) : ∃ a c, v = .slice a fs.length c := by obtain ⟨_, a, c, h, _⟩ := h; exact ⟨a, c, h⟩
theorem RdH.nil (w : World) : RdH w (.slice none 0 0) [] := ⟨by simp, none, 0, rfl, .inl rfl⟩
theorem RdH.at {w : World} {v : Value} {ps : List (Nat → Int)} (h : RdH w v ps) (h0 : 0 < ps.length) : ∃ b off c, v = .slice (some ⟨b, off, none⟩) ps.length c ∧ b < w.heap.size ∧ ∀ i x, ps[i]? = some x → w.rangeAt b (off + i * 6) (hnc x) := by
  obtain ⟨_, a, c, hv, h4⟩ := h
  rcases h4 with rfl | ⟨b, off, rfl, h6, h7⟩
  · simp at h0
  · exact ⟨b, off, c, hv, h6, h7⟩
theorem own_rdH {w : World} {base : Nat} {e : TypeId} {v : Value} {fs : List (Nat → Int)} (h : w.ownsRow base e 6 v fs.length (flatH fs)) (hn : fs.length ≤ 9223372036854775807) : RdH w v fs ∧ Fresh base v := by
  have h' := h
  rcases h'.2 with ⟨rfl, h2⟩ | ⟨g, cap, cur, rfl, hg, hh, _⟩
  · obtain rfl : fs = [] := List.length_eq_zero_iff.1 h2
    exact ⟨RdH.nil w, Fresh.nil _ _ _⟩
  · refine ⟨⟨hn, some ⟨g, 0, none⟩, cap, rfl, .inr ⟨g, 0, rfl, (Array.getElem?_eq_some_iff.1 hh).1, fun i f hi j u hu => ?_⟩⟩, Fresh.at hg⟩
    have hil : i < fs.length := (List.getElem?_eq_some_iff.1 hi).1
    have hj : j < 6 := (List.getElem?_eq_some_iff.1 hu).1
    rw [Nat.zero_add]
    exact (h.cellAt (i * 6 + j) (by omega)).trans ((flatH_at fs i f hi j hj).trans hu)
theorem infoHn : (Tryd.prog.info? 23).map (fun i => (i.zero, i.size, i.bytes)) = some (some (.agg #[.int .i64 0, .int .i64 0, .int .i64 0, .int .i64 0, .int .i64 0, .int .i64 0]), 6, 48) := by kernel_rfl
section
variable {ops : Array Oper} {rest : List Oper} {o : Oper} {a : Act} {w : World} {K : Act → World → Prop} {Q : Exit → Act → World → Prop}
theorem rg_newsH {w : World} {b off : Nat} {cs : List Value} (hb : w.rangeAt b off cs) : ∀ (j : Nat) (u : Value), cs[j]? = some u → w.cell? ((⟨b, off, none⟩ : Addr).add j) = some u := fun j u hu => by
  rw [Addr.add_mid]; exact hb j u hu
theorem blk_rgH {w : World} {b : Nat} {T : TypeId} {cs : List Value} (hb : Blk w b T cs.toArray) : w.rangeAt b 0 cs := fun j u hu => by
  rw [Nat.zero_add]; exact hb.cell (j := j) (v := u) (by simpa using hu)
/-- a row of pages behind a row of the call's own -/
theorem wp_append_hns (s x : Operand) (t : TypeId)
    (ho : o.op = .call { callee := .builtin .append, args := #[s, x], argTypes := #[t, t] }) (dst : Option Tmp) (hd : o.dst = dst)
    (base : Nat) (ht : Tryd.prog.underlying t = some (.slice 23))
    (v : Value) (fs gs : List (Nat → Int)) (hs : a.eval s = v) (hown : w.ownsRow base 23 6 v fs.length (flatH fs))
    (b off c : Nat) (hx : a.eval x = .slice (some ⟨b, off, none⟩) gs.length c) (hb : ∀ i x, gs[i]? = some x → w.rangeAt b (off + i * 6) (hnc x))
    (hn : fs.length + gs.length ≤ 1000000) (hbase : base ≤ w.heap.size)
    (h : ∀ v' w', w'.ownsRow base 23 6 v' (fs ++ gs).length (flatH (fs ++ gs)) → w.grownBy w' v.ownBlock → (v' = .slice none 0 0 ↔ v = .slice none 0 0 ∧ gs.length = 0) → K (a.put dst v') w') : o.wp Tryd.prog a w K Q := by
  subst hd
  obtain ⟨i, hi, hzz⟩ := Option.map_eq_some_iff.1 infoHn
  simp only [Prod.mk.injEq] at hzz
  obtain ⟨hz0, hz1, hz2⟩ := hzz
  refine wp_append_own w s x t ho base 23 i _ 6 48 ht hi hz0 hz1 hz2 rfl (by decide) v fs.length (flatH fs) hs hown ⟨b, off, none⟩ gs.length c (flatH gs) hx (flatH_len gs) (fun j u hu => ?_) (flatH_one' gs) (by unfold maxLen; omega) (by omega) hbase (fun v' w' h2 h3 h4 => h v' w' ?_ h3 h4)
  · have hj : j < gs.length * 6 := by have := (List.getElem?_eq_some_iff.1 hu).1; rwa [flatH_len] at this
    have hq : j / 6 < gs.length := by omega
    have hf := flatH_at gs (j / 6) _ (List.getElem?_eq_getElem hq) (j % 6) (by omega)
    rw [show j / 6 * 6 + j % 6 = j by omega, hu] at hf
    rw [Addr.add_mid]
    have h9 := hb (j / 6) _ (List.getElem?_eq_getElem hq) (j % 6) u hf.symm
    rwa [show off + j / 6 * 6 + j % 6 = off + j by omega] at h9
  · rw [flatH_append, List.length_append]; exact h2
theorem wpList_append_hns (hgd : o.guard = none) (s x : Operand) (t : TypeId)
    (ho : o.op = .call { callee := .builtin .append, args := #[s, x], argTypes := #[t, t] })
    (base : Nat) (ht : Tryd.prog.underlying t = some (.slice 23))
    (v : Value) (fs gs : List (Nat → Int)) (hs : a.eval s = v) (hown : w.ownsRow base 23 6 v fs.length (flatH fs))
    (b off c : Nat) (hx : a.eval x = .slice (some ⟨b, off, none⟩) gs.length c) (hb : ∀ i x, gs[i]? = some x → w.rangeAt b (off + i * 6) (hnc x))
    (hn : fs.length + gs.length ≤ 1000000) (hbase : base ≤ w.heap.size)
    (h : ∀ v' w', w'.ownsRow base 23 6 v' (fs ++ gs).length (flatH (fs ++ gs)) → w.grownBy w' v.ownBlock → (v' = .slice none 0 0 ↔ v = .slice none 0 0 ∧ gs.length = 0) → wpList Tryd.prog ops Q rest (a.put o.dst v') w') : wpList Tryd.prog ops Q (o :: rest) a w :=
  wpList_plain hgd fun _ hK => wp_append_hns s x t ho o.dst rfl base ht v fs gs hs hown b off c hx hb hn hbase (fun v' w' h1 h2 h3 => hK _ _ (h v' w' h1 h2 h3))
theorem wpList_append_noneH (hgd : o.guard = none) (s x : Operand) (t : TypeId)
    (ho : o.op = .call { callee := .builtin .append, args := #[s, x], argTypes := #[t, t] })
    (base : Nat) (ht : Tryd.prog.underlying t = some (.slice 23))
    (v : Value) (fs : List (Nat → Int)) (hs : a.eval s = v) (hown : w.ownsRow base 23 6 v fs.length (flatH fs))
    (ad : Addr) (c : Nat) (hx : a.eval x = .slice (some ad) 0 c)
    (hn : fs.length ≤ 1000000) (hbase : base ≤ w.heap.size)
    (h : ∀ v' w', w'.ownsRow base 23 6 v' fs.length (flatH fs) → w.grownBy w' v.ownBlock → (v' = .slice none 0 0 ↔ v = .slice none 0 0) → wpList Tryd.prog ops Q rest (a.put o.dst v') w') : wpList Tryd.prog ops Q (o :: rest) a w := by
  obtain ⟨i, hi, hzz⟩ := Option.map_eq_some_iff.1 infoHn
  simp only [Prod.mk.injEq] at hzz
  obtain ⟨hz0, hz1, hz2⟩ := hzz
  refine wpList_append_own w hgd s x t ho base 23 i _ 6 48 ht hi hz0 hz1 hz2 rfl (by decide) v fs.length (flatH fs) hs hown ad 0 c [] hx rfl (fun j u hu => by simp at hu) (fun u hu => by simp at hu) (by unfold maxLen; omega) (by omega) hbase (fun v' w' h2 h3 h4 => h v' w' (by simpa using h2) h3 (by simpa using h4))
theorem run_load_hn {ρ : Operand → Value} (x : Operand) (ho : o.op = .load 23 x) (g b : Nat) (hx : ρ x = .pointer (some ⟨g, b, none⟩)) {y : Nat → Int} (hB : w.rangeAt g b (hnc y)) : (execOp ρ o).run Tryd.prog w = .ok (.value (.agg (hnV y))) w := by
  have h9 : (Instr.loadAt 23 (.pointer (some ⟨g, b, none⟩))).run Tryd.prog w = .ok (.agg (hnV y)) w := run_loadAt_mid w g b 23 _ _ hB Tryd.underlying23 rfl (by kernel_rfl)
  unfold execOp
  simp only [ho, hx, Sem.run_bind, Sem.run_pure, Result.andThen_ok, h9]
theorem wp_load_hn (x : Operand) (ho : o.op = .load 23 x) (dst : Option Tmp) (hd : o.dst = dst) (g b : Nat) (hx : a.eval x = .pointer (some ⟨g, b, none⟩)) {y : Nat → Int} (hB : w.rangeAt g b (hnc y))
    (h : K (a.put dst (.agg (hnV y))) w) : o.wp Tryd.prog a w K Q := by
  subst hd
  unfold Oper.wp
  rw [run_load_hn x ho g b hx hB]
  exact h
theorem wpList_load_hn (hgd : o.guard = none) (x : Operand) (ho : o.op = .load 23 x) (g b : Nat) (hx : a.eval x = .pointer (some ⟨g, b, none⟩)) {y : Nat → Int} (hB : w.rangeAt g b (hnc y))
    (h : wpList Tryd.prog ops Q rest (a.put o.dst (.agg (hnV y))) w) : wpList Tryd.prog ops Q (o :: rest) a w :=
  wpList_plain hgd fun _ hK => wp_load_hn x ho o.dst rfl g b hx hB (hK _ _ h)
theorem wpList_load_hn_w (hw : Region.wanted o (yielded ops a.tmps) = true) (x : Operand) (ho : o.op = .load 23 x) (g b : Nat) (hx : a.eval x = .pointer (some ⟨g, b, none⟩)) {y : Nat → Int} (hB : w.rangeAt g b (hnc y))
    (h : wpList Tryd.prog ops Q rest (a.put o.dst (.agg (hnV y))) w) : wpList Tryd.prog ops Q (o :: rest) a w :=
  wpList_step fun K hK => by
    rw [if_pos hw]
    exact wp_load_hn x ho o.dst rfl g b hx hB (hK _ _ h)
end
theorem rg_oneH {w : World} {b : Nat} {x : Nat → Int} (h : w.rangeAt b 0 (hnc x)) : ∀ i y, [x][i]? = some y → w.rangeAt b (0 + i * 6) (hnc y) := fun i y hi => by
  cases i with
  | zero => simp at hi; subst hi; exact h
  | succ i => simp at hi
end Go.Proofs.Sky

namespace Go.Proofs.Sky
open Go Go.RowKit Go.Shelf
attribute [local go_sem] Oper.semAt_some
set_option maxHeartbeats 4000000
set_option maxRecDepth 8000
/-! chapter 40: warm.All on one page that is too old, and on none -/
theorem qV_one (x : Nat → Int) : (qV x).all (·.oneCell') = true := by
  rw [Array.all_eq_true_iff_forall_mem]
  intro v hv
  unfold qV at hv
  simp only [List.mem_toArray, List.mem_map] at hv
  obtain ⟨i, _, rfl⟩ := hv
  rfl
theorem find_pl : FindQ [plX4] 1 zrX 18 := .inr (.inr ⟨errRow_ok (by decide) (fun i hi => by match i, hi with | 0, _ => exact (show errPg plX4 = 0 by kernel_rfl)) (fun i hi => by simp at hi), fun i hi => by match i, hi with | 0, _ => exact (show plX4 0 ≠ 1 by decide), rfl, rfl⟩)
theorem qO_err : prE (X0p plX4 6400000 0 0 0 20000 0 0 1000) = 17 := by kernel_rfl
theorem find_no : FindQ [] 1 zrX 18 := .inr (.inr ⟨errRow_ok (by decide) (fun i hi => by simp at hi) (fun i hi => by simp at hi), fun i hi => by simp at hi, rfl, rfl⟩)
theorem all_old (v : Value) (w : World) (hv : RdG w v [plX4]) (hw : WdAt w) : Calls Tryd.prog 12 #[v, .agg #[.int .i64 6400000, .int .i64 0, .int .i64 0], .int .i64 0, .int .i64 20000, .int .i64 0, .int .i64 0, .int .i64 1000] w fun e w' => e = .returned (.tuple #[.slice none 0 0, .int .i64 0]) ∧ Bw w w' := by
  have HX := Lib.hid (X0_arr zrX 6400000 0 0 0 20000 0 0 1000)
  have FD := Lib.hid (fun v W h hv => AlFind_any [plX4] 1 zrX 18 find_pl v W h hv)
  have HV := Lib.hid hv
  obtain ⟨b, off, c9, rfl, hb9, hz9⟩ := hv.at (by decide)
  have R0 := Lib.hid (show w.rangeAt b (off + 0 * 13) (pgc plX4) from hz9 0 _ rfl)
  clear hv hz9
  simp only [List.length_singleton] at HV ⊢
  have HSZ : Hid ((Tryd.prog.info? 29).map (·.size) = some (pgV plX4).size) := Lib.hid (by kernel_rfl)
  have HPX : Hid ((pgV plX4).all (·.oneCell') = true) := Lib.hid (by simp [Value.oneCell', pgV])
  have HZ6 := Lib.hid (fun (W : World) => Blk.new W 23 #[.int .i64 0, .int .i64 0, .int .i64 0, .int .i64 0, .int .i64 0, .int .i64 0])
  have PE := Lib.hid (fun W h => Predict_err plX4 6400000 0 0 0 20000 0 0 1000 W h (by rw [qO_err]; decide) (fun k hk => by match k, hk with | 0, _ | 1, _ | 2, _ => decide))
  rw [qO_err] at PE
  have RG := Lib.hid (fun g W h => ranged40_any (X0p zrX 6400000 0 0 0 20000 0 0 1000) g W h (fun k hk => by match k, hk with | 0, _ | 1, _ | 2, _ => decide))
  rw [show rgB (X0p zrX 6400000 0 0 0 20000 0 0 1000) = true by kernel_rfl] at RG
  have K8 := Lib.hid (Blk.new w 32 #[.int .i64 6400000, .int .i64 0, .int .i64 0])
  have HB0 := Bw.alloc (Bw.refl w) (.cells #[.int .i64 6400000, .int .i64 0, .int .i64 0] 32)
  obtain ⟨g, hg⟩ : ∃ g, w.heap.size = g := ⟨_, rfl⟩
  have HG := Lib.hid hg
  have HZ13 := Lib.hid (fun (W : World) => Blk.new W 29 #[.int .i64 0, .int .i64 0, .int .i64 0, .int .i64 0, .int .i64 0, .int .i64 0, .int .i64 0, .int .i64 0, .int .i64 0, .int .i64 0, .int .i64 0, .int .i64 0, .int .i64 0])
  have HW := Lib.hid HB0
  have HWD := Lib.hid hw
  clear hw HB0
  go_enter Tryd.func12, Tryd.ntmps12
  go_upto_region 1 with fail
  rw [hg] at K8
  (try rw [hg])
  generalize w.alloc _ = W0 at *
  clear hg
  go_upto_region 2 with (first | (go_at_call 36; (with_reducible refine Calls.mono (FD.out _ _ (HWD.out.bw HW.out) (HV.out.mono HW.out)) ?_); rintro e1 w1 ⟨rfl, hb1⟩; replace HW := Lib.hid (HW.out.trans hb1); replace K8 := Lib.hid (K8.out.bw hb1); clear hb1) | ((with_reducible refine at_store 29 (.tmp 16) (.tmp 27) ?_); refine wpList_store_row rfl 29 (.tmp 16) (.tmp 27) rfl w1.heap.size (pgV zrX) rfl rfl 29 #[.int .i64 0, .int .i64 0, .int .i64 0, .int .i64 0, .int .i64 0, .int .i64 0, .int .i64 0, .int .i64 0, .int .i64 0, .int .i64 0, .int .i64 0, .int .i64 0, .int .i64 0] (HZ13.out w1) (by kernel_rfl) rfl (by simp [Value.oneCell', pgV]) ?_))
  obtain ⟨g1, hg1⟩ : ∃ g1, w1.heap.size = g1 := ⟨_, rfl⟩
  have hb2 := Bw.setRow (Bw.alloc (Bw.refl w1) (.cells #[.int .i64 0, .int .i64 0, .int .i64 0, .int .i64 0, .int .i64 0, .int .i64 0, .int .i64 0, .int .i64 0, .int .i64 0, .int .i64 0, .int .i64 0, .int .i64 0, .int .i64 0] 29)) (Nat.le_of_eq hg1) (pgV zrX)
  rw [hg1]
  replace HW := Lib.hid (HW.out.trans hb2)
  replace K8 := Lib.hid (K8.out.bw hb2)
  generalize World.setRow (World.alloc w1 _) _ _ = w2 at *
  clear hb2 hg1
  have d0 := K8.out.cell (show (#[.int .i64 6400000, .int .i64 0, .int .i64 0] : Array Value)[0]? = some (.int .i64 6400000) from rfl)
  have d1 := K8.out.cell (show (#[.int .i64 6400000, .int .i64 0, .int .i64 0] : Array Value)[1]? = some (.int .i64 0) from rfl)
  have d2 := K8.out.cell (show (#[.int .i64 6400000, .int .i64 0, .int .i64 0] : Array Value)[2]? = some (.int .i64 0) from rfl)
  go_upto_region 5 with ((with_reducible refine at_store 56 (.tmp 18) (.tmp 48) ?_); refine wpList_store_row rfl 56 (.tmp 18) (.tmp 48) rfl w2.heap.size (qV (X0p zrX 6400000 0 0 0 20000 0 0 1000)) rfl (congrArg Value.agg HX.out) 56 _ (Blk.new w2 56 _) (by kernel_rfl) (by simp [qV_size]) (qV_one _) ?_)
  clear d0 d1 d2
  obtain ⟨g2, hg2⟩ : ∃ g2, w2.heap.size = g2 := ⟨_, rfl⟩
  have HQE := Lib.hid (fun (old : Array Value) => (Blk.new w2 56 old).row (qV (X0p zrX 6400000 0 0 0 20000 0 0 1000)))
  have hbx := fun (old : Array Value) => Bw.setRow (Bw.alloc (Bw.refl w2) (.cells old 56)) (Nat.le_of_eq hg2) (qV (X0p zrX 6400000 0 0 0 20000 0 0 1000))
  rw [hg2]
  generalize hWq : World.setRow (World.alloc w2 _) _ _ = w3
  have HQ := Lib.hid (show QBlk w3 g2 (X0p zrX 6400000 0 0 0 20000 0 0 1000) from by rw [← hWq, ← hg2]; exact HQE.out _)
  have hb3 : Bw w2 w3 := by rw [← hWq]; exact hbx _
  replace HW := Lib.hid (HW.out.trans hb3)
  replace K8 := Lib.hid (K8.out.bw hb3)
  clear hWq hb3 HQE hbx hg2
  go_wp2_with (go_at_call 37; (with_reducible refine Calls.mono (RG.out _ _ HQ.out) ?_); rintro e1 w4 ⟨rfl, hb1⟩; replace HW := Lib.hid (HW.out.trans hb1); replace K8 := Lib.hid (K8.out.bw hb1); clear hb1)
  clear HQ RG FD HX
  go_loopg [19, 53] 1 (fun gg s19 s53 wr => ∃ k : Nat, k ≤ 1 ∧ 1 - k ≤ gg ∧ s19 = .slice none 0 0 ∧ s53 = .int .i64 (k : Int) ∧ Hid (Bw w wr) ∧ Hid (Blk wr g 32 #[.int .i64 6400000, .int .i64 0, .int .i64 0]))
  case atStart => exact ⟨0, by omega, by omega, rfl, rfl, HW, K8⟩
  case round =>
    clear HW K8
    obtain ⟨k, hk1, hgg, rfl, rfl, HW, K8⟩ := hrel
    obtain ⟨wb, rfl⟩ : ∃ wb, wb = wr := ⟨_, rfl⟩
    by_cases hlt : k < 1
    · have hltz : (k : Int) < 1 := by omega
      have R9 := Lib.hid (show wb.rangeAt b (off + k * 13) (pgc plX4) from by
        have h9 := R0.out
        rw [show k = 0 by omega]
        exact fun j u hu => HW.out.cell' (h9 j u hu))
      go_upto_region 11 with (first | ((with_reducible refine at_load 29 (.tmp 55) ?_); refine wpList_load_pg rfl (.tmp 55) rfl b (off + k * 13) (by simp [Act.eval, Act.put]) R9.out ?_) | ((with_reducible refine at_store 29 (.tmp 21) (.tmp 56) ?_); refine wpList_store_row rfl 29 (.tmp 21) (.tmp 56) rfl wb.heap.size (pgV plX4) rfl rfl 29 #[.int .i64 0, .int .i64 0, .int .i64 0, .int .i64 0, .int .i64 0, .int .i64 0, .int .i64 0, .int .i64 0, .int .i64 0, .int .i64 0, .int .i64 0, .int .i64 0, .int .i64 0] (HZ13.out wb) (by kernel_rfl) rfl HPX.out ?_))
      obtain ⟨g3, hg3⟩ : ∃ g3, wb.heap.size = g3 := ⟨_, rfl⟩
      have hb2 := Bw.setRow (Bw.alloc (Bw.refl wb) (.cells #[.int .i64 0, .int .i64 0, .int .i64 0, .int .i64 0, .int .i64 0, .int .i64 0, .int .i64 0, .int .i64 0, .int .i64 0, .int .i64 0, .int .i64 0, .int .i64 0, .int .i64 0] 29)) (Nat.le_of_eq hg3) (pgV plX4)
      have K21 := Lib.hid ((HZ13.out wb).row (pgV plX4))
      rw [hg3] at K21 ⊢
      replace HW := Lib.hid (HW.out.trans hb2)
      replace K8 := Lib.hid (K8.out.bw hb2)
      clear R9
      generalize World.setRow (World.alloc wb _) _ _ = w5 at *
      clear hb2 hg3
      (try simp only [Act.put])
      go_upto_region 12 with (first | ((with_reducible refine at_load 29 (.tmp 21) ?_); refine wpList_load_row rfl 29 _ rfl g3 rfl 29 (pgV plX4) (0, 0) _ K21.out Tryd.underlying29 rfl HSZ.out ?_) | ((with_reducible refine at_load 32 (.tmp 8) ?_); refine wpList_load_row rfl 32 _ rfl g rfl 32 #[.int .i64 6400000, .int .i64 0, .int .i64 0] (0, 0) _ K8.out Tryd.underlying32 rfl (by kernel_rfl) ?_) | (go_at_call 7; (with_reducible refine Calls.mono (PE.out _ (HWD.out.bw HW.out)) ?_); rintro e1 w6 ⟨rfl, hb1⟩; replace HW := Lib.hid (HW.out.trans hb1); replace K8 := Lib.hid (K8.out.bw hb1); clear hb1) | ((with_reducible refine at_store 23 (.tmp 22) (.tmp 66) ?_); refine wpList_store_row rfl 23 (.tmp 22) (.tmp 66) rfl w6.heap.size #[.int .i64 0, .int .i64 0, .int .i64 0, .int .i64 0, .int .i64 0, .int .i64 0] rfl rfl 23 #[.int .i64 0, .int .i64 0, .int .i64 0, .int .i64 0, .int .i64 0, .int .i64 0] (HZ6.out w6) (by kernel_rfl) rfl (by simp [Value.oneCell']) ?_))
      obtain ⟨g4, hg4⟩ : ∃ g4, w6.heap.size = g4 := ⟨_, rfl⟩
      have hb2 := Bw.setRow (Bw.alloc (Bw.refl w6) (.cells #[.int .i64 0, .int .i64 0, .int .i64 0, .int .i64 0, .int .i64 0, .int .i64 0] 23)) (Nat.le_of_eq hg4) #[.int .i64 0, .int .i64 0, .int .i64 0, .int .i64 0, .int .i64 0, .int .i64 0]
      rw [hg4]
      replace HW := Lib.hid (HW.out.trans hb2)
      replace K8 := Lib.hid (K8.out.bw hb2)
      clear K21
      generalize World.setRow (World.alloc w6 _) _ _ = w7 at *
      clear hb2 hg4
      (try simp only [Act.put])
      have hwk : IntKind.i64.wrap ((k : Int) + 1) = (k : Int) + 1 := by rw [IntKind.wrap_i64]; omega
      go_wp2
      go_roundg (1 - (k + 1))
      case measure => omega
      case rel => exact ⟨k + 1, by omega, Nat.le_refl _, rfl, by go_num, HW, K8⟩
    · have hltz : ¬ (k : Int) < 1 := by omega
      go_wp2
      refine bodyPost_ret (v := .tuple #[.slice none 0 0, .int .i64 0]) ?_ rfl ⟨rfl, HW.out⟩
      simp [results, Tryd.results12, go_sem]
theorem all_nil (w : World) (hw : WdAt w) : Calls Tryd.prog 12 #[.slice none 0 0, .agg #[.int .i64 0, .int .i64 0, .int .i64 0], .int .i64 (-1), .int .i64 0, .int .i64 0, .int .i64 0, .int .i64 1] w fun e w' => e = .returned (.tuple #[.slice none 0 0, .int .i64 2]) ∧ Bw w w' := by
  have HX := Lib.hid (X0_arr zrX 0 0 0 (-1) 0 0 0 1)
  have FD := Lib.hid (fun v W h hv => AlFind_any [] 1 zrX 18 find_no v W h hv)
  have RG := Lib.hid (fun g W h => ranged40_any (X0p zrX 0 0 0 (-1) 0 0 0 1) g W h (fun k hk => by match k, hk with | 0, _ | 1, _ | 2, _ => decide))
  rw [show rgB (X0p zrX 0 0 0 (-1) 0 0 0 1) = false by kernel_rfl] at RG
  have K8 := Lib.hid (Blk.new w 32 #[.int .i64 0, .int .i64 0, .int .i64 0])
  have HB0 := Bw.alloc (Bw.refl w) (.cells #[.int .i64 0, .int .i64 0, .int .i64 0] 32)
  obtain ⟨g, hg⟩ : ∃ g, w.heap.size = g := ⟨_, rfl⟩
  have HG := Lib.hid hg
  have HZ13 := Lib.hid (fun (W : World) => Blk.new W 29 #[.int .i64 0, .int .i64 0, .int .i64 0, .int .i64 0, .int .i64 0, .int .i64 0, .int .i64 0, .int .i64 0, .int .i64 0, .int .i64 0, .int .i64 0, .int .i64 0, .int .i64 0])
  have HW := Lib.hid HB0
  have HWD := Lib.hid hw
  clear hw HB0
  go_enter Tryd.func12, Tryd.ntmps12
  go_upto_region 1 with fail
  rw [hg] at K8
  (try rw [hg])
  generalize w.alloc _ = W0 at *
  clear hg
  go_upto_region 2 with (first | (go_at_call 36; (with_reducible refine Calls.mono (FD.out _ _ (HWD.out.bw HW.out) (RdG.nil _)) ?_); rintro e1 w1 ⟨rfl, hb1⟩; replace HW := Lib.hid (HW.out.trans hb1); replace K8 := Lib.hid (K8.out.bw hb1); clear hb1) | ((with_reducible refine at_store 29 (.tmp 16) (.tmp 27) ?_); refine wpList_store_row rfl 29 (.tmp 16) (.tmp 27) rfl w1.heap.size (pgV zrX) rfl rfl 29 #[.int .i64 0, .int .i64 0, .int .i64 0, .int .i64 0, .int .i64 0, .int .i64 0, .int .i64 0, .int .i64 0, .int .i64 0, .int .i64 0, .int .i64 0, .int .i64 0, .int .i64 0] (HZ13.out w1) (by kernel_rfl) rfl (by simp [Value.oneCell', pgV]) ?_))
  obtain ⟨g1, hg1⟩ : ∃ g1, w1.heap.size = g1 := ⟨_, rfl⟩
  have hb2 := Bw.setRow (Bw.alloc (Bw.refl w1) (.cells #[.int .i64 0, .int .i64 0, .int .i64 0, .int .i64 0, .int .i64 0, .int .i64 0, .int .i64 0, .int .i64 0, .int .i64 0, .int .i64 0, .int .i64 0, .int .i64 0, .int .i64 0] 29)) (Nat.le_of_eq hg1) (pgV zrX)
  rw [hg1]
  replace HW := Lib.hid (HW.out.trans hb2)
  replace K8 := Lib.hid (K8.out.bw hb2)
  generalize World.setRow (World.alloc w1 _) _ _ = w2 at *
  clear hb2 hg1
  have d0 := K8.out.cell (show (#[.int .i64 0, .int .i64 0, .int .i64 0] : Array Value)[0]? = some (.int .i64 0) from rfl)
  have d1 := K8.out.cell (show (#[.int .i64 0, .int .i64 0, .int .i64 0] : Array Value)[1]? = some (.int .i64 0) from rfl)
  have d2 := K8.out.cell (show (#[.int .i64 0, .int .i64 0, .int .i64 0] : Array Value)[2]? = some (.int .i64 0) from rfl)
  go_upto_region 5 with ((with_reducible refine at_store 56 (.tmp 18) (.tmp 48) ?_); refine wpList_store_row rfl 56 (.tmp 18) (.tmp 48) rfl w2.heap.size (qV (X0p zrX 0 0 0 (-1) 0 0 0 1)) rfl (congrArg Value.agg HX.out) 56 _ (Blk.new w2 56 _) (by kernel_rfl) (by simp [qV_size]) (qV_one _) ?_)
  clear d0 d1 d2
  obtain ⟨g2, hg2⟩ : ∃ g2, w2.heap.size = g2 := ⟨_, rfl⟩
  have HQE := Lib.hid (fun (old : Array Value) => (Blk.new w2 56 old).row (qV (X0p zrX 0 0 0 (-1) 0 0 0 1)))
  have hbx := fun (old : Array Value) => Bw.setRow (Bw.alloc (Bw.refl w2) (.cells old 56)) (Nat.le_of_eq hg2) (qV (X0p zrX 0 0 0 (-1) 0 0 0 1))
  rw [hg2]
  generalize hWq : World.setRow (World.alloc w2 _) _ _ = w3
  have HQ := Lib.hid (show QBlk w3 g2 (X0p zrX 0 0 0 (-1) 0 0 0 1) from by rw [← hWq, ← hg2]; exact HQE.out _)
  have hb3 : Bw w2 w3 := by rw [← hWq]; exact hbx _
  replace HW := Lib.hid (HW.out.trans hb3)
  replace K8 := Lib.hid (K8.out.bw hb3)
  clear hWq hb3 HQE hbx hg2
  go_wp2_with (go_at_call 37; (with_reducible refine Calls.mono (RG.out _ _ HQ.out) ?_); rintro e1 w4 ⟨rfl, hb1⟩; replace HW := Lib.hid (HW.out.trans hb1); clear hb1)
  refine bodyPost_ret (v := .tuple #[.slice none 0 0, .int .i64 2]) ?_ rfl ⟨rfl, HW.out⟩
  simp [results, Tryd.results12, go_sem]
end Go.Proofs.Sky

namespace Go.Proofs.Sky
open Go Go.RowKit Go.Shelf
attribute [local go_sem] Oper.semAt_some
set_option maxHeartbeats 4000000
set_option maxRecDepth 8000
/-! chapter 40: Fits, its errors -/
theorem Fits_bad (h0 h1 h2 h3 h4 h5 lag s : Int) (w : World) (hbad : s < 1 ∨ 8192 < s ∨ h4 < 0 ∨ s ≤ h4 ∨ h5 < 1 ∨ s < h5 ∨ lag < 0 ∨ s ≤ lag) : Calls Tryd.prog 11 #[.agg #[.int .i64 h0, .int .i64 h1, .int .i64 h2, .int .i64 h3, .int .i64 h4, .int .i64 h5], .int .i64 lag, .int .i64 s] w fun e w' => e = .returned (.tuple #[.bool false, .int .i64 2]) ∧ Bw w w' := by
  have K := Lib.hid (Blk.new w 23 #[.int .i64 h0, .int .i64 h1, .int .i64 h2, .int .i64 h3, .int .i64 h4, .int .i64 h5])
  have HW := Lib.hid (Bw.alloc (Bw.refl w) (.cells #[.int .i64 h0, .int .i64 h1, .int .i64 h2, .int .i64 h3, .int .i64 h4, .int .i64 h5] 23))
  by_cases c1 : s < 1
  · clear hbad
    go_enter Tryd.func11, Tryd.ntmps11
    go_upto_region 1 with fail
    obtain ⟨g, hg⟩ : ∃ g, w.heap.size = g := ⟨_, rfl⟩
    rw [hg] at K
    (try rw [hg])
    generalize w.alloc _ = W0 at *
    have d4 := K.out.cell (show (#[.int .i64 h0, .int .i64 h1, .int .i64 h2, .int .i64 h3, .int .i64 h4, .int .i64 h5] : Array Value)[4]? = some (.int .i64 h4) from rfl)
    have d5 := K.out.cell (show (#[.int .i64 h0, .int .i64 h1, .int .i64 h2, .int .i64 h3, .int .i64 h4, .int .i64 h5] : Array Value)[5]? = some (.int .i64 h5) from rfl)
    go_wp2
    refine bodyPost_ret (v := .tuple #[.bool false, .int .i64 2]) ?_ rfl ⟨rfl, HW.out⟩
    simp [results, Tryd.results11, go_sem]
  by_cases c2 : 8192 < s
  · clear hbad
    go_enter Tryd.func11, Tryd.ntmps11
    go_upto_region 1 with fail
    obtain ⟨g, hg⟩ : ∃ g, w.heap.size = g := ⟨_, rfl⟩
    rw [hg] at K
    (try rw [hg])
    generalize w.alloc _ = W0 at *
    have d4 := K.out.cell (show (#[.int .i64 h0, .int .i64 h1, .int .i64 h2, .int .i64 h3, .int .i64 h4, .int .i64 h5] : Array Value)[4]? = some (.int .i64 h4) from rfl)
    have d5 := K.out.cell (show (#[.int .i64 h0, .int .i64 h1, .int .i64 h2, .int .i64 h3, .int .i64 h4, .int .i64 h5] : Array Value)[5]? = some (.int .i64 h5) from rfl)
    go_wp2
    refine bodyPost_ret (v := .tuple #[.bool false, .int .i64 2]) ?_ rfl ⟨rfl, HW.out⟩
    simp [results, Tryd.results11, go_sem]
  by_cases c3 : h4 < 0
  · clear hbad
    go_enter Tryd.func11, Tryd.ntmps11
    go_upto_region 1 with fail
    obtain ⟨g, hg⟩ : ∃ g, w.heap.size = g := ⟨_, rfl⟩
    rw [hg] at K
    (try rw [hg])
    generalize w.alloc _ = W0 at *
    have d4 := K.out.cell (show (#[.int .i64 h0, .int .i64 h1, .int .i64 h2, .int .i64 h3, .int .i64 h4, .int .i64 h5] : Array Value)[4]? = some (.int .i64 h4) from rfl)
    have d5 := K.out.cell (show (#[.int .i64 h0, .int .i64 h1, .int .i64 h2, .int .i64 h3, .int .i64 h4, .int .i64 h5] : Array Value)[5]? = some (.int .i64 h5) from rfl)
    go_wp2
    refine bodyPost_ret (v := .tuple #[.bool false, .int .i64 2]) ?_ rfl ⟨rfl, HW.out⟩
    simp [results, Tryd.results11, go_sem]
  by_cases c4 : s ≤ h4
  · clear hbad
    go_enter Tryd.func11, Tryd.ntmps11
    go_upto_region 1 with fail
    obtain ⟨g, hg⟩ : ∃ g, w.heap.size = g := ⟨_, rfl⟩
    rw [hg] at K
    (try rw [hg])
    generalize w.alloc _ = W0 at *
    have d4 := K.out.cell (show (#[.int .i64 h0, .int .i64 h1, .int .i64 h2, .int .i64 h3, .int .i64 h4, .int .i64 h5] : Array Value)[4]? = some (.int .i64 h4) from rfl)
    have d5 := K.out.cell (show (#[.int .i64 h0, .int .i64 h1, .int .i64 h2, .int .i64 h3, .int .i64 h4, .int .i64 h5] : Array Value)[5]? = some (.int .i64 h5) from rfl)
    go_wp2
    refine bodyPost_ret (v := .tuple #[.bool false, .int .i64 2]) ?_ rfl ⟨rfl, HW.out⟩
    simp [results, Tryd.results11, go_sem]
  by_cases c5 : h5 < 1
  · clear hbad
    go_enter Tryd.func11, Tryd.ntmps11
    go_upto_region 1 with fail
    obtain ⟨g, hg⟩ : ∃ g, w.heap.size = g := ⟨_, rfl⟩
    rw [hg] at K
    (try rw [hg])
    generalize w.alloc _ = W0 at *
    have d4 := K.out.cell (show (#[.int .i64 h0, .int .i64 h1, .int .i64 h2, .int .i64 h3, .int .i64 h4, .int .i64 h5] : Array Value)[4]? = some (.int .i64 h4) from rfl)
    have d5 := K.out.cell (show (#[.int .i64 h0, .int .i64 h1, .int .i64 h2, .int .i64 h3, .int .i64 h4, .int .i64 h5] : Array Value)[5]? = some (.int .i64 h5) from rfl)
    go_wp2
    refine bodyPost_ret (v := .tuple #[.bool false, .int .i64 2]) ?_ rfl ⟨rfl, HW.out⟩
    simp [results, Tryd.results11, go_sem]
  by_cases c6 : s < h5
  · clear hbad
    go_enter Tryd.func11, Tryd.ntmps11
    go_upto_region 1 with fail
    obtain ⟨g, hg⟩ : ∃ g, w.heap.size = g := ⟨_, rfl⟩
    rw [hg] at K
    (try rw [hg])
    generalize w.alloc _ = W0 at *
    have d4 := K.out.cell (show (#[.int .i64 h0, .int .i64 h1, .int .i64 h2, .int .i64 h3, .int .i64 h4, .int .i64 h5] : Array Value)[4]? = some (.int .i64 h4) from rfl)
    have d5 := K.out.cell (show (#[.int .i64 h0, .int .i64 h1, .int .i64 h2, .int .i64 h3, .int .i64 h4, .int .i64 h5] : Array Value)[5]? = some (.int .i64 h5) from rfl)
    go_wp2
    refine bodyPost_ret (v := .tuple #[.bool false, .int .i64 2]) ?_ rfl ⟨rfl, HW.out⟩
    simp [results, Tryd.results11, go_sem]
  by_cases c7 : lag < 0
  · clear hbad
    go_enter Tryd.func11, Tryd.ntmps11
    go_upto_region 1 with fail
    obtain ⟨g, hg⟩ : ∃ g, w.heap.size = g := ⟨_, rfl⟩
    rw [hg] at K
    (try rw [hg])
    generalize w.alloc _ = W0 at *
    have d4 := K.out.cell (show (#[.int .i64 h0, .int .i64 h1, .int .i64 h2, .int .i64 h3, .int .i64 h4, .int .i64 h5] : Array Value)[4]? = some (.int .i64 h4) from rfl)
    have d5 := K.out.cell (show (#[.int .i64 h0, .int .i64 h1, .int .i64 h2, .int .i64 h3, .int .i64 h4, .int .i64 h5] : Array Value)[5]? = some (.int .i64 h5) from rfl)
    go_wp2
    refine bodyPost_ret (v := .tuple #[.bool false, .int .i64 2]) ?_ rfl ⟨rfl, HW.out⟩
    simp [results, Tryd.results11, go_sem]
  by_cases c8 : s ≤ lag
  · clear hbad
    go_enter Tryd.func11, Tryd.ntmps11
    go_upto_region 1 with fail
    obtain ⟨g, hg⟩ : ∃ g, w.heap.size = g := ⟨_, rfl⟩
    rw [hg] at K
    (try rw [hg])
    generalize w.alloc _ = W0 at *
    have d4 := K.out.cell (show (#[.int .i64 h0, .int .i64 h1, .int .i64 h2, .int .i64 h3, .int .i64 h4, .int .i64 h5] : Array Value)[4]? = some (.int .i64 h4) from rfl)
    have d5 := K.out.cell (show (#[.int .i64 h0, .int .i64 h1, .int .i64 h2, .int .i64 h3, .int .i64 h4, .int .i64 h5] : Array Value)[5]? = some (.int .i64 h5) from rfl)
    go_wp2
    refine bodyPost_ret (v := .tuple #[.bool false, .int .i64 2]) ?_ rfl ⟨rfl, HW.out⟩
    simp [results, Tryd.results11, go_sem]
  omega
end Go.Proofs.Sky
