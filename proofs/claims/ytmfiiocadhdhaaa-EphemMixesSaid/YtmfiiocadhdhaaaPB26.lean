/-
  lemmas for the theorems of this claim. No conditions beyond those written in the statements.
-/
import Derived.Test.YtmfiiocadhdhaaaRC26
import Derived.Test.YtmfiiocadhdhaaaM26
import Derived.Deep.Cut
import Derived.Laws.MakeOwn
set_option linter.unusedVariables false
set_option linter.unusedSimpArgs false
set_option linter.unnecessarySimpa false
namespace Go.Proofs.Sky
open Go Go.RowKit Go.Shelf
set_option maxHeartbeats 4000000
set_option maxRecDepth 8000
theorem madeOf (w : World) : (Instr.makeSlice 89 (.int .i64 4) (.int .i64 4)).run Try.prog w = .ok (.slice (some ⟨w.heap.size, 0, none⟩) 4 4) (w.alloc (.cells #[.slice none 0 0, .slice none 0 0, .slice none 0 0, .slice none 0 0] 40)) := by
  have hq : (Try.prog.info? 40).map (fun i => (i.zero, i.size, i.bytes)) = some (some (.slice none 0 0), 1, 24) := by kernel_rfl
  obtain ⟨i, hi, hz⟩ := Option.map_eq_some_iff.1 hq
  simp only [Prod.mk.injEq] at hz
  obtain ⟨hz, hs, hb⟩ := hz
  have h := run_make (P := Try.prog) w 89 40 i _ Try.underlying89 hi hz .i64 .i64 4 4 (by omega) (by omega) (by rw [hb]; omega) (by omega)
  rw [hs, show madeCells (Value.slice none 0 0).cells (Int.toNat 4 * 1) = #[.slice none 0 0, .slice none 0 0, .slice none 0 0, .slice none 0 0] by kernel_rfl] at h
  exact h
def ofV (V : Nat → Value) : Array Value := #[V 0, V 1, V 2, V 3]
theorem ofV_at (V : Nat → Value) (i : Nat) (hi : i < 4) : (ofV V)[i]? = some (V i) := by
  match i, hi with
  | 0, _ => rfl
  | 1, _ => rfl
  | 2, _ => rfl
  | 3, _ => rfl
theorem ofV_set (V : Nat → Value) (j : Nat) (v : Value) (hj : j < 4) : (ofV V).setIfInBounds j v = ofV (fun m => if m = j then v else V m) := by
  match j, hj with
  | 0, _ => rfl
  | 1, _ => rfl
  | 2, _ => rfl
  | 3, _ => rfl
def ofK (F : Nat → Fr) : Nat → Nat → List Int
  | 0 => fun _ => []
  | i + 1 => fun m => if (m : Int) = (F i).k then rvL (F i).l (kdN (F i).k) else ofK F i m
def allP (F : Nat → Fr) : Bool := (List.range 3).all fun j => rokP (F j).t (F j).k (F j).l
theorem allP_iff (F : Nat → Fr) : allP F = true ↔ ∀ j, j < 3 → rokP (F j).t (F j).k (F j).l = true := by
  unfold allP
  rw [List.all_eq_true]
  exact ⟨fun h j hj => h j (List.mem_range.2 hj), fun h j hj => h j (List.mem_range.1 hj)⟩
/-- three rows that do not make an ephemeris -/
def apart (a b c : List Int) : Bool := decide (a.length = 0 ∨ b.length = 0 ∨ c.length = 0 ∨ a.getD 0 0 ≠ b.getD 0 0 ∨ a.getD 0 0 ≠ c.getD 0 0 ∨ a.getD 1 0 ≠ b.getD 1 0 ∨ a.getD 1 0 ≠ c.getD 1 0)
def rrR (fs : List Fr) : (Nat → Int) × Int :=
  if fs.length = 3 ∧ allP (fun j => fs.getD j dFr) = true then
    if apart (ofK (fun j => fs.getD j dFr) 3 1) (ofK (fun j => fs.getD j dFr) 3 2) (ofK (fun j => fs.getD j dFr) 3 3) = true then (zE, 18)
    else (togE (ofK (fun j => fs.getD j dFr) 3 1) (ofK (fun j => fs.getD j dFr) 3 2) (ofK (fun j => fs.getD j dFr) 3 3), 0)
  else (zE, 3)
theorem rvL_len (zs : List Int) (k : Nat) : (rvL zs k).length = (LS k).length := by unfold rvL; rw [List.length_map, List.length_range]
theorem ofK_len (F : Nat → Fr) (m : Nat) : ∀ i, (ofK F i m).length = 0 ∨ (ofK F i m).length = (LS (kdN (m : Int))).length := by
  intro i
  induction i with
  | zero => exact .inl rfl
  | succ i ih =>
    rw [ofK]
    dsimp only
    by_cases h : (m : Int) = (F i).k
    · rw [if_pos h, rvL_len, ← h]; exact .inr rfl
    · rw [if_neg h]; exact ih
theorem apart_iff {a b c : List Int} : apart a b c = true ↔ (a.length = 0 ∨ b.length = 0 ∨ c.length = 0 ∨ a.getD 0 0 ≠ b.getD 0 0 ∨ a.getD 0 0 ≠ c.getD 0 0 ∨ a.getD 1 0 ≠ b.getD 1 0 ∨ a.getD 1 0 ≠ c.getD 1 0) := decide_eq_true_iff
theorem rokP_kind {t k : Int} {zs : List Int} (h : rokP t k zs = true) : 1 ≤ k ∧ k ≤ 3 := by
  unfold rokP at h
  simp only [Bool.and_eq_true, decide_eq_true_eq] at h
  omega
theorem rRead_any (fs : List Fr) (v : Value) (w : World) (hv : RdFr w v fs) : Calls Try.prog 19 #[v] w fun e w' => e = .returned (.tuple #[.agg (eV (rrR fs).1), .int .i64 (rrR fs).2]) ∧ Bw w w' := by
  have HV := Lib.hid hv
  obtain ⟨a, c, rfl⟩ := hv.form
  clear hv
  have PAL := Lib.hid (fun t k zs v W h => part_any t k zs v W h)
  unfold PartP at PAL
  have TGL := Lib.hid (fun la lb lc u v x W h1 h2 h3 n1 n2 n3 => together_any la lb lc u v x W h1 h2 h3 n1 n2 n3)
  have hmk := fun W => madeOf W
  obtain ⟨R9, hR⟩ : ∃ R9, R9 = rrR fs := ⟨_, rfl⟩
  rw [← hR]
  unfold rrR at hR
  have HR := Lib.hid hR
  clear hR
  obtain ⟨RX, RE⟩ := R9
  dsimp only
  obtain ⟨n, hn⟩ : ∃ n, n = fs.length := ⟨_, rfl⟩
  rw [← hn]
  have HN := Lib.hid hn
  clear hn
  have HBW := Lib.hid (Bw.alloc (Bw.refl w) (.cells #[.int .i64 0, .int .i64 0, .int .i64 0, .int .i64 0, .int .i64 0, .int .i64 0, .int .i64 0, .int .i64 0, .int .i64 0, .int .i64 0, .int .i64 0, .int .i64 0, .int .i64 0, .int .i64 0, .int .i64 0, .int .i64 0, .int .i64 0, .int .i64 0, .int .i64 0] 25))
  have KR : Hid (Blk (w.alloc (.cells #[.int .i64 0, .int .i64 0, .int .i64 0, .int .i64 0, .int .i64 0, .int .i64 0, .int .i64 0, .int .i64 0, .int .i64 0, .int .i64 0, .int .i64 0, .int .i64 0, .int .i64 0, .int .i64 0, .int .i64 0, .int .i64 0, .int .i64 0, .int .i64 0, .int .i64 0] 25)) w.heap.size 25 (eV zE)) := Lib.hid (Blk.new w 25 #[.int .i64 0, .int .i64 0, .int .i64 0, .int .i64 0, .int .i64 0, .int .i64 0, .int .i64 0, .int .i64 0, .int .i64 0, .int .i64 0, .int .i64 0, .int .i64 0, .int .i64 0, .int .i64 0, .int .i64 0, .int .i64 0, .int .i64 0, .int .i64 0, .int .i64 0])
  go_enter Try.func19, Try.ntmps19
  go_upto_region 1 with fail
  obtain ⟨W0, hW0⟩ : ∃ W0, w.alloc (.cells #[.int .i64 0, .int .i64 0, .int .i64 0, .int .i64 0, .int .i64 0, .int .i64 0, .int .i64 0, .int .i64 0, .int .i64 0, .int .i64 0, .int .i64 0, .int .i64 0, .int .i64 0, .int .i64 0, .int .i64 0, .int .i64 0, .int .i64 0, .int .i64 0, .int .i64 0] 25) = W0 := ⟨_, rfl⟩
  rw [hW0] at HBW KR ⊢
  clear hW0
  by_cases q3 : n = 3
  case neg =>
    have q3b : ((n : Int) != 3) = true := by simp; omega
    go_wp2_with ((with_reducible refine at_store 25 (.tmp 2) (.tmp 14) ?_); refine wpList_store_row rfl 25 (.tmp 2) (.tmp 14) rfl w.heap.size #[.int .i64 0, .int .i64 0, .int .i64 0, .int .i64 0, .int .i64 0, .int .i64 0, .int .i64 0, .int .i64 0, .int .i64 0, .int .i64 0, .int .i64 0, .int .i64 0, .int .i64 0, .int .i64 0, .int .i64 0, .int .i64 0, .int .i64 0, .int .i64 0, .int .i64 0] rfl rfl 25 _ KR.out (by kernel_rfl) rfl (by simp [Value.oneCell']) ?_)
    have F3 : Blk (World.setRow W0 w.heap.size #[.int .i64 0, .int .i64 0, .int .i64 0, .int .i64 0, .int .i64 0, .int .i64 0, .int .i64 0, .int .i64 0, .int .i64 0, .int .i64 0, .int .i64 0, .int .i64 0, .int .i64 0, .int .i64 0, .int .i64 0, .int .i64 0, .int .i64 0, .int .i64 0, .int .i64 0]) w.heap.size 25 (eV zE) := KR.out.row _
    have B3 := Bw.setRow HBW.out (Nat.le_refl w.heap.size) #[.int .i64 0, .int .i64 0, .int .i64 0, .int .i64 0, .int .i64 0, .int .i64 0, .int .i64 0, .int .i64 0, .int .i64 0, .int .i64 0, .int .i64 0, .int .i64 0, .int .i64 0, .int .i64 0, .int .i64 0, .int .i64 0, .int .i64 0, .int .i64 0, .int .i64 0]
    generalize World.setRow W0 _ _ = WF at F3 B3 ⊢
    refine bodyPost_ret (v := .tuple #[.agg (eV zE), .int .i64 3]) ?_ rfl ⟨?_, B3⟩
    · exact res_eph (p := 2) (u := 3) rfl _ _ _ _ rfl F3
    · have h9 := (HR.out.trans (if_neg (fun h => q3 (HN.out.trans h.1)))); injection h9 with h8 h7; rw [h8, h7]
  subst q3
  obtain ⟨bl, of_, cl, hvl, hcl⟩ := HV.out.at (by have := HN.out; omega)
  injection hvl with i1 i2 i3
  subst i1
  clear i2 i3
  have HCE := Lib.hid hcl
  clear hcl
  have HFD := Lib.hid HV.out.2.1
  obtain ⟨gO, hgO⟩ : ∃ gO, W0.heap.size = gO := ⟨_, rfl⟩
  have hba := Bw.alloc (Bw.refl W0) (.cells #[.slice none 0 0, .slice none 0 0, .slice none 0 0, .slice none 0 0] 40)
  have KO : Hid (Blk (W0.alloc (.cells #[.slice none 0 0, .slice none 0 0, .slice none 0 0, .slice none 0 0] 40)) gO 40 (ofV (fun _ => .slice none 0 0))) := Lib.hid (by rw [← hgO]; exact Blk.new W0 40 #[.slice none 0 0, .slice none 0 0, .slice none 0 0, .slice none 0 0])
  have HGO := Lib.hid (show w.heap.size < gO by rw [← hgO]; exact KR.out.lt)
  go_upto_region 4 with fail
  clear hmk
  obtain ⟨W1, hW1⟩ : ∃ W1, W0.alloc (.cells #[.slice none 0 0, .slice none 0 0, .slice none 0 0, .slice none 0 0] 40) = W1 := ⟨_, rfl⟩
  rw [hW1] at hba KO ⊢
  clear hW1 hgO
  replace HBW := Lib.hid (HBW.out.trans hba)
  replace KR := Lib.hid (KR.out.bw hba)
  clear hba
  go_wp2
  go_loopg [5] 3 (fun gg s5 wr => ∃ i : Nat, i ≤ 3 ∧ 3 - i ≤ gg ∧ s5 = .int .i64 i ∧ Hid (Bw w wr) ∧ Hid (Blk wr w.heap.size 25 (eV zE)) ∧ Hid (∀ j, j < i → rokP (fs.getD j dFr).t (fs.getD j dFr).k (fs.getD j dFr).l = true) ∧ ∃ V : Nat → Value, Hid (Blk wr gO 40 (ofV V)) ∧ Hid (∀ m, m < 4 → RdI wr (V m) (ofK (fun j => fs.getD j dFr) i m) ∧ Fresh (gO + 1) (V m)))
  case atStart => exact ⟨0, by omega, by omega, rfl, HBW, KR, Lib.hid (fun j h => by omega), _, KO, Lib.hid (fun m _ => ⟨RdI.nil _, Fresh.nil _ _ _⟩)⟩
  case round =>
    clear HBW KR KO
    obtain ⟨i, hi, hgg, rfl, HBW, KR, HBE, V, KO, HVV⟩ := hrel
    by_cases hlt : i < 3
    · have hiz : (i : Int) < 3 := by omega
      have hi0 : (0 : Int) ≤ i := by omega
      have hat : fs[i]? = some (fs.getD i dFr) := getD_fr (by have := HN.out; omega)
      obtain ⟨d0, d1, d2⟩ := HCE.out i _ hat
      have hdd := HFD.out _ (List.mem_of_getElem? hat)
      have HBN := Lib.hid (show rokP (fs.getD i dFr).t (fs.getD i dFr).k (fs.getD i dFr).l = false → (RX, RE) = (zE, 3) from fun hb => by
        have h9 := HR.out
        rw [if_neg (fun h => by have := (allP_iff _).1 h.2 i hlt; rw [hb] at this; cases this)] at h9
        exact h9)
      have HBY := Lib.hid (show rokP (fs.getD i dFr).t (fs.getD i dFr).k (fs.getD i dFr).l = true → (1 ≤ (fs.getD i dFr).k ∧ (fs.getD i dFr).k ≤ 3) ∧ ∀ j, j < i + 1 → rokP (fs.getD j dFr).t (fs.getD j dFr).k (fs.getD j dFr).l = true from fun hb => ⟨rokP_kind hb, fun j hj => by
        rcases Nat.lt_succ_iff_lt_or_eq.1 hj with h9 | rfl
        · exact HBE.out j h9
        · exact hb⟩)
      have HON := Lib.hid (show ∀ m, ofK (fun j => fs.getD j dFr) (i + 1) m = if (m : Int) = (fs.getD i dFr).k then rvL (fs.getD i dFr).l (kdN (fs.getD i dFr).k) else ofK (fun j => fs.getD j dFr) i m from fun m => rfl)
      generalize fs.getD i dFr = f at d0 d1 d2 hdd HBN HBY HON
      obtain ⟨ft, fk_, fd, fl⟩ := f
      dsimp only at d0 d1 d2 hdd HBN HBY HON
      have PAK := Lib.hid (fun W (hW : Bw w W) => PAL.out ft fk_ fl fd W (hdd.1.mono hW))
      obtain ⟨af, cf, hfd⟩ := hdd.1.form
      subst hfd
      have D1 := Lib.hid d1
      have d0' := HBW.out.cell' d0
      have d1' := HBW.out.cell' d1
      have d2' := HBW.out.cell' d2
      clear hat d0 d1 d2 hdd
      obtain ⟨B9, hB9⟩ : ∃ B9, B9 = rokP ft fk_ fl := ⟨_, rfl⟩
      rw [← hB9] at PAK HBN HBY
      clear hB9
      generalize hkk : rvL fl (kdN fk_) = LL at *
      clear hkk
      cases B9 with
      | false =>
        have HBE2 := Lib.hid (HBN.out rfl)
        clear HBN HBY
        go_wp2_with (first | (go_at_call 38; (with_reducible refine Calls.mono (PAK.out _ HBW.out) ?_); rintro e1 w2 ⟨⟨v2, rfl, h2⟩, hb9⟩; have H2 := Lib.hid h2; clear h2; have HSW := Lib.hid (show gO < wr.heap.size from KO.out.lt); replace HBW := Lib.hid (HBW.out.trans hb9); replace KR := Lib.hid (KR.out.bw hb9); replace KO := Lib.hid (KO.out.bw hb9); replace HVV := Lib.hid (fun m hm => And.intro ((HVV.out m hm).1.mono hb9) (HVV.out m hm).2); clear hb9 d0' d1' d2') | ((with_reducible refine at_store 25 (.tmp 2) (.tmp 30) ?_); refine wpList_store_row rfl 25 (.tmp 2) (.tmp 30) rfl w.heap.size #[.int .i64 0, .int .i64 0, .int .i64 0, .int .i64 0, .int .i64 0, .int .i64 0, .int .i64 0, .int .i64 0, .int .i64 0, .int .i64 0, .int .i64 0, .int .i64 0, .int .i64 0, .int .i64 0, .int .i64 0, .int .i64 0, .int .i64 0, .int .i64 0, .int .i64 0] rfl rfl 25 _ KR.out (by kernel_rfl) rfl (by simp [Value.oneCell']) ?_))
        have F3 : Blk (World.setRow w2 w.heap.size #[.int .i64 0, .int .i64 0, .int .i64 0, .int .i64 0, .int .i64 0, .int .i64 0, .int .i64 0, .int .i64 0, .int .i64 0, .int .i64 0, .int .i64 0, .int .i64 0, .int .i64 0, .int .i64 0, .int .i64 0, .int .i64 0, .int .i64 0, .int .i64 0, .int .i64 0]) w.heap.size 25 (eV zE) := KR.out.row _
        have B3 := Bw.setRow HBW.out (Nat.le_refl w.heap.size) #[.int .i64 0, .int .i64 0, .int .i64 0, .int .i64 0, .int .i64 0, .int .i64 0, .int .i64 0, .int .i64 0, .int .i64 0, .int .i64 0, .int .i64 0, .int .i64 0, .int .i64 0, .int .i64 0, .int .i64 0, .int .i64 0, .int .i64 0, .int .i64 0, .int .i64 0]
        generalize World.setRow w2 _ _ = WF at F3 B3 ⊢
        refine bodyPost_ret (v := .tuple #[.agg (eV zE), .int .i64 3]) ?_ rfl ⟨?_, B3⟩
        · exact res_eph (p := 2) (u := 3) rfl _ _ _ _ rfl F3
        · have h9 := HBE2.out; injection h9 with h8 h7; rw [h8, h7]
      | true =>
        obtain ⟨⟨hf1, hf3⟩, hbe⟩ := HBY.out rfl
        have HBE3 := Lib.hid hbe
        clear HBN HBY hbe
        obtain ⟨m, rfl⟩ : ∃ m : Nat, fk_ = (m : Int) := ⟨fk_.toNat, by omega⟩
        have hm0 : (0 : Int) ≤ m := by omega
        have hm4 : (m : Int) < 4 := by omega
        go_upto_region 10 with (go_at_call 38; (with_reducible refine Calls.mono (PAK.out _ HBW.out) ?_); rintro e1 w2 ⟨⟨v2, rfl, h2⟩, hb9⟩; have H2 := Lib.hid h2; clear h2; have HSW := Lib.hid (show gO < wr.heap.size from KO.out.lt); replace HBW := Lib.hid (HBW.out.trans hb9); replace KR := Lib.hid (KR.out.bw hb9); replace KO := Lib.hid (KO.out.bw hb9); replace HVV := Lib.hid (fun m hm => And.intro ((HVV.out m hm).1.mono hb9) (HVV.out m hm).2); clear hb9 d0' d1' d2')
        have d1' := HBW.out.cell' D1.out
        obtain ⟨r2, _, f2⟩ := H2.out (by trivial)
        clear H2
        obtain ⟨a9, c9, hv9⟩ := r2.form
        subst hv9
        have HR2 := Lib.hid (And.intro r2 f2)
        clear r2 f2
        have z1 := KO.out.cell (ofV_at V m (by omega))
        have z2 := KO.out.frozen m
        go_wp2
        go_roundg (3 - (i + 1))
        case measure => omega
        case rel =>
          refine ⟨i + 1, by omega, by omega, by go_num, Lib.hid (Bw.setCell HBW.out (by have := HGO.out; simp; omega) _), Lib.hid (KR.out.set_other (by have := HGO.out; omega) _ _), HBE3, fun q => if q = m then .slice a9 LL.length c9 else V q, Lib.hid (by rw [← ofV_set V m (.slice a9 LL.length c9) (by omega)]; exact KO.out.set m _), Lib.hid (fun q hq => ?_)⟩
          rw [HON.out q]
          by_cases hqm : q = m
          · subst hqm; simp only [if_true]; exact ⟨RdI.set HR2.out.1 HR2.out.2 HSW.out _ _, HR2.out.2.mono (by have := HSW.out; omega)⟩
          · rw [if_neg (by omega)]; simp only [hqm, if_false]; exact ⟨RdI.set (HVV.out q hq).1 (HVV.out q hq).2 (Nat.lt_succ_self _) _ _, (HVV.out q hq).2⟩
    · obtain rfl : i = 3 := by omega
      have hiz : ¬ ((3 : Nat) : Int) < 3 := by omega
      have HR2 := Lib.hid (HR.out.trans (if_pos ⟨HN.out.symm, (allP_iff _).2 HBE.out⟩))
      have L1 : (ofK (fun j => fs.getD j dFr) 3 1).length = 0 ∨ (ofK (fun j => fs.getD j dFr) 3 1).length = 7 := ofK_len _ 1 3
      have L2 : (ofK (fun j => fs.getD j dFr) 3 2).length = 0 ∨ (ofK (fun j => fs.getD j dFr) 3 2).length = 8 := ofK_len _ 2 3
      have L3 : (ofK (fun j => fs.getD j dFr) 3 3).length = 0 ∨ (ofK (fun j => fs.getD j dFr) 3 3).length = 8 := ofK_len _ 3 3
      have G1 := (HVV.out 1 (by omega)).1
      have G2 := (HVV.out 2 (by omega)).1
      have G3 := (HVV.out 3 (by omega)).1
      have K1 := KO.out.cell (ofV_at V 1 (by omega))
      have K2 := KO.out.cell (ofV_at V 2 (by omega))
      have K3 := KO.out.cell (ofV_at V 3 (by omega))
      clear HVV KO HBE HR
      generalize ofK (fun j => fs.getD j dFr) 3 1 = la at *
      generalize ofK (fun j => fs.getD j dFr) 3 2 = lb at *
      generalize ofK (fun j => fs.getD j dFr) 3 3 = lc at *
      generalize V 1 = v1 at *
      generalize V 2 = v2 at *
      generalize V 3 = v3 at *
      obtain ⟨a1, c1, rfl⟩ := G1.form
      obtain ⟨a2, c2, rfl⟩ := G2.form
      obtain ⟨a3, c3, rfl⟩ := G3.form
      have HBA := Lib.hid (fun (h : la.length = 0 ∨ lb.length = 0 ∨ lc.length = 0 ∨ la.getD 0 0 ≠ lb.getD 0 0 ∨ la.getD 0 0 ≠ lc.getD 0 0 ∨ la.getD 1 0 ≠ lb.getD 1 0 ∨ la.getD 1 0 ≠ lc.getD 1 0) => HR2.out.trans (if_pos (apart_iff.2 h)))
      have HGA := Lib.hid (fun (h : ¬ (la.length = 0 ∨ lb.length = 0 ∨ lc.length = 0 ∨ la.getD 0 0 ≠ lb.getD 0 0 ∨ la.getD 0 0 ≠ lc.getD 0 0 ∨ la.getD 1 0 ≠ lb.getD 1 0 ∨ la.getD 1 0 ≠ lc.getD 1 0)) => HR2.out.trans (if_neg (fun h9 => h (apart_iff.1 h9))))
      clear HR2
      have HG1 := Lib.hid G1
      have HG2 := Lib.hid G2
      have HG3 := Lib.hid G3
      clear G1 G2 G3
      go_upto_region 11 with fail
      have e1 := fun p' : Ext wr => Ext.cell' K1 p'
      have e2 := fun p' : Ext wr => Ext.cell' K2 p'
      have e3 := fun p' : Ext wr => Ext.cell' K3 p'
      clear K1 K2 K3
      (refine wp_region_quiet_ext (by kernel_rfl) (by kernel_rfl) ?_; (repeat (go_big_quiet_step ((fail)))); refine wpQuiet_nil ?_; rintro wp ⟨⟨_, hbq⟩, rfl⟩; obtain ⟨hccq, hffq⟩ := Bw.cells hbq; have hszq := Bw.size hbq)
      replace HBW := Lib.hid (HBW.out.trans hbq)
      replace KR := Lib.hid (KR.out.bw hbq)
      replace HG1 := Lib.hid (HG1.out.mono hbq)
      replace HG2 := Lib.hid (HG2.out.mono hbq)
      replace HG3 := Lib.hid (HG3.out.mono hbq)
      clear e1 e2 e3 hccq hffq hszq hbq
      obtain ⟨N1, hN1⟩ : ∃ N, N = la.length := ⟨_, rfl⟩
      rw [← hN1] at L1 HG1 ⊢
      have HN1 := Lib.hid hN1
      clear hN1
      obtain ⟨N2, hN2⟩ : ∃ N, N = lb.length := ⟨_, rfl⟩
      rw [← hN2] at L2 HG2 ⊢
      have HN2 := Lib.hid hN2
      clear hN2
      obtain ⟨N3, hN3⟩ : ∃ N, N = lc.length := ⟨_, rfl⟩
      rw [← hN3] at L3 HG3 ⊢
      have HN3 := Lib.hid hN3
      clear hN3
      go_upto_region 12 with fail
      skip
      by_cases z1 : N1 = 0
      case pos =>
        subst z1
        (refine wp_region_quiet_ext (by kernel_rfl) (by kernel_rfl) ?_; (repeat (go_big_quiet_step ((fail)))); refine wpQuiet_nil ?_; rintro wq ⟨⟨_, hbq⟩, rfl⟩; obtain ⟨hccq, hffq⟩ := Bw.cells hbq; have hszq := Bw.size hbq)
        replace HBW := Lib.hid (HBW.out.trans hbq)
        replace KR := Lib.hid (KR.out.bw hbq)
        go_wp2_with ((with_reducible refine at_store 25 (.tmp 2) (.tmp 97) ?_); refine wpList_store_row rfl 25 (.tmp 2) (.tmp 97) rfl w.heap.size #[.int .i64 0, .int .i64 0, .int .i64 0, .int .i64 0, .int .i64 0, .int .i64 0, .int .i64 0, .int .i64 0, .int .i64 0, .int .i64 0, .int .i64 0, .int .i64 0, .int .i64 0, .int .i64 0, .int .i64 0, .int .i64 0, .int .i64 0, .int .i64 0, .int .i64 0] rfl rfl 25 _ KR.out (by kernel_rfl) rfl (by simp [Value.oneCell']) ?_)
        have F3 : Blk (World.setRow wq w.heap.size #[.int .i64 0, .int .i64 0, .int .i64 0, .int .i64 0, .int .i64 0, .int .i64 0, .int .i64 0, .int .i64 0, .int .i64 0, .int .i64 0, .int .i64 0, .int .i64 0, .int .i64 0, .int .i64 0, .int .i64 0, .int .i64 0, .int .i64 0, .int .i64 0, .int .i64 0]) w.heap.size 25 (eV zE) := KR.out.row _
        have B3 := Bw.setRow HBW.out (Nat.le_refl w.heap.size) #[.int .i64 0, .int .i64 0, .int .i64 0, .int .i64 0, .int .i64 0, .int .i64 0, .int .i64 0, .int .i64 0, .int .i64 0, .int .i64 0, .int .i64 0, .int .i64 0, .int .i64 0, .int .i64 0, .int .i64 0, .int .i64 0, .int .i64 0, .int .i64 0, .int .i64 0]
        generalize World.setRow wq _ _ = WF at F3 B3 ⊢
        refine bodyPost_ret (v := .tuple #[.agg (eV zE), .int .i64 18]) ?_ rfl ⟨?_, B3⟩
        · exact res_eph (p := 2) (u := 3) rfl _ _ _ _ rfl F3
        · have h9 := (HBA.out (by have := HN1.out; omega)); injection h9 with h8 h7; rw [h8, h7]
      obtain rfl : N1 = 7 := by omega
      clear z1
      by_cases z2 : N2 = 0
      case pos =>
        subst z2
        (refine wp_region_quiet_ext (by kernel_rfl) (by kernel_rfl) ?_; (repeat (go_big_quiet_step ((fail)))); refine wpQuiet_nil ?_; rintro wq ⟨⟨_, hbq⟩, rfl⟩; obtain ⟨hccq, hffq⟩ := Bw.cells hbq; have hszq := Bw.size hbq)
        replace HBW := Lib.hid (HBW.out.trans hbq)
        replace KR := Lib.hid (KR.out.bw hbq)
        go_wp2_with ((with_reducible refine at_store 25 (.tmp 2) (.tmp 97) ?_); refine wpList_store_row rfl 25 (.tmp 2) (.tmp 97) rfl w.heap.size #[.int .i64 0, .int .i64 0, .int .i64 0, .int .i64 0, .int .i64 0, .int .i64 0, .int .i64 0, .int .i64 0, .int .i64 0, .int .i64 0, .int .i64 0, .int .i64 0, .int .i64 0, .int .i64 0, .int .i64 0, .int .i64 0, .int .i64 0, .int .i64 0, .int .i64 0] rfl rfl 25 _ KR.out (by kernel_rfl) rfl (by simp [Value.oneCell']) ?_)
        have F3 : Blk (World.setRow wq w.heap.size #[.int .i64 0, .int .i64 0, .int .i64 0, .int .i64 0, .int .i64 0, .int .i64 0, .int .i64 0, .int .i64 0, .int .i64 0, .int .i64 0, .int .i64 0, .int .i64 0, .int .i64 0, .int .i64 0, .int .i64 0, .int .i64 0, .int .i64 0, .int .i64 0, .int .i64 0]) w.heap.size 25 (eV zE) := KR.out.row _
        have B3 := Bw.setRow HBW.out (Nat.le_refl w.heap.size) #[.int .i64 0, .int .i64 0, .int .i64 0, .int .i64 0, .int .i64 0, .int .i64 0, .int .i64 0, .int .i64 0, .int .i64 0, .int .i64 0, .int .i64 0, .int .i64 0, .int .i64 0, .int .i64 0, .int .i64 0, .int .i64 0, .int .i64 0, .int .i64 0, .int .i64 0]
        generalize World.setRow wq _ _ = WF at F3 B3 ⊢
        refine bodyPost_ret (v := .tuple #[.agg (eV zE), .int .i64 18]) ?_ rfl ⟨?_, B3⟩
        · exact res_eph (p := 2) (u := 3) rfl _ _ _ _ rfl F3
        · have h9 := (HBA.out (by have := HN2.out; omega)); injection h9 with h8 h7; rw [h8, h7]
      obtain rfl : N2 = 8 := by omega
      clear z2
      by_cases z3 : N3 = 0
      case pos =>
        subst z3
        (refine wp_region_quiet_ext (by kernel_rfl) (by kernel_rfl) ?_; (repeat (go_big_quiet_step ((fail)))); refine wpQuiet_nil ?_; rintro wq ⟨⟨_, hbq⟩, rfl⟩; obtain ⟨hccq, hffq⟩ := Bw.cells hbq; have hszq := Bw.size hbq)
        replace HBW := Lib.hid (HBW.out.trans hbq)
        replace KR := Lib.hid (KR.out.bw hbq)
        go_wp2_with ((with_reducible refine at_store 25 (.tmp 2) (.tmp 97) ?_); refine wpList_store_row rfl 25 (.tmp 2) (.tmp 97) rfl w.heap.size #[.int .i64 0, .int .i64 0, .int .i64 0, .int .i64 0, .int .i64 0, .int .i64 0, .int .i64 0, .int .i64 0, .int .i64 0, .int .i64 0, .int .i64 0, .int .i64 0, .int .i64 0, .int .i64 0, .int .i64 0, .int .i64 0, .int .i64 0, .int .i64 0, .int .i64 0] rfl rfl 25 _ KR.out (by kernel_rfl) rfl (by simp [Value.oneCell']) ?_)
        have F3 : Blk (World.setRow wq w.heap.size #[.int .i64 0, .int .i64 0, .int .i64 0, .int .i64 0, .int .i64 0, .int .i64 0, .int .i64 0, .int .i64 0, .int .i64 0, .int .i64 0, .int .i64 0, .int .i64 0, .int .i64 0, .int .i64 0, .int .i64 0, .int .i64 0, .int .i64 0, .int .i64 0, .int .i64 0]) w.heap.size 25 (eV zE) := KR.out.row _
        have B3 := Bw.setRow HBW.out (Nat.le_refl w.heap.size) #[.int .i64 0, .int .i64 0, .int .i64 0, .int .i64 0, .int .i64 0, .int .i64 0, .int .i64 0, .int .i64 0, .int .i64 0, .int .i64 0, .int .i64 0, .int .i64 0, .int .i64 0, .int .i64 0, .int .i64 0, .int .i64 0, .int .i64 0, .int .i64 0, .int .i64 0]
        generalize World.setRow wq _ _ = WF at F3 B3 ⊢
        refine bodyPost_ret (v := .tuple #[.agg (eV zE), .int .i64 18]) ?_ rfl ⟨?_, B3⟩
        · exact res_eph (p := 2) (u := 3) rfl _ _ _ _ rfl F3
        · have h9 := (HBA.out (by have := HN3.out; omega)); injection h9 with h8 h7; rw [h8, h7]
      obtain rfl : N3 = 8 := by omega
      clear z3 L1 L2 L3
      have h9 := HG1.out
      rw [HN1.out] at h9
      obtain ⟨p1, r1, s1, he, _, hc⟩ := h9.at (by have := HN1.out; omega)
      rw [← HN1.out] at he
      injection he with he1 he2 he3
      subst he1 he3
      have y10 := hc 0 (by have := HN1.out; omega)
      have y11 := hc 1 (by have := HN1.out; omega)
      rw [Nat.add_zero] at y10
      clear hc h9 he2
      have h9 := HG2.out
      rw [HN2.out] at h9
      obtain ⟨p2, r2, s2, he, _, hc⟩ := h9.at (by have := HN2.out; omega)
      rw [← HN2.out] at he
      injection he with he1 he2 he3
      subst he1 he3
      have y20 := hc 0 (by have := HN2.out; omega)
      have y21 := hc 1 (by have := HN2.out; omega)
      rw [Nat.add_zero] at y20
      clear hc h9 he2
      have h9 := HG3.out
      rw [HN3.out] at h9
      obtain ⟨p3, r3, s3, he, _, hc⟩ := h9.at (by have := HN3.out; omega)
      rw [← HN3.out] at he
      injection he with he1 he2 he3
      subst he1 he3
      have y30 := hc 0 (by have := HN3.out; omega)
      have y31 := hc 1 (by have := HN3.out; omega)
      rw [Nat.add_zero] at y30
      clear hc h9 he2
      obtain ⟨TG, hTG⟩ : ∃ TG, TG = togE la lb lc := ⟨_, rfl⟩
      have HTG := Lib.hid hTG
      clear hTG
      have TGX := Lib.hid (fun W (hW : Bw wp W) => TGL.out la lb lc _ _ _ W (HG1.out.mono hW) (HG2.out.mono hW) (HG3.out.mono hW) (by have := HN1.out; omega) (by have := HN2.out; omega) (by have := HN3.out; omega))
      rw [← HTG.out] at TGX HGA
      clear HTG TGL
      obtain ⟨x10, hx10⟩ : ∃ x, x = la.getD 0 0 := ⟨_, rfl⟩
      rw [← hx10] at y10 HBA HGA
      clear hx10
      have f10 := fun p' : Ext wp => Ext.cell' y10 p'
      clear y10
      obtain ⟨x11, hx11⟩ : ∃ x, x = la.getD 1 0 := ⟨_, rfl⟩
      rw [← hx11] at y11 HBA HGA
      clear hx11
      have f11 := fun p' : Ext wp => Ext.cell' y11 p'
      clear y11
      obtain ⟨x20, hx20⟩ : ∃ x, x = lb.getD 0 0 := ⟨_, rfl⟩
      rw [← hx20] at y20 HBA HGA
      clear hx20
      have f20 := fun p' : Ext wp => Ext.cell' y20 p'
      clear y20
      obtain ⟨x21, hx21⟩ : ∃ x, x = lb.getD 1 0 := ⟨_, rfl⟩
      rw [← hx21] at y21 HBA HGA
      clear hx21
      have f21 := fun p' : Ext wp => Ext.cell' y21 p'
      clear y21
      obtain ⟨x30, hx30⟩ : ∃ x, x = lc.getD 0 0 := ⟨_, rfl⟩
      rw [← hx30] at y30 HBA HGA
      clear hx30
      have f30 := fun p' : Ext wp => Ext.cell' y30 p'
      clear y30
      obtain ⟨x31, hx31⟩ : ∃ x, x = lc.getD 1 0 := ⟨_, rfl⟩
      rw [← hx31] at y31 HBA HGA
      clear hx31
      have f31 := fun p' : Ext wp => Ext.cell' y31 p'
      clear y31
      by_cases d0 : x10 = x20
      case neg =>
        have d0b : (x10 != x20) = true := by simpa using d0
        have HBA9 := Lib.hid (HBA.out (.inr (.inr (.inr (.inl d0)))))
        clear HBA HGA
        (refine wp_region_quiet_ext (by kernel_rfl) (by kernel_rfl) ?_; (repeat (go_big_quiet_step ((fail)))); refine wpQuiet_nil ?_; rintro wq ⟨⟨_, hbq⟩, rfl⟩; obtain ⟨hccq, hffq⟩ := Bw.cells hbq; have hszq := Bw.size hbq)
        replace HBW := Lib.hid (HBW.out.trans hbq)
        replace KR := Lib.hid (KR.out.bw hbq)
        go_wp2_with ((with_reducible refine at_store 25 (.tmp 2) (.tmp 97) ?_); refine wpList_store_row rfl 25 (.tmp 2) (.tmp 97) rfl w.heap.size #[.int .i64 0, .int .i64 0, .int .i64 0, .int .i64 0, .int .i64 0, .int .i64 0, .int .i64 0, .int .i64 0, .int .i64 0, .int .i64 0, .int .i64 0, .int .i64 0, .int .i64 0, .int .i64 0, .int .i64 0, .int .i64 0, .int .i64 0, .int .i64 0, .int .i64 0] rfl rfl 25 _ KR.out (by kernel_rfl) rfl (by simp [Value.oneCell']) ?_)
        have F3 : Blk (World.setRow wq w.heap.size #[.int .i64 0, .int .i64 0, .int .i64 0, .int .i64 0, .int .i64 0, .int .i64 0, .int .i64 0, .int .i64 0, .int .i64 0, .int .i64 0, .int .i64 0, .int .i64 0, .int .i64 0, .int .i64 0, .int .i64 0, .int .i64 0, .int .i64 0, .int .i64 0, .int .i64 0]) w.heap.size 25 (eV zE) := KR.out.row _
        have B3 := Bw.setRow HBW.out (Nat.le_refl w.heap.size) #[.int .i64 0, .int .i64 0, .int .i64 0, .int .i64 0, .int .i64 0, .int .i64 0, .int .i64 0, .int .i64 0, .int .i64 0, .int .i64 0, .int .i64 0, .int .i64 0, .int .i64 0, .int .i64 0, .int .i64 0, .int .i64 0, .int .i64 0, .int .i64 0, .int .i64 0]
        generalize World.setRow wq _ _ = WF at F3 B3 ⊢
        refine bodyPost_ret (v := .tuple #[.agg (eV zE), .int .i64 18]) ?_ rfl ⟨?_, B3⟩
        · exact res_eph (p := 2) (u := 3) rfl _ _ _ _ rfl F3
        · have h9 := HBA9.out; injection h9 with h8 h7; rw [h8, h7]
      have D0 := Lib.hid d0
      have d0b : (x10 != x20) = false := by simpa using d0
      clear d0
      by_cases d1 : x10 = x30
      case neg =>
        have d1b : (x10 != x30) = true := by simpa using d1
        have HBA9 := Lib.hid (HBA.out (.inr (.inr (.inr (.inr (.inl d1))))))
        clear HBA HGA
        (refine wp_region_quiet_ext (by kernel_rfl) (by kernel_rfl) ?_; (repeat (go_big_quiet_step ((fail)))); refine wpQuiet_nil ?_; rintro wq ⟨⟨_, hbq⟩, rfl⟩; obtain ⟨hccq, hffq⟩ := Bw.cells hbq; have hszq := Bw.size hbq)
        replace HBW := Lib.hid (HBW.out.trans hbq)
        replace KR := Lib.hid (KR.out.bw hbq)
        go_wp2_with ((with_reducible refine at_store 25 (.tmp 2) (.tmp 97) ?_); refine wpList_store_row rfl 25 (.tmp 2) (.tmp 97) rfl w.heap.size #[.int .i64 0, .int .i64 0, .int .i64 0, .int .i64 0, .int .i64 0, .int .i64 0, .int .i64 0, .int .i64 0, .int .i64 0, .int .i64 0, .int .i64 0, .int .i64 0, .int .i64 0, .int .i64 0, .int .i64 0, .int .i64 0, .int .i64 0, .int .i64 0, .int .i64 0] rfl rfl 25 _ KR.out (by kernel_rfl) rfl (by simp [Value.oneCell']) ?_)
        have F3 : Blk (World.setRow wq w.heap.size #[.int .i64 0, .int .i64 0, .int .i64 0, .int .i64 0, .int .i64 0, .int .i64 0, .int .i64 0, .int .i64 0, .int .i64 0, .int .i64 0, .int .i64 0, .int .i64 0, .int .i64 0, .int .i64 0, .int .i64 0, .int .i64 0, .int .i64 0, .int .i64 0, .int .i64 0]) w.heap.size 25 (eV zE) := KR.out.row _
        have B3 := Bw.setRow HBW.out (Nat.le_refl w.heap.size) #[.int .i64 0, .int .i64 0, .int .i64 0, .int .i64 0, .int .i64 0, .int .i64 0, .int .i64 0, .int .i64 0, .int .i64 0, .int .i64 0, .int .i64 0, .int .i64 0, .int .i64 0, .int .i64 0, .int .i64 0, .int .i64 0, .int .i64 0, .int .i64 0, .int .i64 0]
        generalize World.setRow wq _ _ = WF at F3 B3 ⊢
        refine bodyPost_ret (v := .tuple #[.agg (eV zE), .int .i64 18]) ?_ rfl ⟨?_, B3⟩
        · exact res_eph (p := 2) (u := 3) rfl _ _ _ _ rfl F3
        · have h9 := HBA9.out; injection h9 with h8 h7; rw [h8, h7]
      have D1 := Lib.hid d1
      have d1b : (x10 != x30) = false := by simpa using d1
      clear d1
      by_cases d2 : x11 = x21
      case neg =>
        have d2b : (x11 != x21) = true := by simpa using d2
        have HBA9 := Lib.hid (HBA.out (.inr (.inr (.inr (.inr (.inr (.inl d2)))))))
        clear HBA HGA
        (refine wp_region_quiet_ext (by kernel_rfl) (by kernel_rfl) ?_; (repeat (go_big_quiet_step ((fail)))); refine wpQuiet_nil ?_; rintro wq ⟨⟨_, hbq⟩, rfl⟩; obtain ⟨hccq, hffq⟩ := Bw.cells hbq; have hszq := Bw.size hbq)
        replace HBW := Lib.hid (HBW.out.trans hbq)
        replace KR := Lib.hid (KR.out.bw hbq)
        go_wp2_with ((with_reducible refine at_store 25 (.tmp 2) (.tmp 97) ?_); refine wpList_store_row rfl 25 (.tmp 2) (.tmp 97) rfl w.heap.size #[.int .i64 0, .int .i64 0, .int .i64 0, .int .i64 0, .int .i64 0, .int .i64 0, .int .i64 0, .int .i64 0, .int .i64 0, .int .i64 0, .int .i64 0, .int .i64 0, .int .i64 0, .int .i64 0, .int .i64 0, .int .i64 0, .int .i64 0, .int .i64 0, .int .i64 0] rfl rfl 25 _ KR.out (by kernel_rfl) rfl (by simp [Value.oneCell']) ?_)
        have F3 : Blk (World.setRow wq w.heap.size #[.int .i64 0, .int .i64 0, .int .i64 0, .int .i64 0, .int .i64 0, .int .i64 0, .int .i64 0, .int .i64 0, .int .i64 0, .int .i64 0, .int .i64 0, .int .i64 0, .int .i64 0, .int .i64 0, .int .i64 0, .int .i64 0, .int .i64 0, .int .i64 0, .int .i64 0]) w.heap.size 25 (eV zE) := KR.out.row _
        have B3 := Bw.setRow HBW.out (Nat.le_refl w.heap.size) #[.int .i64 0, .int .i64 0, .int .i64 0, .int .i64 0, .int .i64 0, .int .i64 0, .int .i64 0, .int .i64 0, .int .i64 0, .int .i64 0, .int .i64 0, .int .i64 0, .int .i64 0, .int .i64 0, .int .i64 0, .int .i64 0, .int .i64 0, .int .i64 0, .int .i64 0]
        generalize World.setRow wq _ _ = WF at F3 B3 ⊢
        refine bodyPost_ret (v := .tuple #[.agg (eV zE), .int .i64 18]) ?_ rfl ⟨?_, B3⟩
        · exact res_eph (p := 2) (u := 3) rfl _ _ _ _ rfl F3
        · have h9 := HBA9.out; injection h9 with h8 h7; rw [h8, h7]
      have D2 := Lib.hid d2
      have d2b : (x11 != x21) = false := by simpa using d2
      clear d2
      by_cases d3 : x11 = x31
      case neg =>
        have d3b : (x11 != x31) = true := by simpa using d3
        have HBA9 := Lib.hid (HBA.out (.inr (.inr (.inr (.inr (.inr (.inr (d3))))))))
        clear HBA HGA
        (refine wp_region_quiet_ext (by kernel_rfl) (by kernel_rfl) ?_; (repeat (go_big_quiet_step ((fail)))); refine wpQuiet_nil ?_; rintro wq ⟨⟨_, hbq⟩, rfl⟩; obtain ⟨hccq, hffq⟩ := Bw.cells hbq; have hszq := Bw.size hbq)
        replace HBW := Lib.hid (HBW.out.trans hbq)
        replace KR := Lib.hid (KR.out.bw hbq)
        go_wp2_with ((with_reducible refine at_store 25 (.tmp 2) (.tmp 97) ?_); refine wpList_store_row rfl 25 (.tmp 2) (.tmp 97) rfl w.heap.size #[.int .i64 0, .int .i64 0, .int .i64 0, .int .i64 0, .int .i64 0, .int .i64 0, .int .i64 0, .int .i64 0, .int .i64 0, .int .i64 0, .int .i64 0, .int .i64 0, .int .i64 0, .int .i64 0, .int .i64 0, .int .i64 0, .int .i64 0, .int .i64 0, .int .i64 0] rfl rfl 25 _ KR.out (by kernel_rfl) rfl (by simp [Value.oneCell']) ?_)
        have F3 : Blk (World.setRow wq w.heap.size #[.int .i64 0, .int .i64 0, .int .i64 0, .int .i64 0, .int .i64 0, .int .i64 0, .int .i64 0, .int .i64 0, .int .i64 0, .int .i64 0, .int .i64 0, .int .i64 0, .int .i64 0, .int .i64 0, .int .i64 0, .int .i64 0, .int .i64 0, .int .i64 0, .int .i64 0]) w.heap.size 25 (eV zE) := KR.out.row _
        have B3 := Bw.setRow HBW.out (Nat.le_refl w.heap.size) #[.int .i64 0, .int .i64 0, .int .i64 0, .int .i64 0, .int .i64 0, .int .i64 0, .int .i64 0, .int .i64 0, .int .i64 0, .int .i64 0, .int .i64 0, .int .i64 0, .int .i64 0, .int .i64 0, .int .i64 0, .int .i64 0, .int .i64 0, .int .i64 0, .int .i64 0]
        generalize World.setRow wq _ _ = WF at F3 B3 ⊢
        refine bodyPost_ret (v := .tuple #[.agg (eV zE), .int .i64 18]) ?_ rfl ⟨?_, B3⟩
        · exact res_eph (p := 2) (u := 3) rfl _ _ _ _ rfl F3
        · have h9 := HBA9.out; injection h9 with h8 h7; rw [h8, h7]
      have D3 := Lib.hid d3
      have d3b : (x11 != x31) = false := by simpa using d3
      clear d3
      have HGA9 := Lib.hid (HGA.out (by have := HN1.out; have := HN2.out; have := HN3.out; have := D0.out; have := D1.out; have := D2.out; have := D3.out; omega))
      clear HBA HGA
      (refine wp_region_quiet_ext (by kernel_rfl) (by kernel_rfl) ?_; (repeat (go_big_quiet_step ((fail)))); refine wpQuiet_nil ?_; rintro wq ⟨⟨_, hbq⟩, rfl⟩; obtain ⟨hccq, hffq⟩ := Bw.cells hbq; have hszq := Bw.size hbq)
      replace HBW := Lib.hid (HBW.out.trans hbq)
      replace KR := Lib.hid (KR.out.bw hbq)
      have HBQ := Lib.hid hbq
      clear hbq hccq hffq hszq f10 f11 f20 f21 f30 f31
      go_wp2_with (first | (go_at_call 39; (with_reducible refine Calls.mono (TGX.out _ HBQ.out) ?_); rintro e4 w6 ⟨rfl, hb9⟩; replace HBW := Lib.hid (HBW.out.trans hb9); replace KR := Lib.hid (KR.out.bw hb9); clear hb9) | ((with_reducible refine at_store 25 (.tmp 2) (.tmp 101) ?_); refine wpList_store_row rfl 25 (.tmp 2) (.tmp 101) rfl w.heap.size (eV TG) rfl rfl 25 _ KR.out (by kernel_rfl) rfl (by simp [Value.oneCell', eV]) ?_))
      have F3 : Blk (World.setRow w6 w.heap.size (eV TG)) w.heap.size 25 (eV TG) := KR.out.row _
      have B3 := Bw.setRow HBW.out (Nat.le_refl w.heap.size) (eV TG)
      generalize World.setRow w6 _ _ = WF at F3 B3 ⊢
      refine bodyPost_ret (v := .tuple #[.agg (eV TG), .int .i64 0]) ?_ rfl ⟨?_, B3⟩
      · exact res_eph (p := 2) (u := 3) rfl _ _ _ _ rfl F3
      · have h9 := HGA9.out; injection h9 with h8 h7; rw [h8, h7]
end Go.Proofs.Sky

namespace Go.Proofs.Sky
open Go Go.RowKit Go.Shelf
set_option maxHeartbeats 2000000
set_option maxRecDepth 8000
/-! chapter 26: the two Reads are one -/
theorem getN_head (zs : List Int) (a : Nat) : ∀ k, getN zs a (k + 1) = zs.getD a 0 * 2 ^ k + getN zs (a + 1) k := by
  intro k
  induction k with
  | zero => simp [getN]
  | succ k ih =>
    rw [getN, ih]
    show _ = _ * 2 ^ (k + 1) + (2 * getN zs (a + 1) k + zs.getD (a + 1 + k) 0)
    rw [show a + (k + 1) = a + 1 + k by omega, Int.pow_succ, ← Int.mul_assoc]
    omega
theorem ls_more : ∀ k, k < 3 → ∀ i, i < (LS k).length → (0 ≤ atS (LS k) i ∧ 1 ≤ ((LS k).getD i (0, false, 0)).1 ∧ ((LS k).getD i (0, false, 0)).1 ≤ 32 ∧ atS (LS k) i + ((LS k).getD i (0, false, 0)).1 ≤ 206) := by decide
theorem rvS_X {zs : List Int} {k i : Nat} (hk : k < 3) (hi : i < (LS k).length) (hl : zs.length = 206) (hb : ∀ q, zs.getD q 0 = 0 ∨ zs.getD q 0 = 1) : rvS (LS k) zs i = rvX zs k i := by
  obtain ⟨h1, h2, h3, h4⟩ := ls_more k hk i hi
  obtain ⟨n1, n2, _⟩ := ls_facts k hk i hi
  have hE : errT zs (fdS (LS k) i).a (fdS (LS k) i).n (fdS (LS k) i).u (fdS (LS k) i).c = 0 := by
    have hfk : fk (fdS (LS k) i).a (fdS (LS k) i).n (fdS (LS k) i).u (fdS (LS k) i).c := by unfold fk fdS; dsimp only; omega
    unfold errT
    rw [errF_ok hfk, if_pos rfl, if_neg (by unfold fdS; dsimp only; omega), if_pos ((oksP_iff _ _ _).2 (fun j hj => hb _))]
  unfold rvS getR
  rw [if_pos hE]
  unfold getV rvX
  rw [show (fdS (LS k) i).a.toNat = atN k i from rfl, show (fdS (LS k) i).n.toNat = nN k i from rfl, show (fdS (LS k) i).g = sgN k i from rfl, show (fdS (LS k) i).u = 1 from rfl, show (fdS (LS k) i).c = 0 from rfl, Int.mul_one, Int.zero_add]
  cases hg : sgN k i with
  | false => simp [sgnV]
  | true =>
    obtain ⟨m, hm⟩ : ∃ m, nN k i = m + 1 := ⟨nN k i - 1, by omega⟩
    rw [hm]
    have e2 := getN_head zs (atN k i) m
    have hbd := getN_bd zs (atN k i + 1) m (fun j hj => hb _)
    have h0 := hb (atN k i)
    have e3 : (2 : Int) ^ (m + 1) = 2 * 2 ^ m := by rw [Int.pow_succ, Int.mul_comm]
    simp only [sgnV, if_true, true_and]
    unfold sx
    rw [Nat.add_sub_cancel, e3]
    generalize (2 : Int) ^ m = P at *
    rcases h0 with h0 | h0
    · rw [h0] at e2 ⊢
      rw [if_neg (show ¬ ((0 : Int) = 1) by decide)]
      split <;> omega
    · rw [h0] at e2 ⊢
      rw [if_pos (show (1 : Int) = 1 from rfl)]
      split <;> omega
theorem okB_bit2 {zs : List Int} (hl : zs.length = 206) : okB zs = bit2 zs := by
  rw [Bool.eq_iff_iff]
  constructor
  · intro h; exact bit2_yes (fun j _ => okB_at h j)
  · intro h
    unfold okB
    rw [Bool.not_eq_true', List.any_eq_false]
    intro d hd
    obtain ⟨j, hj, rfl⟩ := List.getElem_of_mem hd
    have := of_decide_eq_true (List.all_eq_true.1 h j (List.mem_range.2 (by omega)))
    rw [List.getD_eq_getElem?_getD, List.getElem?_eq_getElem hj] at this
    simp only [Option.getD_some] at this
    rcases this with h9 | h9 <;> rw [h9] <;> decide
theorem tail_tl0 {zs : List Int} (hl : zs.length = 206) (A : Nat) : (!((zs.drop A).any fun d => (1 : Int) == d)) = tl0 zs A := by
  rw [Bool.eq_iff_iff, Bool.not_eq_true', List.any_eq_false]
  constructor
  · intro h
    refine tl0_yes (fun j h1 h2 h9 => ?_)
    rw [List.getD_eq_getElem?_getD, List.getElem?_eq_getElem (by omega : j < zs.length)] at h9
    have h8 : zs[j]'(by omega) ∈ zs.drop A := by
      rw [List.mem_iff_getElem]
      exact ⟨j - A, by rw [List.length_drop]; omega, by rw [List.getElem_drop]; congr 1; omega⟩
    refine h _ h8 ?_
    simp only [Option.getD_some] at h9
    rw [h9]; rfl
  · intro h d hd h9
    obtain ⟨j, hj, rfl⟩ := List.getElem_of_mem hd
    rw [List.length_drop] at hj
    rw [List.getElem_drop] at h9
    have h7 := tl0_no (zs := zs) (A := A) (j := A + j) (by omega) (by omega) (by rw [List.getD_eq_getElem?_getD, List.getElem?_eq_getElem (by omega)]; exact (eq_of_beq h9).symm)
    rw [h] at h7; cases h7
theorem kd_sub {k : Int} (h1 : 1 ≤ k) (h3 : k ≤ 3) : (k - 1).toNat = kdN k := by
  unfold kdN
  by_cases a : k = 1
  · subst a; rfl
  · rw [if_neg a]
    by_cases b : k = 2
    · subst b; rfl
    · rw [if_neg b]; omega
/-- a frame that is good for both -/
structure Gd (k : Int) (zs : List Int) : Prop where
  k1 : 1 ≤ k
  k3 : k ≤ 3
  len : zs.length = 206
  bit : ∀ q, zs.getD q 0 = 0 ∨ zs.getD q 0 = 1
theorem gdF_of {k : Int} {zs : List Int} (h : gdF k zs = true) : Gd k zs := by
  unfold gdF at h
  simp only [Bool.and_eq_true, decide_eq_true_eq] at h
  exact ⟨h.1.1.1, h.1.1.2.1, h.1.1.2.2, fun q => okB_at h.1.2 q⟩
theorem gdF_eq {k : Int} {zs : List Int} (h1 : 1 ≤ k) (h3 : k ≤ 3) : gdF k zs = (decide (zs.length = 206) && bit2 zs && tl0 zs (atN (kdN k) (LS (kdN k)).length)) := by
  unfold gdF
  by_cases hl : zs.length = 206
  · rw [decide_eq_true ⟨h1, h3, hl⟩, decide_eq_true hl, okB_bit2 hl, kd_sub h1 h3, ← tail_tl0 hl]; rfl
  · rw [decide_eq_false (fun h => hl h.2.2), decide_eq_false hl]; rfl
theorem set_prn (y v : Nat → Int) (k : Nat) (hk : k < 3) : setL y (LS k) v (LS k).length 0 = v 1 := by
  match k, hk with
  | 0, _ => rfl
  | 1, _ => rfl
  | 2, _ => rfl
theorem set_iss (y v : Nat → Int) (k : Nat) (hk : k < 3) : setL y (LS k) v (LS k).length 1 = v 0 := by
  match k, hk with
  | 0, _ => rfl
  | 1, _ => rfl
  | 2, _ => rfl
theorem set_t0 (y v : Nat → Int) (k : Nat) (hk : k < 3) : setL y (LS k) v (LS k).length 2 = if k = 0 then v 2 else y 2 := by
  match k, hk with
  | 0, _ => rfl
  | 1, _ => rfl
  | 2, _ => rfl
theorem bel_rok (t k : Int) (zs : List Int) : belB t k zs = rokP t k zs := by
  unfold belB rokP
  by_cases hk : 1 ≤ k ∧ k ≤ 3
  · obtain ⟨h1, h3⟩ := hk
    have hG := gdF_eq (zs := zs) h1 h3
    have ht : decide (1 ≤ k ∧ k ≤ 3 ∧ 0 ≤ t ∧ t ≤ 131071) = decide (0 ≤ t ∧ t < 131072) := by rw [decide_eq_decide]; omega
    rw [ht, Bool.and_comm]
    congr 1
    unfold fillB rokV
    rw [← hG]
    cases hg : gdF k zs with
    | false => rfl
    | true =>
      have hgd := gdF_of hg
      have hk3 := kdN_lt k
      rw [Bool.true_and, Bool.true_and]
      unfold fillX
      rw [if_pos hg, kd_sub h1 h3, set_prn _ _ _ hk3, set_t0 _ _ _ hk3, rvS_X hk3 (by have := (ls_len _ hk3).2.1; omega) hgd.len hgd.bit, rvS_X hk3 (by have := (ls_len _ hk3).2.1; omega) hgd.len hgd.bit, decide_eq_decide]
      by_cases hk1 : k = 1
      · subst hk1; rw [if_pos (show kdN 1 = 0 from rfl)]; omega
      · rw [if_neg (by unfold kdN; rw [if_neg hk1]; split <;> omega)]
        show (0 < _ ∧ (0 : Int) < 604800) ↔ _
        constructor
        · intro h; exact ⟨h.1, .inl hk1⟩
        · intro h; exact ⟨h.1, by omega⟩
  · have h1 : fillB zE k zs = false := by
      unfold fillB gdF
      rw [decide_eq_false (fun h => hk ⟨h.1, h.2.1⟩)]; rfl
    rw [h1, Bool.false_and, decide_eq_false (fun h : 1 ≤ k ∧ k ≤ 3 ∧ 0 ≤ t ∧ t ≤ 131071 => hk ⟨h.1, h.2.1⟩)]; rfl
end Go.Proofs.Sky

namespace Go.Proofs.Sky
open Go Go.RowKit Go.Shelf
set_option maxHeartbeats 2000000
set_option maxRecDepth 8000
theorem setL_congr (y : Nat → Int) (L : List (Int × Bool × Nat)) (u v : Nat → Int) : ∀ n, (∀ i, i < n → u i = v i) → setL y L u n = setL y L v n := by
  intro n
  induction n with
  | zero => intro _; rfl
  | succ n ih => intro h; rw [setL, setL, ih (fun i hi => h i (by omega)), h n (by omega)]
theorem eV_congr {x y : Nat → Int} (h : ∀ i, i < 19 → x i = y i) : eV x = eV y := by
  unfold eV
  rw [h 0 (by omega), h 1 (by omega), h 2 (by omega), h 3 (by omega), h 4 (by omega), h 5 (by omega), h 6 (by omega), h 7 (by omega), h 8 (by omega), h 9 (by omega), h 10 (by omega), h 11 (by omega), h 12 (by omega), h 13 (by omega), h 14 (by omega), h 15 (by omega), h 16 (by omega), h 17 (by omega), h 18 (by omega)]
theorem ok_all (F : Nat → Fr) : okAll F = allP F := by
  unfold okAll allP
  congr 1
  funext j
  exact bel_rok _ _ _
theorem fill_X {k : Int} {zs : List Int} (y : Nat → Int) (h : gdF k zs = true) : fillX y k zs = setL y (LS (kdN k)) (rvX zs (kdN k)) (LS (kdN k)).length := by
  have hg := gdF_of h
  unfold fillX
  rw [if_pos h, kd_sub hg.k1 hg.k3]
  exact setL_congr _ _ _ _ _ (fun i hi => rvS_X (kdN_lt k) hi hg.len hg.bit)
theorem rok_gd {t k : Int} {zs : List Int} (h : rokP t k zs = true) : gdF k zs = true ∧ (k = 1 ∨ k = 2 ∨ k = 3) := by
  rw [← bel_rok] at h
  have h2 := belB_kind h
  unfold belB fillB at h
  simp only [Bool.and_eq_true] at h
  exact ⟨h.1.1, by omega⟩
theorem rvL_get (zs : List Int) (k i : Nat) (h : i < (LS k).length) : (rvL zs k).getD i 0 = rvX zs k i := by
  unfold rvL
  rw [List.getD_eq_getElem?_getD, List.getElem?_map, List.getElem?_range h]; rfl
def Core (F : Nat → Fr) : Prop :=
  eV (if (cntK F 1 3 = 1 ∧ cntK F 2 3 = 1 ∧ cntK F 3 3 = 1) ∧ sameAll F = true then (outE F 3, (0 : Int)) else (zE, 18)).1 = eV (if apart (ofK F 3 1) (ofK F 3 2) (ofK F 3 3) = true then (zE, (18 : Int)) else (togE (ofK F 3 1) (ofK F 3 2) (ofK F 3 3), 0)).1 ∧
  (if (cntK F 1 3 = 1 ∧ cntK F 2 3 = 1 ∧ cntK F 3 3 = 1) ∧ sameAll F = true then (outE F 3, (0 : Int)) else (zE, 18)).2 = (if apart (ofK F 3 1) (ofK F 3 2) (ofK F 3 3) = true then (zE, (18 : Int)) else (togE (ofK F 3 1) (ofK F 3 2) (ofK F 3 3), 0)).2
theorem core_no {F : Nat → Fr} (h1 : ¬ (cntK F 1 3 = 1 ∧ cntK F 2 3 = 1 ∧ cntK F 3 3 = 1)) (h2 : (ofK F 3 1).length = 0 ∨ (ofK F 3 2).length = 0 ∨ (ofK F 3 3).length = 0) : Core F := by
  unfold Core
  rw [if_neg (fun h => h1 h.1), if_pos (apart_iff.2 (by rcases h2 with h | h | h; exact .inl h; exact .inr (.inl h); exact .inr (.inr (.inl h))))]
  exact ⟨rfl, rfl⟩
theorem core_yes {F : Nat → Fr} {A B C : List Int} (h1 : cntK F 1 3 = 1 ∧ cntK F 2 3 = 1 ∧ cntK F 3 3 = 1) (ha : ofK F 3 1 = A) (hb : ofK F 3 2 = B) (hc : ofK F 3 3 = C) (na : 0 < A.length) (nb : 0 < B.length) (nc : 0 < C.length)
    (hs : sameAll F = true ↔ (A.getD 0 0 = B.getD 0 0 ∧ A.getD 0 0 = C.getD 0 0 ∧ A.getD 1 0 = B.getD 1 0 ∧ A.getD 1 0 = C.getD 1 0))
    (ho : (A.getD 0 0 = B.getD 0 0 ∧ A.getD 0 0 = C.getD 0 0 ∧ A.getD 1 0 = B.getD 1 0 ∧ A.getD 1 0 = C.getD 1 0) → eV (outE F 3) = eV (togE A B C)) : Core F := by
  unfold Core
  rw [ha, hb, hc]
  by_cases h : sameAll F = true
  · have h9 := hs.1 h
    rw [if_pos ⟨h1, h⟩, if_neg (fun h8 => by have := apart_iff.1 h8; omega)]
    exact ⟨ho h9, rfl⟩
  · rw [if_neg (fun h9 => h h9.2), if_pos (apart_iff.2 (by
      by_cases a1 : A.getD 0 0 = B.getD 0 0
      · by_cases a2 : A.getD 0 0 = C.getD 0 0
        · by_cases a3 : A.getD 1 0 = B.getD 1 0
          · by_cases a4 : A.getD 1 0 = C.getD 1 0
            · exact absurd (hs.2 ⟨a1, a2, a3, a4⟩) h
            · exact .inr (.inr (.inr (.inr (.inr (.inr a4)))))
          · exact .inr (.inr (.inr (.inr (.inr (.inl a3)))))
        · exact .inr (.inr (.inr (.inr (.inl a2))))
      · exact .inr (.inr (.inr (.inl a1)))))]
    exact ⟨rfl, rfl⟩
theorem core_all (F : Nat → Fr) (h : allP F = true) : Core F := by
  have hh := (allP_iff F).1 h
  obtain ⟨g0, k0⟩ := rok_gd (hh 0 (by omega))
  obtain ⟨g1, k1⟩ := rok_gd (hh 1 (by omega))
  obtain ⟨g2, k2⟩ := rok_gd (hh 2 (by omega))
  clear hh h
  have hs := sameAll_iff F
  have hO : outE F 3 = fillX (fillX (fillX zE (F 0).k (F 0).l) (F 1).k (F 1).l) (F 2).k (F 2).l := rfl
  have c1 : ∀ m, cntK F m 3 = ((0 + if (F 0).k = (m : Int) then 1 else 0) + if (F 1).k = (m : Int) then 1 else 0) + if (F 2).k = (m : Int) then 1 else 0 := fun m => rfl
  have c2 : ∀ m, ofK F 3 m = if (m : Int) = (F 2).k then rvL (F 2).l (kdN (F 2).k) else if (m : Int) = (F 1).k then rvL (F 1).l (kdN (F 1).k) else if (m : Int) = (F 0).k then rvL (F 0).l (kdN (F 0).k) else [] := fun m => rfl
  have hb : ∀ j, gdF (F j).k (F j).l = true → belX (F j).k (F j).l 1 = rvX (F j).l (kdN (F j).k) 0 ∧ belX (F j).k (F j).l 0 = rvX (F j).l (kdN (F j).k) 1 := fun j hj => by
    unfold belX
    rw [fill_X _ hj, set_iss _ _ _ (kdN_lt _), set_prn _ _ _ (kdN_lt _)]
    exact ⟨rfl, rfl⟩
  obtain ⟨b01, b00⟩ := hb 0 g0
  obtain ⟨b11, b10⟩ := hb 1 g1
  obtain ⟨b21, b20⟩ := hb 2 g2
  rw [fill_X _ g0, fill_X _ g1, fill_X _ g2] at hO
  have hs2 : sameAll F = true ↔ (rvX (F 1).l (kdN (F 1).k) 0 = rvX (F 0).l (kdN (F 0).k) 0 ∧ rvX (F 1).l (kdN (F 1).k) 1 = rvX (F 0).l (kdN (F 0).k) 1 ∧ rvX (F 2).l (kdN (F 2).k) 0 = rvX (F 0).l (kdN (F 0).k) 0 ∧ rvX (F 2).l (kdN (F 2).k) 1 = rvX (F 0).l (kdN (F 0).k) 1) := by
    rw [hs]
    constructor
    · intro h
      have h1 := h 1 (by omega)
      have h2 := h 2 (by omega)
      rw [b01, b00, b11, b10] at h1
      rw [b01, b00, b21, b20] at h2
      exact ⟨h1.1, h1.2, h2.1, h2.2⟩
    · intro h j hj
      match j, hj with
      | 0, _ => exact ⟨rfl, rfl⟩
      | 1, _ => rw [b01, b00, b11, b10]; exact ⟨h.1, h.2.1⟩
      | 2, _ => rw [b01, b00, b21, b20]; exact ⟨h.2.2.1, h.2.2.2⟩
  clear hs hb b01 b00 b11 b10 b21 b20 g0 g1 g2
  generalize (F 0).k = q0 at *
  generalize (F 1).k = q1 at *
  generalize (F 2).k = q2 at *
  generalize (F 0).l = l0 at *
  generalize (F 1).l = l1 at *
  generalize (F 2).l = l2 at *
  rcases k0 with rfl | rfl | rfl
  · rcases k1 with rfl | rfl | rfl
    · rcases k2 with rfl | rfl | rfl
      · exact core_no (by rw [c1, c1, c1]; decide) (.inr (.inl (by rw [c2]; rfl)))
      · exact core_no (by rw [c1, c1, c1]; decide) (.inr (.inr (by rw [c2]; rfl)))
      · exact core_no (by rw [c1, c1, c1]; decide) (.inr (.inl (by rw [c2]; rfl)))
    · rcases k2 with rfl | rfl | rfl
      · exact core_no (by rw [c1, c1, c1]; decide) (.inr (.inr (by rw [c2]; rfl)))
      · exact core_no (by rw [c1, c1, c1]; decide) (.inr (.inr (by rw [c2]; rfl)))
      · refine core_yes (A := (rvL l0 0)) (B := (rvL l1 1)) (C := (rvL l2 2)) ⟨by rw [c1]; rfl, by rw [c1]; rfl, by rw [c1]; rfl⟩ (by rw [c2]; rfl) (by rw [c2]; rfl) (by rw [c2]; rfl) (by rw [rvL_len]; decide) (by rw [rvL_len]; decide) (by rw [rvL_len]; decide) ?_ ?_
        · rw [hs2, rvL_get _ _ _ (by decide), rvL_get _ _ _ (by decide), rvL_get _ _ _ (by decide), rvL_get _ _ _ (by decide), rvL_get _ _ _ (by decide), rvL_get _ _ _ (by decide)]
          rw [show kdN 1 = 0 from rfl, show kdN 2 = 1 from rfl, show kdN 3 = 2 from rfl]
          omega
        · rintro ⟨e1, e2, e3, e4⟩
          rw [hO]
          refine eV_congr (fun i hi => ?_)
          match i, hi with
          | 0, _ => exact e4.symm
          | 1, _ => exact e2.symm
          | 2, _ => rfl
          | 3, _ => rfl
          | 4, _ => rfl
          | 5, _ => rfl
          | 6, _ => rfl
          | 7, _ => rfl
          | 8, _ => rfl
          | 9, _ => rfl
          | 10, _ => rfl
          | 11, _ => rfl
          | 12, _ => rfl
          | 13, _ => rfl
          | 14, _ => rfl
          | 15, _ => rfl
          | 16, _ => rfl
          | 17, _ => rfl
          | 18, _ => rfl
          | n + 19, h => exact absurd h (by omega)
    · rcases k2 with rfl | rfl | rfl
      · exact core_no (by rw [c1, c1, c1]; decide) (.inr (.inl (by rw [c2]; rfl)))
      · refine core_yes (A := (rvL l0 0)) (B := (rvL l2 1)) (C := (rvL l1 2)) ⟨by rw [c1]; rfl, by rw [c1]; rfl, by rw [c1]; rfl⟩ (by rw [c2]; rfl) (by rw [c2]; rfl) (by rw [c2]; rfl) (by rw [rvL_len]; decide) (by rw [rvL_len]; decide) (by rw [rvL_len]; decide) ?_ ?_
        · rw [hs2, rvL_get _ _ _ (by decide), rvL_get _ _ _ (by decide), rvL_get _ _ _ (by decide), rvL_get _ _ _ (by decide), rvL_get _ _ _ (by decide), rvL_get _ _ _ (by decide)]
          rw [show kdN 1 = 0 from rfl, show kdN 3 = 2 from rfl, show kdN 2 = 1 from rfl]
          omega
        · rintro ⟨e1, e2, e3, e4⟩
          rw [hO]
          refine eV_congr (fun i hi => ?_)
          match i, hi with
          | 0, _ => exact e3.symm
          | 1, _ => exact e1.symm
          | 2, _ => rfl
          | 3, _ => rfl
          | 4, _ => rfl
          | 5, _ => rfl
          | 6, _ => rfl
          | 7, _ => rfl
          | 8, _ => rfl
          | 9, _ => rfl
          | 10, _ => rfl
          | 11, _ => rfl
          | 12, _ => rfl
          | 13, _ => rfl
          | 14, _ => rfl
          | 15, _ => rfl
          | 16, _ => rfl
          | 17, _ => rfl
          | 18, _ => rfl
          | n + 19, h => exact absurd h (by omega)
      · exact core_no (by rw [c1, c1, c1]; decide) (.inr (.inl (by rw [c2]; rfl)))
  · rcases k1 with rfl | rfl | rfl
    · rcases k2 with rfl | rfl | rfl
      · exact core_no (by rw [c1, c1, c1]; decide) (.inr (.inr (by rw [c2]; rfl)))
      · exact core_no (by rw [c1, c1, c1]; decide) (.inr (.inr (by rw [c2]; rfl)))
      · refine core_yes (A := (rvL l1 0)) (B := (rvL l0 1)) (C := (rvL l2 2)) ⟨by rw [c1]; rfl, by rw [c1]; rfl, by rw [c1]; rfl⟩ (by rw [c2]; rfl) (by rw [c2]; rfl) (by rw [c2]; rfl) (by rw [rvL_len]; decide) (by rw [rvL_len]; decide) (by rw [rvL_len]; decide) ?_ ?_
        · rw [hs2, rvL_get _ _ _ (by decide), rvL_get _ _ _ (by decide), rvL_get _ _ _ (by decide), rvL_get _ _ _ (by decide), rvL_get _ _ _ (by decide), rvL_get _ _ _ (by decide)]
          rw [show kdN 2 = 1 from rfl, show kdN 1 = 0 from rfl, show kdN 3 = 2 from rfl]
          omega
        · rintro ⟨e1, e2, e3, e4⟩
          rw [hO]
          refine eV_congr (fun i hi => ?_)
          match i, hi with
          | 0, _ => exact e4.symm
          | 1, _ => exact e2.symm
          | 2, _ => rfl
          | 3, _ => rfl
          | 4, _ => rfl
          | 5, _ => rfl
          | 6, _ => rfl
          | 7, _ => rfl
          | 8, _ => rfl
          | 9, _ => rfl
          | 10, _ => rfl
          | 11, _ => rfl
          | 12, _ => rfl
          | 13, _ => rfl
          | 14, _ => rfl
          | 15, _ => rfl
          | 16, _ => rfl
          | 17, _ => rfl
          | 18, _ => rfl
          | n + 19, h => exact absurd h (by omega)
    · rcases k2 with rfl | rfl | rfl
      · exact core_no (by rw [c1, c1, c1]; decide) (.inr (.inr (by rw [c2]; rfl)))
      · exact core_no (by rw [c1, c1, c1]; decide) (.inl (by rw [c2]; rfl))
      · exact core_no (by rw [c1, c1, c1]; decide) (.inl (by rw [c2]; rfl))
    · rcases k2 with rfl | rfl | rfl
      · refine core_yes (A := (rvL l2 0)) (B := (rvL l0 1)) (C := (rvL l1 2)) ⟨by rw [c1]; rfl, by rw [c1]; rfl, by rw [c1]; rfl⟩ (by rw [c2]; rfl) (by rw [c2]; rfl) (by rw [c2]; rfl) (by rw [rvL_len]; decide) (by rw [rvL_len]; decide) (by rw [rvL_len]; decide) ?_ ?_
        · rw [hs2, rvL_get _ _ _ (by decide), rvL_get _ _ _ (by decide), rvL_get _ _ _ (by decide), rvL_get _ _ _ (by decide), rvL_get _ _ _ (by decide), rvL_get _ _ _ (by decide)]
          rw [show kdN 2 = 1 from rfl, show kdN 3 = 2 from rfl, show kdN 1 = 0 from rfl]
          omega
        · rintro ⟨e1, e2, e3, e4⟩
          rw [hO]
          refine eV_congr (fun i hi => ?_)
          match i, hi with
          | 0, _ => exact rfl
          | 1, _ => exact rfl
          | 2, _ => rfl
          | 3, _ => rfl
          | 4, _ => rfl
          | 5, _ => rfl
          | 6, _ => rfl
          | 7, _ => rfl
          | 8, _ => rfl
          | 9, _ => rfl
          | 10, _ => rfl
          | 11, _ => rfl
          | 12, _ => rfl
          | 13, _ => rfl
          | 14, _ => rfl
          | 15, _ => rfl
          | 16, _ => rfl
          | 17, _ => rfl
          | 18, _ => rfl
          | n + 19, h => exact absurd h (by omega)
      · exact core_no (by rw [c1, c1, c1]; decide) (.inl (by rw [c2]; rfl))
      · exact core_no (by rw [c1, c1, c1]; decide) (.inl (by rw [c2]; rfl))
  · rcases k1 with rfl | rfl | rfl
    · rcases k2 with rfl | rfl | rfl
      · exact core_no (by rw [c1, c1, c1]; decide) (.inr (.inl (by rw [c2]; rfl)))
      · refine core_yes (A := (rvL l1 0)) (B := (rvL l2 1)) (C := (rvL l0 2)) ⟨by rw [c1]; rfl, by rw [c1]; rfl, by rw [c1]; rfl⟩ (by rw [c2]; rfl) (by rw [c2]; rfl) (by rw [c2]; rfl) (by rw [rvL_len]; decide) (by rw [rvL_len]; decide) (by rw [rvL_len]; decide) ?_ ?_
        · rw [hs2, rvL_get _ _ _ (by decide), rvL_get _ _ _ (by decide), rvL_get _ _ _ (by decide), rvL_get _ _ _ (by decide), rvL_get _ _ _ (by decide), rvL_get _ _ _ (by decide)]
          rw [show kdN 3 = 2 from rfl, show kdN 1 = 0 from rfl, show kdN 2 = 1 from rfl]
          omega
        · rintro ⟨e1, e2, e3, e4⟩
          rw [hO]
          refine eV_congr (fun i hi => ?_)
          match i, hi with
          | 0, _ => exact e3.symm
          | 1, _ => exact e1.symm
          | 2, _ => rfl
          | 3, _ => rfl
          | 4, _ => rfl
          | 5, _ => rfl
          | 6, _ => rfl
          | 7, _ => rfl
          | 8, _ => rfl
          | 9, _ => rfl
          | 10, _ => rfl
          | 11, _ => rfl
          | 12, _ => rfl
          | 13, _ => rfl
          | 14, _ => rfl
          | 15, _ => rfl
          | 16, _ => rfl
          | 17, _ => rfl
          | 18, _ => rfl
          | n + 19, h => exact absurd h (by omega)
      · exact core_no (by rw [c1, c1, c1]; decide) (.inr (.inl (by rw [c2]; rfl)))
    · rcases k2 with rfl | rfl | rfl
      · refine core_yes (A := (rvL l2 0)) (B := (rvL l1 1)) (C := (rvL l0 2)) ⟨by rw [c1]; rfl, by rw [c1]; rfl, by rw [c1]; rfl⟩ (by rw [c2]; rfl) (by rw [c2]; rfl) (by rw [c2]; rfl) (by rw [rvL_len]; decide) (by rw [rvL_len]; decide) (by rw [rvL_len]; decide) ?_ ?_
        · rw [hs2, rvL_get _ _ _ (by decide), rvL_get _ _ _ (by decide), rvL_get _ _ _ (by decide), rvL_get _ _ _ (by decide), rvL_get _ _ _ (by decide), rvL_get _ _ _ (by decide)]
          rw [show kdN 3 = 2 from rfl, show kdN 2 = 1 from rfl, show kdN 1 = 0 from rfl]
          omega
        · rintro ⟨e1, e2, e3, e4⟩
          rw [hO]
          refine eV_congr (fun i hi => ?_)
          match i, hi with
          | 0, _ => exact rfl
          | 1, _ => exact rfl
          | 2, _ => rfl
          | 3, _ => rfl
          | 4, _ => rfl
          | 5, _ => rfl
          | 6, _ => rfl
          | 7, _ => rfl
          | 8, _ => rfl
          | 9, _ => rfl
          | 10, _ => rfl
          | 11, _ => rfl
          | 12, _ => rfl
          | 13, _ => rfl
          | 14, _ => rfl
          | 15, _ => rfl
          | 16, _ => rfl
          | 17, _ => rfl
          | 18, _ => rfl
          | n + 19, h => exact absurd h (by omega)
      · exact core_no (by rw [c1, c1, c1]; decide) (.inl (by rw [c2]; rfl))
      · exact core_no (by rw [c1, c1, c1]; decide) (.inl (by rw [c2]; rfl))
    · rcases k2 with rfl | rfl | rfl
      · exact core_no (by rw [c1, c1, c1]; decide) (.inr (.inl (by rw [c2]; rfl)))
      · exact core_no (by rw [c1, c1, c1]; decide) (.inl (by rw [c2]; rfl))
      · exact core_no (by rw [c1, c1, c1]; decide) (.inl (by rw [c2]; rfl))
theorem read_eq (fs : List Fr) : eV (readR fs).1 = eV (rrR fs).1 ∧ (readR fs).2 = (rrR fs).2 := by
  unfold readR rrR
  generalize (fun j => fs.getD j dFr) = F
  rw [ok_all F]
  by_cases h : fs.length = 3 ∧ allP F = true
  · rw [if_pos h, if_pos h]; exact core_all F h.2
  · rw [if_neg h, if_neg h]; exact ⟨rfl, rfl⟩
end Go.Proofs.Sky
