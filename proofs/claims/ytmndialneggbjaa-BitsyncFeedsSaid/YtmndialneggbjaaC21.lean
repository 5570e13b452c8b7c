/-
  lemmas for the theorems of this claim. No conditions beyond those written in the statements.
-/
import Derived.Test.YtmndialneggbjaaB21
import Derived.Test.YtmndialneggbjaaAppP
set_option linter.unusedVariables false
set_option linter.unusedSimpArgs false
set_option linter.unnecessarySimpa false
namespace Go.Proofs.Sky
open Go Go.RowKit Go.Shelf
set_option maxHeartbeats 4000000
theorem infoInt : (Try.prog.info? 3).map (fun i => (i.zero, i.size, i.bytes)) = some (some (.int .i64 0), 1, 8) := by kernel_rfl
theorem own0 {e : TypeId} (W : World) (n : Nat) (h : W.heap.size = n) : (W.alloc (.cells #[] e)).ownsRow n e 1 (.slice (some ⟨n, 0, none⟩) 0 0) ([] : List Int).length (([] : List Int).map (Value.int .i64)) := by
  subst h
  exact World.ownsRow_lit W #[] 0 (Nat.le_refl _) (by unfold maxLen; omega) (by simp)
theorem Bw.grownN {a b c : World} {e : TypeId} {k : Nat} {v : Value} {m n : Nat} {xs : List Value} (hn : a.heap.size = n) (h : Bw a b) (ho : b.ownsRow n e k v m xs) (hg : b.grownBy c v.ownBlock) : Bw a c := by
  subst hn; exact Bw.grown h ho hg
theorem own_some {w : World} {base : Nat} {e : TypeId} {k : Nat} {v : Value} {n : Nat} {xs : List Value} (h : w.ownsRow base e k v n xs) (hn : 0 < n) : ∃ g cap, v = .slice (some ⟨g, 0, none⟩) n cap := by
  rcases h.2 with ⟨rfl, rfl⟩ | ⟨g, cap, cur, rfl, _⟩
  · omega
  · exact ⟨g, cap, rfl⟩
/-- a new row of its own with at least one element -/
def OwnP (ch : List Int) (base : Nat) (v : Value) (w' : World) : Prop := ∃ b cap, v = .slice (some ⟨b, 0, none⟩) ch.length cap ∧ w'.ownsRow base 3 1 (.slice (some ⟨b, 0, none⟩) ch.length cap) ch.length (ch.map (Value.int .i64))
theorem Clone_any (ch : List Int) (v : Value) (w : World) (hv : RdI w v ch) (h1 : 1 ≤ ch.length) (h2 : ch.length ≤ 1000) :
    Calls Try.prog 44 #[v] w fun e w' => (∃ v', e = .returned v' ∧ OwnP ch w.heap.size v' w') ∧ Bw w w' := by
  obtain ⟨b, off, cap, rfl, hb, hc⟩ := hv.at h1
  have HV := Lib.hid hv
  clear hv hc
  have heq := fun W => Lib.run_eql_slice_nil (P := Try.prog) W 27 3 (some ⟨b, off, none⟩) ch.length cap 0 0 Try.underlying27
  simp only [Option.isNone_some] at heq
  go_enter Try.func44, Try.ntmps44
  go_wp2_with (at_builtin; go_loud (refine wpList_append_int rfl (.tmp 5) (.tmp 6) _ rfl w.heap.size 3 Try.underlying27 infoInt _ [] ch rfl (own0 (e := 3) w w.heap.size rfl) (some ⟨b, off, none⟩) ch.length cap rfl (HV.out.mono (Bw.alloc (Bw.refl w) _)) (by simp; omega) (by simp) ?_; intro v0 w0 hown hgr; have hb0 : Bw w w0 := Bw.grownN rfl (Bw.alloc (Bw.refl _) _) (own0 (e := 3) w w.heap.size rfl) hgr; obtain ⟨g, c, rfl⟩ := own_some hown (by simp; omega); have HO := Lib.hid hown; clear hown hgr))
  go_ret
  have h9 := HO.out
  simp only [List.nil_append] at h9
  exact ⟨⟨_, by simp, _, _, rfl, h9⟩, hb0⟩
theorem own_any (ch : List Int) (v : Value) (seen x y : Int) (w : World) (hv : RdI w v ch) (h1 : 1 ≤ ch.length) (h2 : ch.length ≤ 1000) :
    Calls Try.prog 38 #[.agg #[v, .int .i64 seen, .int .i64 x, .int .i64 y]] w fun e w' => (∃ v', e = .returned (.agg #[v', .int .i64 seen, .int .i64 x, .int .i64 y]) ∧ OwnP ch w.heap.size v' w') ∧ Bw w w' := by
  have HV := Lib.hid hv
  obtain ⟨ad, cap, rfl⟩ := hv.form
  clear hv
  have HC := Lib.hid (fun W V hW => Clone_any ch V W hW h1 h2)
  have HW0 := Lib.hid (Bw.alloc (Bw.refl w) (.cells #[.slice ad ch.length cap, .int .i64 seen, .int .i64 x, .int .i64 y] 36))
  go_enter Try.func38, Try.ntmps38
  go_wp2_with (go_at_call 44; go_loud (refine Calls.mono (HC.out _ _ (HV.out.mono (by repeat (first | exact Bw.refl _ | assumption | refine Bw.alloc ?_ _ | refine Bw.drew ?_ | refine Bw.trans ?_ (by assumption) | refine Bw.setCell ?_ (by simp; try omega) _)))) ?_; rintro e1 w1 ⟨⟨v1, rfl, hO⟩, hb1⟩; obtain ⟨b1, c1, rfl, hO⟩ := hO; have B1 := Lib.hid (((Blk.new w 36 #[.slice ad ch.length cap, .int .i64 seen, .int .i64 x, .int .i64 y]).alloc (.cells #[.slice none 0 0, .int .i64 0, .int .i64 0, .int .i64 0] 60)).bw hb1); have B2 : Hid (Blk w1 (w.heap.size + 1) 60 #[.slice none 0 0, .int .i64 0, .int .i64 0, .int .i64 0]) := Lib.hid (by have h9 := (Blk.new (w.alloc (.cells #[.slice ad ch.length cap, .int .i64 seen, .int .i64 x, .int .i64 y] 36)) 60 #[.slice none 0 0, .int .i64 0, .int .i64 0, .int .i64 0]).bw hb1; simpa using h9); have k0 : w1.cell? ⟨w.heap.size, 0, none⟩ = some (.slice ad ch.length cap) := B1.out.cell rfl; have k1 : w1.cell? ⟨w.heap.size, 1, none⟩ = some (.int .i64 seen) := B1.out.cell rfl; have k2 : w1.cell? ⟨w.heap.size, 2, none⟩ = some (.int .i64 x) := B1.out.cell rfl; have k3 : w1.cell? ⟨w.heap.size, 3, none⟩ = some (.int .i64 y) := B1.out.cell rfl; have z0 := B1.out.frozen 0; have j0 : w1.cell? ⟨w.heap.size + 1, 0, none⟩ = some (.slice none 0 0) := B2.out.cell rfl; have j1 : w1.cell? ⟨w.heap.size + 1, 1, none⟩ = some (.int .i64 0) := B2.out.cell rfl; have j2 : w1.cell? ⟨w.heap.size + 1, 2, none⟩ = some (.int .i64 0) := B2.out.cell rfl; have j3 : w1.cell? ⟨w.heap.size + 1, 3, none⟩ = some (.int .i64 0) := B2.out.cell rfl; have q0 := B2.out.frozen 0; have q1 := B2.out.frozen 1; have q2 := B2.out.frozen 2; have q3 := B2.out.frozen 3; have HO := Lib.hid hO; clear hO))
  have B9 := ((((B2.out.set_other (b := w.heap.size) (by omega) 0 (.slice (some ⟨b1, 0, none⟩) ch.length c1)).set 0 (.slice (some ⟨b1, 0, none⟩) ch.length c1)).set 1 (.int .i64 seen)).set 2 (.int .i64 x)).set 3 (.int .i64 y)
  have m0 := B9.cell (j := 0) rfl
  have m1 := B9.cell (j := 1) rfl
  have m2 := B9.cell (j := 2) rfl
  have m3 := B9.cell (j := 3) rfl
  have hb := (HW0.out.trans (Bw.alloc (Bw.refl _) (.cells #[.slice none 0 0, .int .i64 0, .int .i64 0, .int .i64 0] 60))).trans hb1
  have o9 := ownsRow_setCell_below (ownsRow_setCell_below (ownsRow_setCell_below (ownsRow_setCell_below (ownsRow_setCell_below HO.out (a := ⟨w.heap.size, 0, none⟩) (by simp; omega) (.slice (some ⟨b1, 0, none⟩) ch.length c1)) (a := ⟨w.heap.size + 1, 0, none⟩) (by simp) (.slice (some ⟨b1, 0, none⟩) ch.length c1)) (a := ⟨w.heap.size + 1, 1, none⟩) (by simp) (.int .i64 seen)) (a := ⟨w.heap.size + 1, 2, none⟩) (by simp) (.int .i64 x)) (a := ⟨w.heap.size + 1, 3, none⟩) (by simp) (.int .i64 y)
  refine bodyPost_ret (v := .agg #[(.slice (some ⟨b1, 0, none⟩) ch.length c1), .int .i64 seen, .int .i64 x, .int .i64 y]) ?_ rfl ⟨⟨_, rfl, b1, c1, rfl, own_down o9 (by simp; omega)⟩, Bw.setCell (Bw.setCell (Bw.setCell (Bw.setCell (Bw.setCell hb (p := ⟨w.heap.size, 0, none⟩) (by simp) _) (p := ⟨w.heap.size + 1, 0, none⟩) (by simp) _) (p := ⟨w.heap.size + 1, 1, none⟩) (by simp) _) (p := ⟨w.heap.size + 1, 2, none⟩) (by simp) _) (p := ⟨w.heap.size + 1, 3, none⟩) (by simp) _⟩
  simp [results, Try.results38, go_sem, m0, m1, m2, m3]
theorem makeInt (n : Nat) (hn : n ≤ 1048576) (w : World) : (Instr.makeSlice 27 (.int .i64 n) (.int .i64 n)).run Try.prog w = .ok (.slice (some ⟨w.heap.size, 0, none⟩) n n) (w.alloc (.cells (madeCells #[.int .i64 0] (n * 1)) 3)) := by
  obtain ⟨i, hi, hzz⟩ := Option.map_eq_some_iff.1 infoInt
  simp only [Prod.mk.injEq] at hzz
  obtain ⟨hz, hs, hb⟩ := hzz
  have h := run_make (P := Try.prog) w 27 3 i _ Try.underlying27 hi hz .i64 .i64 n n (by omega) (by omega) (by rw [hb]; omega) (by omega)
  simpa [hs, Value.cells] using h
theorem made1 (z : Value) (n : Nat) : (madeCells #[z] (n * 1)).toList = List.replicate n z := by
  apply List.ext_getElem?
  intro j
  by_cases hj : j < n
  · simp [madeCells, hj, Nat.mod_one]
  · simp [madeCells, hj]
theorem rdI_made (n : Nat) (hn : n ≤ 1048576) (w : World) : RdI (w.alloc (.cells (madeCells #[.int .i64 0] (n * 1)) 3)) (.slice (some ⟨w.heap.size, 0, none⟩) n n) (List.replicate n 0) := by
  have h := RdI.lit w (madeCells #[.int .i64 0] (n * 1)) 3 (List.replicate n 0) (by rw [made1]; simp) (by simp; omega)
  simpa using h
/-- a sync, by value: its changes lie in memory from base on -/
def SyP (base : Nat) (ch : List Int) (seen : Int) (la : Int × Int) (er : Int) (e : Ending) (w' : World) : Prop := ∃ v', e = .returned (.tuple #[.agg #[v', .int .i64 seen, .int .i64 la.1, .int .i64 la.2], .int .i64 er]) ∧ RdI w' v' ch ∧ Fresh base v'
theorem New_ok (n : Nat) (w : World) (p1 : 1 ≤ n) (p2 : n ≤ 20) : Calls Try.prog 16 #[.int .i64 n] w fun e w' => SyP w.heap.size (List.replicate n 0) 0 (0, 0) 0 e w' ∧ Bw w w' := by
  have BX := Lib.hid ((Blk.new w 36 #[.slice (some ⟨w.heap.size + 1, 0, none⟩) n n, .int .i64 0, .int .i64 0, .int .i64 0]).alloc (.cells (madeCells #[.int .i64 0] n) 3))
  have HB := Lib.hid (Bw.alloc (Bw.alloc (Bw.refl w) (.cells #[.slice (some ⟨w.heap.size + 1, 0, none⟩) n n, .int .i64 0, .int .i64 0, .int .i64 0] 36)) (.cells (madeCells #[.int .i64 0] n) 3))
  have hmk := fun W => makeInt n (by omega) W
  have hm := rdI_made n (by omega) (w.alloc (.cells #[.slice (some ⟨w.heap.size + 1, 0, none⟩) n n, .int .i64 0, .int .i64 0, .int .i64 0] 36))
  rw [Nat.mul_one] at hm
  have HM := Lib.hid hm
  clear hm
  have q1 : ¬ (n : Int) < 1 := by omega
  have q2 : ¬ (20 : Int) < n := by omega
  go_enter Try.func16, Try.ntmps16
  go_wp2
  have j0 := BX.out.cell (j := 0) rfl
  have j1 := BX.out.cell (j := 1) rfl
  have j2 := BX.out.cell (j := 2) rfl
  have j3 := BX.out.cell (j := 3) rfl
  refine bodyPost_ret (v := .tuple #[.agg #[.slice (some ⟨w.heap.size + 1, 0, none⟩) n n, .int .i64 0, .int .i64 0, .int .i64 0], .int .i64 0]) ?_ rfl ⟨⟨_, rfl, by have h9 := HM.out; simpa using h9, Fresh.at (by omega)⟩, HB.out⟩
  simp [results, Try.results16, go_sem, j0, j1, j2, j3]
theorem New_bad (p : Int) (w : World) (hp : p < 1 ∨ 20 < p) : Calls Try.prog 16 #[.int .i64 p] w fun e w' => e = .returned (.tuple #[.agg #[.slice none 0 0, .int .i64 0, .int .i64 0, .int .i64 0], .int .i64 2]) ∧ Bw w w' := by
  have BX := Lib.hid (Blk.new w 36 #[.slice none 0 0, .int .i64 0, .int .i64 0, .int .i64 0])
  have HB := Lib.hid (Bw.alloc (Bw.refl w) (.cells #[.slice none 0 0, .int .i64 0, .int .i64 0, .int .i64 0] 36))
  have j0 := BX.out.cell (j := 0) rfl
  have j1 := BX.out.cell (j := 1) rfl
  have j2 := BX.out.cell (j := 2) rfl
  have j3 := BX.out.cell (j := 3) rfl
  by_cases h1 : p < 1
  · clear hp
    go_enter Try.func16, Try.ntmps16
    go_wp2
    refine bodyPost_ret (v := .tuple #[.agg #[.slice none 0 0, .int .i64 0, .int .i64 0, .int .i64 0], .int .i64 2]) ?_ rfl ⟨rfl, HB.out⟩
    simp [results, Try.results16, go_sem, j0, j1, j2, j3]
  · have h2 : 20 < p := by omega
    clear hp
    go_enter Try.func16, Try.ntmps16
    go_wp2
    refine bodyPost_ret (v := .tuple #[.agg #[.slice none 0 0, .int .i64 0, .int .i64 0, .int .i64 0], .int .i64 2]) ?_ rfl ⟨rfl, HB.out⟩
    simp [results, Try.results16, go_sem, j0, j1, j2, j3]
end Go.Proofs.Sky
