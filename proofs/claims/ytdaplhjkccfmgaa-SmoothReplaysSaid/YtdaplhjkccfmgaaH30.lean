/-
  lemmas for the theorems of this claim. No conditions beyond those written in the statements.
-/
import Derived.Test.YtdaplhjkccfmgaaG30
set_option linter.unusedVariables false
set_option linter.unusedSimpArgs false
set_option linter.unnecessarySimpa false
namespace Go.Proofs.Sky
open Go Go.RowKit Go.Shelf
set_option maxHeartbeats 1000000
theorem infoInt : (Try.prog.info? 3).map (fun i => (i.zero, i.size, i.bytes)) = some (some (.int .i64 0), 1, 8) := by kernel_rfl
theorem makeInt (n : Nat) (hn : n ≤ 1048576) (w : World) : (Instr.makeSlice 26 (.int .i64 n) (.int .i64 n)).run Try.prog w = .ok (.slice (some ⟨w.heap.size, 0, none⟩) n n) (w.alloc (.cells (madeCells #[.int .i64 0] (n * 1)) 3)) := by
  obtain ⟨i, hi, hzz⟩ := Option.map_eq_some_iff.1 infoInt
  simp only [Prod.mk.injEq] at hzz
  obtain ⟨hz, hs, hb⟩ := hzz
  have h := run_make (P := Try.prog) w 26 3 i _ Try.underlying26 hi hz .i64 .i64 n n (by omega) (by omega) (by rw [hb]; omega) (by omega)
  simpa [hs, Value.cells] using h
theorem made1 (z : Value) (n : Nat) : (madeCells #[z] (n * 1)).toList = List.replicate n z := by
  apply List.ext_getElem?
  intro j
  by_cases hj : j < n
  · simp [madeCells, hj, Nat.mod_one]
  · simp [madeCells, hj]
def cellsI (zs : List Int) : Array Value := (zs.map (Value.int .i64)).toArray
theorem cellsI_size (zs : List Int) : (cellsI zs).size = zs.length := by simp [cellsI]
theorem cellsI_set (zs : List Int) (j : Nat) (z : Int) : (cellsI zs).setIfInBounds j (.int .i64 z) = cellsI (zs.set j z) := by
  simp [cellsI, List.map_set]
theorem cellsI_get (zs : List Int) (j : Nat) (h : j < zs.length) : (cellsI zs)[j]? = some (.int .i64 (zs.getD j 0)) := by
  simp [cellsI, h]
theorem made_cellsI (n : Nat) : madeCells #[.int .i64 0] (n * 1) = cellsI (List.replicate n 0) := by
  apply Array.toList_inj.1
  rw [made1]; simp [cellsI]
theorem Blk.rdI {w : World} {g : Nat} {T : TypeId} {zs : List Int} (h : Blk w g T (cellsI zs)) (hn : zs.length ≤ 9223372036854775807) (c : Nat) : RdI w (.slice (some ⟨g, 0, none⟩) zs.length c) zs :=
  ⟨hn, _, _, rfl, .inr ⟨g, 0, rfl, (Array.getElem?_eq_some_iff.1 h).1, fun i hi => by rw [Nat.zero_add]; exact h.cell (cellsI_get zs i hi)⟩⟩
theorem fill_step (ds : List Int) (k : Nat) (h : k < ds.length) : (ds.take k ++ List.replicate (ds.length - k) 0).set k (ds.getD k 0) = ds.take (k + 1) ++ List.replicate (ds.length - (k + 1)) 0 := by
  rw [take_snoc ds k 0 h, show ds.length - k = (ds.length - (k + 1)) + 1 by omega, List.replicate_succ]
  have hl : (ds.take k).length = k := by simp; omega
  rw [List.set_append_right _ _ (by omega), hl]
  simp
theorem list_cs (cs : Array Value) (l : Nat → Int) (F Wn : Nat) (ds : List Int) (w : World) (hWn : Wn ≤ 100) (ho : ringO l F Wn ds) (hc : RingC cs l F ds.length Wn (sumI ds)) :
    Calls Try.prog 29 #[.agg cs] w fun e w' => (∃ v', e = .returned v' ∧ RdI w' v' ds ∧ Fresh w.heap.size v') ∧ Bw w w' := by
  obtain ⟨o1, o2, o3⟩ := ho
  have HO := Lib.hid o3; clear o3
  obtain ⟨n, hn⟩ : ∃ n, n = ds.length := ⟨_, rfl⟩
  have hn100 : n ≤ 100 := by omega
  have hmk := makeInt n (by omega)
  rw [made_cellsI] at hmk
  have q1 := RingC.g hc.c1
  have q0 := RingC.g hc.c0
  have q2 := RingC.g hc.c2
  rw [← hn] at q1
  have HN := Lib.hid hn
  have hsz := hc.size
  have hW0 : ((Wn : Int) == 0) = false := by simp; omega
  have HC := Lib.hid hc; clear hc
  clear hn
  go_enter Try.func29, Try.ntmps29
  go_wp2
  have HS : Hid (RingAt ((w.alloc (.cells cs 53)).alloc (.cells (cellsI (List.replicate n 0)) 3)) w.heap.size l F n Wn (sumI ds)) := Lib.hid ⟨cs, (Blk.new _ _ _).alloc _, by rw [HN.out]; exact HC.out⟩
  have HB : Hid (Blk ((w.alloc (.cells cs 53)).alloc (.cells (cellsI (List.replicate n 0)) 3)) (w.heap.size + 1) 3 (cellsI (ds.take 0 ++ List.replicate (n - 0) 0))) := Lib.hid (by have := Blk.new (w.alloc (.cells cs 53)) 3 (cellsI (List.replicate n 0)); simpa using this)
  have HG : Hid (Bw w ((w.alloc (.cells cs 53)).alloc (.cells (cellsI (List.replicate n 0)) 3))) := Lib.hid (by repeat (first | exact Bw.refl _ | assumption | refine Bw.alloc ?_ _ | refine Bw.drew ?_ | refine Bw.trans ?_ (by assumption) | refine Bw.setCell ?_ (by simp; try omega) _))
  generalize (w.alloc (.cells cs 53)).alloc (.cells (cellsI (List.replicate n 0)) 3) = W0 at HS HB HG ⊢
  go_loopg [10] n (fun gg s10 wr => ∃ k : Nat, k ≤ n ∧ n - k ≤ gg ∧ s10 = .int .i64 k ∧ Hid (Bw w wr) ∧ Hid (RingAt wr w.heap.size l F n Wn (sumI ds)) ∧ Hid (Blk wr (w.heap.size + 1) 3 (cellsI (ds.take k ++ List.replicate (n - k) 0))))
  case atStart => exact ⟨0, Nat.zero_le _, by omega, rfl, HG.out, HS.out, HB.out⟩
  case round =>
    obtain ⟨k, hk, hg, rfl, hbw, hrg, hbk⟩ := hrel
    by_cases hlt : k < n
    · have hltz : (k : Int) < (n : Int) := by omega
      obtain ⟨k0, k1, k2, k3⟩ := hrg.out.facts
      have hJ := Nat.mod_lt (F + k) (show 0 < Wn by omega)
      have t := tmodN (F + k) Wn
      have hv := HO.out k (by have := HN.out; omega)
      generalize hJe : (F + k) % Wn = J at hJ t hv
      have ka := hrg.out.at_ J (by omega)
      rw [hv] at ka
      rw [Int.natCast_add] at t
      have hJi : (J : Int) < 100 := by omega
      have HK : Hid (∀ wr', wr' = wr.setCell ⟨w.heap.size + 1, k, none⟩ (.int .i64 (ds.getD k 0)) → Blk wr' (w.heap.size + 1) 3 (cellsI (ds.take (k + 1) ++ List.replicate (n - (k + 1)) 0)) ∧ RingAt wr' w.heap.size l F n Wn (sumI ds) ∧ Bw w wr') := Lib.hid (by
        rintro _ rfl
        refine ⟨?_, hrg.out.gr ((Gr.refl (w.heap.size + 1) wr).set (.inl rfl) _) (by omega), Bw.setCell hbw.out (by simp) _⟩
        have h2 := hbk.out.set k (.int .i64 (ds.getD k 0))
        rw [cellsI_set, HN.out, fill_step ds k (by have := HN.out; omega), ← HN.out] at h2
        exact h2)
      have kc : wr.cell? ⟨w.heap.size + 1, k, none⟩ = some (.int .i64 ((ds.take k ++ List.replicate (n - k) 0).getD k 0)) := hbk.out.cell (cellsI_get _ _ (by have := HN.out; simp; omega))
      have kf := hbk.out.frozen k
      generalize (ds.take k ++ List.replicate (n - k) 0).getD k 0 = z0 at kc
      generalize ds.getD k 0 = z at ka HK
      clear hv hJe k1 k3
      go_wp2
      obtain ⟨r1, r2, r3⟩ := HK.out _ rfl
      have R1 := Lib.hid r1; clear r1
      have R2 := Lib.hid r2; clear r2
      have R3 := Lib.hid r3; clear r3
      go_roundg (n - (k + 1))
      case measure => omega
      case rel => exact ⟨k + 1, by omega, by omega, by go_num, R3.out, R2.out, R1.out⟩
    · have hltz : ¬ (k : Int) < (n : Int) := by omega
      obtain rfl : k = n := by omega
      go_wp2
      go_ret
      refine ⟨⟨_, rfl, ?_, Fresh.at (by omega)⟩, hbw.out⟩
      have h2 := hbk.out
      have e : ds.take k ++ List.replicate (k - k) 0 = ds := by rw [HN.out]; simp
      rw [e] at h2
      have h3 := h2.rdI (by omega) k
      rw [← HN.out] at h3
      exact h3
theorem list_any (v : Value) (r : Rg) (w : World) (hr : RingV v r) :
    Calls Try.prog 29 #[v] w fun e w' => (∃ v', e = .returned v' ∧ RdI w' v' r.ds ∧ Fresh w.heap.size v') ∧ Bw w w' := by
  obtain ⟨rfl, hok⟩ := hr
  exact list_cs r.arr r.l r.F r.W r.ds w hok.1 hok.2 r.arr_ok
end Go.Proofs.Sky
