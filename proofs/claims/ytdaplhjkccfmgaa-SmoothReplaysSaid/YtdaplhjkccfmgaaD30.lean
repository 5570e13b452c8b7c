/-
  lemmas for the theorems of this claim. No conditions beyond those written in the statements.
-/
import Derived.Test.YtdaplhjkccfmgaaC30
import Derived.Laws.Rows
import Derived.Laws.Tables
set_option linter.unusedVariables false
set_option linter.unusedSimpArgs false
set_option linter.unnecessarySimpa false
namespace Go.Proofs.Sky
open Go Go.RowKit Go.Shelf
set_option maxHeartbeats 1000000
theorem ratio_any (cs : Array Value) (l : Nat → Int) (first many room sum f : Int) (w : World) (hc : RingC cs l first many room sum)
    (hm0 : 0 ≤ many) (hm1 : many ≤ 100) (hd0 : -10000000000000 ≤ f) (hd1 : f ≤ 10000000000000) (hs0 : -2000000000000000 ≤ sum) (hs1 : sum ≤ 2000000000000000) :
    Calls Try.prog 28 #[.agg cs, .int .i64 f] w fun e w' => e = .returned (.agg #[.int .i64 (f * many + sum), .int .i64 many]) ∧ Bw w w' := by
  have k1 := RingC.g hc.c1
  have k3 := RingC.g hc.c3
  have hsz := hc.size
  have ⟨m1, m2⟩ := mul_bd2 f many 10000000000000 100 (by omega) (by omega) (by omega) (by omega) (by omega)
  go_enter Try.func28, Try.ntmps28
  go_wp2
  refine bodyPost_ret (v := .agg #[.int .i64 (f * many + sum), .int .i64 many]) ?_ rfl ⟨rfl, ?_⟩
  · simp [results, Try.results28, go_sem]
  · exact (by repeat (first | exact Bw.refl _ | assumption | refine Bw.alloc ?_ _ | refine Bw.drew ?_ | refine Bw.trans ?_ (by assumption) | refine Bw.setCell ?_ (by simp; try omega) _))
def ring0 : Array Value := (List.replicate 104 (Value.int .i64 0)).toArray
theorem zeroRing (w : World) : (zeroValue 53).run Try.prog w = .ok (.agg ring0) w := by kernel_rfl
theorem builtRing (y : Int) : Try.prog.built 53 [(3, .int .i64 y)] = some (ring0.setIfInBounds 102 (.int .i64 y)) := by kernel_rfl
theorem infoRing : (Try.prog.info? 53).map (·.size) = some 104 := by kernel_rfl
theorem ring0_ok : RingC ring0 (fun _ => 0) 0 0 0 0 := by
  refine ⟨by simp [ring0], fun i hi => ?_, ?_, ?_, ?_, ?_⟩
  · rw [ring0, List.getElem?_toArray, List.getElem?_replicate, if_pos (by omega)]
  all_goals simp [ring0]
theorem RingC.ok {cs : Array Value} {l : Nat → Int} {first many room sum : Int} (h : RingC cs l first many room sum) : cs.all (·.oneCell') = true := by
  rw [Array.all_eq_true]
  intro i hi
  have hs := h.size
  by_cases h1 : i < 100
  · rw [RingC.g (h.at_ i h1) hi]; rfl
  · rcases (show i = 100 ∨ i = 101 ∨ i = 102 ∨ i = 103 by omega) with rfl | rfl | rfl | rfl
    · rw [RingC.g h.c0 hi]; rfl
    · rw [RingC.g h.c1 hi]; rfl
    · rw [RingC.g h.c2 hi]; rfl
    · rw [RingC.g h.c3 hi]; rfl
def ringR (room : Int) : Array Value := ring0.setIfInBounds 102 (.int .i64 room)
theorem ringR_ok (room : Int) : RingC (ringR room) (fun _ => 0) 0 0 room 0 := by
  have h := ring0_ok
  have hs := h.size
  unfold ringR
  refine ⟨by simp [hs], fun i hi => ?_, ?_, ?_, ?_, ?_⟩
  · rw [Array.getElem?_setIfInBounds, if_neg (by omega)]; exact h.at_ i hi
  · rw [Array.getElem?_setIfInBounds, if_neg (by omega)]; exact h.c0
  · rw [Array.getElem?_setIfInBounds, if_neg (by omega)]; exact h.c1
  · rw [Array.getElem?_setIfInBounds, if_pos rfl, if_pos (by omega)]
  · rw [Array.getElem?_setIfInBounds, if_neg (by omega)]; exact h.c3
theorem Bw.setRow {a b : World} (h : Bw a b) {g : Nat} (hg : a.heap.size ≤ g) (cs : Array Value) : Bw a (b.setRow g cs) :=
  ⟨h.out.os, h.out.tape, h.out.output, by simpa using h.size, fun k hk => (setRow_other b g k cs (by omega)).trans (h.out.block k hk)⟩
theorem without_any (cs : Array Value) (l : Nat → Int) (first many room sum : Int) (w : World) (hc : RingC cs l first many room sum) :
    Calls Try.prog 38 #[.agg cs] w fun e w' => e = .returned (.agg (ringR room)) ∧ Bw w w' := by
  have k2 := RingC.g hc.c2
  have hsz := hc.size
  have hz := zeroRing
  have hbt : Try.prog.built 53 [(3, .int .i64 room)] = some (ringR room) := builtRing room
  have h0s : ring0.size = 104 := ring0_ok.size
  have hrs : (ringR room).size = 104 := (ringR_ok room).size
  have hh := heap_alloc2_new w (.cells cs 53) (.cells ring0 53)
  have HH := Lib.hid hh; clear hh
  go_enter Try.func38, Try.ntmps38
  go_wp2_with (refine wpList_store_row rfl 53 _ _ rfl (w.heap.size + 1) (ringR room) rfl rfl 53 ring0 HH.out (by rw [infoRing, hrs]) (by rw [h0s, hrs]) (ringR_ok room).ok ?_)
  refine bodyPost_ret (v := .agg (ringR room)) ?_ rfl ⟨rfl, Bw.setRow (by repeat (first | exact Bw.refl _ | assumption | refine Bw.alloc ?_ _ | refine Bw.drew ?_ | refine Bw.trans ?_ (by assumption) | refine Bw.setCell ?_ (by simp; try omega) _)) (by omega) _⟩
  exact results_cell_row (P := Try.prog) Try.results38 _ _ (w.heap.size + 1) 53 (ringR room) (0, 0) _ rfl (setRow_heap _ _ _ _ _ _ HH.out) Try.underlying53 rfl (by rw [infoRing, hrs])
end Go.Proofs.Sky
