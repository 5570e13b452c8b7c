/-
  lemmas for the theorems of this claim. No conditions beyond those written in the statements.
-/
import Derived.Test.YtmfiiocadhdhaaaProg
import Derived.Test.YtmfiiocadhdhaaaBase
import Derived.Test.YtmfiiocadhdhaaaP25L
import Derived.Test.YtmfiiocadhdhaaaRG
import Derived.Test.YtmfiiocadhdhaaaBits
set_option linter.unusedVariables false
set_option linter.unusedSimpArgs false
set_option linter.unnecessarySimpa false
namespace Go.Proofs.Sky
open Go Go.RowKit
set_option maxHeartbeats 1000000
def fld (a n : Int) (g : Bool) (u c : Int) : Value := .agg #[.int .i64 a, .int .i64 n, .bool g, .int .i64 u, .int .i64 c]
theorem Check_any (a n : Int) (g : Bool) (u c : Int) (w : World) : Calls Try.prog 60 #[.agg #[.int .i64 a, .int .i64 n, .bool g, .int .i64 u, .int .i64 c]] w fun e w' => e = .returned (.int .i64 (errF a n u c)) ∧ Bw w w' := by
  by_cases h : 0 ≤ a ∧ a ≤ 4000 ∧ 1 ≤ n ∧ n ≤ 40 ∧ a + n ≤ 4000 ∧ 1 ≤ u ∧ u ≤ 1000000 ∧ -1000000000000000 ≤ c ∧ c ≤ 1000000000000000
  · have HE := Lib.hid (show errF a n u c = 0 by unfold errF okF; rw [if_pos (by simpa using h)])
    obtain ⟨h1, h2, h3, h4, h5, h6, h7, h8, h9⟩ := h
    go_enter Try.func60, Try.ntmps60
    go_wp2
    go_ret
    exact ⟨by rw [HE.out]; rfl, (by repeat (first | exact Bw.refl _ | assumption | refine Bw.alloc ?_ _ | refine Bw.drew ?_ | refine Bw.trans ?_ (by assumption) | refine Bw.setCell ?_ (by simp; try omega) _))⟩
  · have HE := Lib.hid (show errF a n u c = 2 by unfold errF okF; rw [if_neg (by simpa using h)])
    have HN := Lib.hid h; clear h
    go_enter Try.func60, Try.ntmps60
    go_wp2
    all_goals first | (exfalso; have h := HN.out; omega) | (go_ret; exact ⟨by rw [HE.out]; rfl, (by repeat (first | exact Bw.refl _ | assumption | refine Bw.alloc ?_ _ | refine Bw.drew ?_ | refine Bw.trans ?_ (by assumption) | refine Bw.setCell ?_ (by simp; try omega) _))⟩)
end Go.Proofs.Sky

namespace Go.Proofs.Sky
open Go Go.RowKit Go.Shelf
attribute [local go_sem] Oper.semAt_some
set_option maxHeartbeats 1000000
theorem places_any (a n : Int) (g : Bool) (u c : Int) (w : World) : Calls Try.prog 68 #[.agg #[.int .i64 a, .int .i64 n, .bool g, .int .i64 u, .int .i64 c]] w fun e w' => e = .returned (.func (.func 72) #[] #[.pointer (some ⟨w.heap.size, 0, none⟩)]) ∧ w' = w.alloc (.cells #[.int .i64 a, .int .i64 n, .bool g, .int .i64 u, .int .i64 c] 81) := by
  go_enter Try.func68, Try.ntmps68
  go_wp2
  go_ret
  exact ⟨rfl, rfl⟩
def cl (N x : Nat) : Nat := min x (N - 1)
theorem cl_lt (N x : Nat) (h : 0 < N) : cl N x < N := by unfold cl; omega
theorem cl_of (N x : Nat) (h : x < N) : cl N x = x := by unfold cl; omega
def encP (a : Int) (N : Nat) (x : Nat) : Array Value := #[.int .i64 (a + cl N x), .int .i64 (N - 1 - cl N x)]
set_option maxRecDepth 100000 in
set_option maxHeartbeats 2000000 in
theorem places_stops (a : Int) (N : Nat) (ha : 0 ≤ a) (ha2 : a ≤ 4000) (hN : N ≤ 40) (B : Nat) (w : World) (hB : B < w.heap.size) (c0 : w.cell? ⟨B, 0, none⟩ = some (.int .i64 a)) (c1 : w.cell? ⟨B, 1, none⟩ = some (.int .i64 N)) :
    SeqStopsK Fence.wide 9 Try.prog 72 #[.pointer (some ⟨B, 0, none⟩)] (encP a N) (KpB B) (fun xs => xs = List.range N) (fun pre => ∃ k, k ≤ N ∧ pre = List.range k) N w := fun l J Jx W hW _ _ hY h0 => by
  have d0 := (hW.cell (p := ⟨B, 0, none⟩) hB).trans c0
  have d1 := (hW.cell (p := ⟨B, 1, none⟩) hB).trans c1
  refine callsIn_of_wp Try.func72 rfl trivial ?_ rfl
  simp only [Try.ntmps72, List.size_toArray, List.length_cons, List.length_nil, Nat.reduceAdd, Nat.reduceSub, Array.replicate_succ, Array.replicate_zero, List.push_toArray, List.append_toArray, List.nil_append, List.cons_append]
  have hY' := hY; clear hY
  gi_wp2
  gi_loopw [6] (fun i wr => ∃ k : Nat, k ≤ N ∧ i = .int .i64 k ∧ J (List.range k) wr ∧ KpB B W wr) (fun i _ => N - (intOf i).toNat)
  case atStart => exact ⟨0, Nat.zero_le _, rfl, h0, fun _ => rfl⟩
  case round =>
    obtain ⟨k, hk, rfl, hJs, hkp⟩ := hrel
    have e0 := (hkp 0).trans d0
    have e1 := (hkp 1).trans d1
    by_cases hlt : k < N
    · obtain ⟨fn, tmps, assign, body, hy, hR⟩ := hY' _ k wr hJs (by simpa using hlt)
      unfold encP at hy
      rw [cl_of N k hlt] at hy
      have hlti : (k : Int) < N := by omega
      gi_wp2
      refine hR.mono ?_
      rintro e W3 (⟨rfl, hJ3, hk3⟩ | ⟨rfl, hJx3⟩)
      · gi_wp2
        go_roundw
        case rel => exact ⟨k + 1, by omega, by go_num, by rw [List.range_succ]; exact hJ3, kpB_t hkp hk3⟩
        case measure => simp [intOf]; omega
      · gi_wp2
        refine bodyPost_ret (results_none rfl _ _ _) rfl ?_
        exact ⟨⟨_, rfl⟩, .inr ⟨_, ⟨k + 1, by omega, List.range_succ.symm⟩, hJx3⟩⟩
    · obtain rfl : k = N := by omega
      gi_wp2
      go_end0
      exact ⟨⟨_, rfl⟩, .inl ⟨_, rfl, hJs⟩⟩
end Go.Proofs.Sky

namespace Go.Proofs.Sky
open Go Go.RowKit Go.Shelf
attribute [local go_sem] Oper.semAt_some
set_option maxHeartbeats 1000000
theorem map_cl (N : Nat) : ∀ k, k ≤ N → (List.range k).map (cl N) = List.range k := by
  intro k hk
  conv => rhs; rw [← List.map_id (List.range k)]
  apply List.map_congr_left
  intro x hx
  exact cl_of N x (by have := List.mem_range.1 hx; omega)
theorem range_places {g : Operand} {ps : Array Tmp} {assign body : Code} {Q : Exit → Act → World → Prop} {act : Act} {w : World} (a : Int) (N : Nat) (ha : 0 ≤ a) (ha2 : a ≤ 4000) (hN0 : 0 < N) (hN : N ≤ 40) (B : Nat) (hB : B < w.heap.size)
    (c0 : w.cell? ⟨B, 0, none⟩ = some (.int .i64 a)) (c1 : w.cell? ⟨B, 1, none⟩ = some (.int .i64 N)) (hg : act.eval g = .func (.func 72) #[] #[.pointer (some ⟨B, 0, none⟩)]) (hps : ps.size = 2)
    (I : List Nat → World → Prop) (Ix : Code → List Nat → World → Prop) (hI : OwnFrom w.heap.size I) (hIx : ∀ c, OwnFrom w.heap.size (Ix c)) (h0 : I [] w) (ups : Nat → List (Nat × Value))
    (hassign : ∀ (l : Nat) (y : Nat) (W : World) (K : Act → World → Prop), K { tmps := (ups y).foldl (fun t p => t.setIfInBounds p.1 p.2) act.tmps, defers := [] } W →
      assign.wpIn (Fence.wide.inRound l) 8 Try.prog (Exit.then K (fun _ _ _ => False)) { tmps := (ps.zip #[.int .i64 (a + y), .int .i64 (N - 1 - y)]).foldl (fun t (p, v) => t.setIfInBounds p v) act.tmps, defers := [] } W)
    (hbody : ∀ (l : Nat) (pre : List Nat) (y : Nat) (W : World), y < N → pre.length < N → I pre W → body.wpIn (Fence.wide.inRound l) 8 Try.prog (ownPostG w.heap.size (KpB B) I Ix (pre ++ [y]) W) { tmps := (ups y).foldl (fun t p => t.setIfInBounds p.1 p.2) act.tmps, defers := [] } W)
    (hdone : ∀ (D : Nat) (W : World), w.heap.size ≤ D → I (List.range N) W → W.heap[D]? = some (.deferred (some [])) → Q .normal { act with defers := mk D :: act.defers } W)
    (hstop : ∀ (D : Nat) (c : Code) (k : Nat) (W : World), w.heap.size ≤ D → k ≤ N → Ix c (List.range k) W → W.heap[D]? = some (.deferred (some [])) → c.wp Try.prog Q { act with defers := mk D :: act.defers } W) :
    (Code.rangeFunc g ps assign body).wp Try.prog Q act w := by
  refine wp_rangeFunc hg (enters_of Try.func72 (by kernel_rfl) rfl) (places_stops a N ha ha2 hN B w hB c0 c1) kpB_t (kpB_b hB) (fun _ => hps.symm) (fun pre W => I (pre.map (cl N)) W) (fun c pre W => Ix c (pre.map (cl N)) W)
    (fun s W W' row hs hg hr => hI _ W W' row hs hg hr) (fun c s W W' row hs hg hr => hIx c _ W W' row hs hg hr) h0 (fun x => { tmps := (ups (cl N x)).foldl (fun t p => t.setIfInBounds p.1 p.2) act.tmps, defers := [] })
    (fun l x W K hK => hassign l (cl N x) W K hK) (fun l pre x W hi hl => ?_) (fun D xs W hD hS hi hK => ?_) (fun D c pre W hD hS hi hK => by
      obtain ⟨k, hk, rfl⟩ := hS
      rw [map_cl N k hk] at hi
      exact hstop D c k W hD hk hi hK)
  · refine wpIn_mono (hbody l (pre.map (cl N)) (cl N x) W (cl_lt N x hN0) (by simpa using hl) hi) ?_
    intro e a' W' hp
    have hm : (pre ++ [x]).map (cl N) = pre.map (cl N) ++ [cl N x] := by simp
    cases e with
    | normal => exact ⟨hp.1, hp.2.1, by show I _ _; rw [hm]; exact hp.2.2⟩
    | ret => exact ⟨hp.1, by show Ix _ _ _; rw [hm]; exact hp.2⟩
    | exit id => exact ⟨hp.1, by show Ix _ _ _; rw [hm]; exact hp.2⟩
    | goto t => exact ⟨hp.1, by show Ix _ _ _; rw [hm]; exact hp.2⟩
    | panic ch => exact hp.elim
    | outgrown => exact hp.elim
  · subst hS
    rw [map_cl N N (Nat.le_refl _)] at hi
    exact hdone D W hD hi hK
theorem cellK {W W' : World} {row : Option Nat} {p : Addr} {v : Value} {B : Nat} (h : W.cell? p = some v) (hg : W.grownBy W' row) (hr : ∀ r, row = some r → B ≤ r ∧ ∃ o : Obj, W.heap[r]? = some o ∧ o.isCells = false) : W'.cell? p = some v := cell_kept h hg (fun r e => (hr r e).2)
theorem frozenK {W W' : World} {row : Option Nat} {p : Addr} {v : Value} {B : Nat} {b : Bool} (h : W.cell? p = some v) (hf : W.frozen? p = b) (hg : W.grownBy W' row) (hr : ∀ r, row = some r → B ≤ r ∧ ∃ o : Obj, W.heap[r]? = some o ∧ o.isCells = false) : W'.frozen? p = b := (frozen_kept h hg (fun r e => (hr r e).2)).trans hf
theorem bwK {w W W' : World} {row : Option Nat} {B : Nat} (h : Bw w W) (hB : w.heap.size ≤ B) (hg : W.grownBy W' row) (hr : ∀ r, row = some r → B ≤ r ∧ ∃ o : Obj, W.heap[r]? = some o ∧ o.isCells = false) : Bw w W' :=
  Below.grown h hg h.size (fun k e => Nat.le_trans hB (hr k e).1)
end Go.Proofs.Sky

namespace Go.Proofs.Sky
open Go Go.RowKit Go.Shelf
attribute [local go_sem] Oper.semAt_some
set_option maxHeartbeats 1000000
def errT (zs : List Int) (a n u c : Int) : Int := if errF a n u c = 0 then (if (zs.length : Int) < a + n then 16 else if oksP zs a.toNat n.toNat then 0 else 3) else 2
theorem there_bad (zs : List Int) (ad : Option Addr) (len cap : Nat) (a n : Int) (g : Bool) (u c : Int) (w : World) (h : ¬ fk a n u c) : Calls Try.prog 73 #[.slice ad len cap, .agg #[.int .i64 a, .int .i64 n, .bool g, .int .i64 u, .int .i64 c]] w fun e w' => e = .returned (.int .i64 (errT zs a n u c)) ∧ Bw w w' := by
  have HE := Lib.hid (show errT zs a n u c = 2 by unfold errT; rw [errF_no h]; rfl)
  have HC := Lib.hid (fun w => Check_any a n g u c w)
  rw [errF_no h] at HC
  clear h
  (refine calls_of_marks (w.heap.size) Try.func73 rfl ?_; simp only [Try.ntmps73, List.size_toArray, List.length_cons, List.length_nil, Nat.reduceAdd, Nat.reduceSub, Array.replicate_succ, Array.replicate_zero, List.push_toArray, List.append_toArray, List.nil_append, List.cons_append])
  go_wp2_with (go_at_call 60; refine (HC.out _).mono ?_; rintro e w' ⟨rfl, hb⟩; obtain ⟨hcc, hff⟩ := Bw.cells hb; have hsz := Bw.size hb; try (have hz0 : w.heap.size < w'.heap.size := by (try simp at hsz); omega); try (have hz1 : w.heap.size + 1 < w'.heap.size := by (try simp at hsz); omega); try (have hz2 : w.heap.size + 1 + 1 < w'.heap.size := by (try simp at hsz); omega); try (have hz3 : w.heap.size + 1 + 1 + 1 < w'.heap.size := by (try simp at hsz); omega); try (have hz4 : w.heap.size + 1 + 1 + 1 + 1 < w'.heap.size := by (try simp at hsz); omega); try (have hzr : wr.heap.size < w'.heap.size := by (try simp at hsz); omega); try (have hzr1 : wr.heap.size + 1 < w'.heap.size := by (try simp at hsz); omega))
  refine ⟨Marks.nil _ _, fun W' hS => ⟨.int .i64 2, ?_, by rw [HE.out], Bw.shut (W := w'.setCell ⟨w.heap.size + 1 + 1, 0, none⟩ (.int .i64 2)) (by repeat (first | exact Bw.refl _ | assumption | refine Bw.alloc ?_ _ | refine Bw.drew ?_ | refine Bw.trans ?_ (by assumption) | refine Bw.setCell ?_ (by simp; try omega) _)) hS⟩⟩
  have k4 := hS.cell (w.heap.size + 1 + 1) 0 (.int .i64 2) (cell_set_same _ _ _ _ (x := .int .i64 0) (by rw [hcc _ _ (by simp)]; simp [go_sem]))
  simp [results, Try.results73, go_sem, k4]
theorem there_short (zs : List Int) (v : Value) (a n : Int) (g : Bool) (u c : Int) (w : World) (hv : RdI w v zs) (h : fk a n u c) (hl : (zs.length : Int) < a + n) : Calls Try.prog 73 #[v, .agg #[.int .i64 a, .int .i64 n, .bool g, .int .i64 u, .int .i64 c]] w fun e w' => e = .returned (.int .i64 (errT zs a n u c)) ∧ Bw w w' := by
  have HE := Lib.hid (show errT zs a n u c = 16 by unfold errT; rw [errF_ok h, if_pos rfl, if_pos hl])
  have HC := Lib.hid (fun w => Check_any a n g u c w)
  rw [errF_ok h] at HC
  obtain ⟨h2, ad, cap, rfl, h4⟩ := hv
  clear h4
  obtain ⟨h1, h2, h3, h4, h5, h6, h7, h8, h9⟩ := h
  (refine calls_of_marks (w.heap.size) Try.func73 rfl ?_; simp only [Try.ntmps73, List.size_toArray, List.length_cons, List.length_nil, Nat.reduceAdd, Nat.reduceSub, Array.replicate_succ, Array.replicate_zero, List.push_toArray, List.append_toArray, List.nil_append, List.cons_append])
  go_wp2_with (go_at_call 60; refine (HC.out _).mono ?_; rintro e w' ⟨rfl, hb⟩; obtain ⟨hcc, hff⟩ := Bw.cells hb; have hsz := Bw.size hb; try (have hz0 : w.heap.size < w'.heap.size := by (try simp at hsz); omega); try (have hz1 : w.heap.size + 1 < w'.heap.size := by (try simp at hsz); omega); try (have hz2 : w.heap.size + 1 + 1 < w'.heap.size := by (try simp at hsz); omega); try (have hz3 : w.heap.size + 1 + 1 + 1 < w'.heap.size := by (try simp at hsz); omega); try (have hz4 : w.heap.size + 1 + 1 + 1 + 1 < w'.heap.size := by (try simp at hsz); omega); try (have hzr : wr.heap.size < w'.heap.size := by (try simp at hsz); omega); try (have hzr1 : wr.heap.size + 1 < w'.heap.size := by (try simp at hsz); omega))
  refine ⟨Marks.nil _ _, fun W' hS => ⟨.int .i64 16, ?_, by rw [HE.out], Bw.shut (W := w'.setCell ⟨w.heap.size + 1 + 1, 0, none⟩ (.int .i64 16)) (by repeat (first | exact Bw.refl _ | assumption | refine Bw.alloc ?_ _ | refine Bw.drew ?_ | refine Bw.trans ?_ (by assumption) | refine Bw.setCell ?_ (by simp; try omega) _)) hS⟩⟩
  have k4 := hS.cell (w.heap.size + 1 + 1) 0 (.int .i64 16) (cell_set_same _ _ _ _ (x := .int .i64 0) (by rw [hcc _ _ (by simp)]; simp [go_sem]))
  simp [results, Try.results73, go_sem, k4]
theorem there_ok (zs : List Int) (v : Value) (A N : Nat) (g : Bool) (u c : Int) (w : World) (hv : RdI w v zs) (h : fk A N u c) (hl : A + N ≤ zs.length) : Calls Try.prog 73 #[v, .agg #[.int .i64 A, .int .i64 N, .bool g, .int .i64 u, .int .i64 c]] w fun e w' => e = .returned (.int .i64 (errT zs A N u c)) ∧ Bw w w' := by
  have HE := Lib.hid (show errT zs A N u c = if oksP zs A N then 0 else 3 by unfold errT; rw [errF_ok h, if_pos rfl, if_neg (by omega)]; simp)
  have HC := Lib.hid (fun w => Check_any A N g u c w)
  have HP := Lib.hid (fun w => places_any A N g u c w)
  rw [errF_ok h] at HC
  obtain ⟨h2, ad, cap, rfl, h4⟩ := hv
  obtain ⟨h1, h2, h3, h4', h5, h6, h7, h8, h9⟩ := h
  obtain ⟨b, off, rfl, hb, hz⟩ := h4.resolve_left (by intro e; subst e; simp at hl; omega)
  have HZ := Lib.hid hz; clear hz h4
  (refine calls_of_marks (w.heap.size) Try.func73 rfl ?_; simp only [Try.ntmps73, List.size_toArray, List.length_cons, List.length_nil, Nat.reduceAdd, Nat.reduceSub, Array.replicate_succ, Array.replicate_zero, List.push_toArray, List.append_toArray, List.nil_append, List.cons_append])
  go_wp2_with (first | (go_at_call 60; refine (HC.out _).mono ?_; rintro e w' ⟨rfl, hb⟩; obtain ⟨hcc, hff⟩ := Bw.cells hb; have hsz := Bw.size hb; try (have hz0 : w.heap.size < w'.heap.size := by (try simp at hsz); omega); try (have hz1 : w.heap.size + 1 < w'.heap.size := by (try simp at hsz); omega); try (have hz2 : w.heap.size + 1 + 1 < w'.heap.size := by (try simp at hsz); omega); try (have hz3 : w.heap.size + 1 + 1 + 1 < w'.heap.size := by (try simp at hsz); omega); try (have hz4 : w.heap.size + 1 + 1 + 1 + 1 < w'.heap.size := by (try simp at hsz); omega); try (have hzr : wr.heap.size < w'.heap.size := by (try simp at hsz); omega); try (have hzr1 : wr.heap.size + 1 < w'.heap.size := by (try simp at hsz); omega)) | (go_at_call 68; refine (HP.out _).mono ?_; rintro e w9 ⟨rfl, rfl⟩))
  have k2 : (w'.alloc (Obj.cells #[.int .i64 A, .int .i64 N, .bool g, .int .i64 u, .int .i64 c] 81)).cell? ⟨w.heap.size, 0, none⟩ = some (.slice (some ⟨b, off, none⟩) zs.length cap) := by simp [*, go_sem]
  have k4 : (w'.alloc (Obj.cells #[.int .i64 A, .int .i64 N, .bool g, .int .i64 u, .int .i64 c] 81)).cell? ⟨w.heap.size + 1 + 1, 0, none⟩ = some (.int .i64 0) := by simp [*, go_sem]
  have kf : (w'.alloc (Obj.cells #[.int .i64 A, .int .i64 N, .bool g, .int .i64 u, .int .i64 c] 81)).frozen? ⟨w.heap.size + 1 + 1, 0, none⟩ = false := by simp [*, go_sem]
  have c0 : (w'.alloc (Obj.cells #[.int .i64 A, .int .i64 N, .bool g, .int .i64 u, .int .i64 c] 81)).cell? ⟨w'.heap.size, 0, none⟩ = some (.int .i64 A) := by simp [go_sem]
  have c1 : (w'.alloc (Obj.cells #[.int .i64 A, .int .i64 N, .bool g, .int .i64 u, .int .i64 c] 81)).cell? ⟨w'.heap.size, 1, none⟩ = some (.int .i64 N) := by simp [go_sem]
  have hsB : w'.heap.size < (w'.alloc (Obj.cells #[.int .i64 A, .int .i64 N, .bool g, .int .i64 u, .int .i64 c] 81)).heap.size := by simp
  have hbw : Bw w (w'.alloc (Obj.cells #[.int .i64 A, .int .i64 N, .bool g, .int .i64 u, .int .i64 c] 81)) := (by repeat (first | exact Bw.refl _ | assumption | refine Bw.alloc ?_ _ | refine Bw.drew ?_ | refine Bw.trans ?_ (by assumption) | refine Bw.setCell ?_ (by simp; try omega) _))
  generalize (w'.alloc (Obj.cells #[.int .i64 A, .int .i64 N, .bool g, .int .i64 u, .int .i64 c] 81)) = W0 at k2 k4 kf c0 c1 hsB hbw ⊢
  clear hcc hff hb
  refine range_places A N h1 h2 (by omega) (by omega) w'.heap.size hsB c0 c1 rfl rfl
    (fun pre W => (∀ y ∈ pre, zs.getD (A + y) 0 = 0 ∨ zs.getD (A + y) 0 = 1) ∧ (W.cell? ⟨w.heap.size, 0, none⟩ = some (.slice (some ⟨b, off, none⟩) zs.length cap) ∧ W.cell? ⟨w.heap.size + 1 + 1, 0, none⟩ = some (.int .i64 0) ∧ W.frozen? ⟨w.heap.size + 1 + 1, 0, none⟩ = false) ∧ Bw w W)
    (fun c _ W => c = .ret ∧ oksP zs A N = false ∧ W.cell? ⟨w.heap.size + 1 + 1, 0, none⟩ = some (.int .i64 3) ∧ Bw w W)
    (fun s X Y row hs hg hr => ⟨hs.1, ⟨cellK hs.2.1.1 hg hr, cellK hs.2.1.2.1 hg hr, frozenK hs.2.1.2.1 hs.2.1.2.2 hg hr⟩, bwK hs.2.2 hbw.size hg hr⟩)
    (fun c s X Y row hs hg hr => ⟨hs.1, hs.2.1, cellK hs.2.2.1 hg hr, bwK hs.2.2.2 hbw.size hg hr⟩)
    ⟨by simp, ⟨k2, k4, kf⟩, hbw⟩
    (fun y => [(22, .int .i64 (A + y)), (23, .int .i64 (N - 1 - y)), (6, .int .i64 (A + y))]) ?assign ?body ?done ?stop
  case assign =>
    intro l y W K hK
    gi_wp2
    exact hK
  case body =>
    rintro l pre y W hy _ ⟨hp, ⟨kb, kr, kfr⟩, hbW⟩
    simp only [List.foldl, List.setIfInBounds_toArray, List.set_cons_succ, List.set_cons_zero]
    have hcz := HZ.out (A + y) (by omega)
    rw [← hbW.cells.1 _ _ hb] at hcz
    have hpz : (zs.getD (A + y) 0 = 0 ∨ zs.getD (A + y) 0 = 1) → ∀ x ∈ pre ++ [y], zs.getD (A + x) 0 = 0 ∨ zs.getD (A + x) 0 = 1 := fun h x hx => (List.mem_append.1 hx).elim (hp x) (fun e => by simp at e; subst e; exact h)
    have hnz := oksP_not zs A N y hy
    have HP2 := Lib.hid hp; clear hp
    generalize zs.getD (A + y) 0 = z at hcz hpz hnz
    have HPZ := Lib.hid hpz; clear hpz
    have HNZ := Lib.hid hnz; clear hnz
    have hyi : (A : Int) + y < zs.length := by omega
    have hyt : ((A : Int) + y).toNat = A + y := by omega
    by_cases z0 : z = 0
    · subst z0
      gi_wp2
      exact ⟨KeepsFrom.refl _ _, fun _ => rfl, HPZ.out (by simp), ⟨kb, kr, kfr⟩, hbW⟩
    · by_cases z1 : z = 1
      · subst z1
        gi_wp2
        exact ⟨KeepsFrom.refl _ _, fun _ => rfl, HPZ.out (by simp), ⟨kb, kr, kfr⟩, hbW⟩
      · have y0 : (z != 0) = true := by simpa using z0
        have y1 : (z != 1) = true := by simpa using z1
        gi_wp2
        exact ⟨(KeepsOthers.setCell _ _ _).from _, rfl, HNZ.out z0 z1, cell_set_same _ _ _ _ kr, Bw.setCell hbW (by simp; omega) _⟩
  case done =>
    rintro D W hD ⟨hp, ⟨kb, kr, kfr⟩, hbW⟩ hK
    have HO := Lib.hid ((oksP_iff zs A N).2 (fun i hi => hp i (List.mem_range.2 hi))); clear hp
    go_wp2
    have hK' := (KeepsOthers.setCell W ⟨w.heap.size + 1 + 1, 0, none⟩ (.int .i64 0)).same D _ hK rfl
    refine ⟨Marks.one (by have := hbw.size; omega) hK', fun W' hS => ⟨.int .i64 0, ?_, by rw [HE.out, HO.out]; rfl, Bw.shut (W := W.setCell ⟨w.heap.size + 1 + 1, 0, none⟩ (.int .i64 0)) (Bw.setCell hbW (by simp; omega) _) hS⟩⟩
    have k4 := hS.cell (w.heap.size + 1 + 1) 0 (.int .i64 0) (cell_set_same _ _ _ _ kr)
    simp [results, Try.results73, go_sem, k4]
  case stop =>
    rintro D c k W hD _ ⟨rfl, ho, kr, hbW⟩ hK
    have HO := Lib.hid ho; clear ho
    go_wp2
    refine ⟨Marks.one (by have := hbw.size; omega) hK, fun W' hS => ⟨.int .i64 3, ?_, by rw [HE.out, HO.out]; rfl, Bw.shut hbW hS⟩⟩
    have k4 := hS.cell (w.heap.size + 1 + 1) 0 (.int .i64 3) kr
    simp [results, Try.results73, go_sem, k4]
theorem there_any (zs : List Int) (v : Value) (a n : Int) (g : Bool) (u c : Int) (w : World) (hv : RdI w v zs) : Calls Try.prog 73 #[v, .agg #[.int .i64 a, .int .i64 n, .bool g, .int .i64 u, .int .i64 c]] w fun e w' => e = .returned (.int .i64 (errT zs a n u c)) ∧ Bw w w' := by
  by_cases h : fk a n u c
  · by_cases hl : (zs.length : Int) < a + n
    · exact there_short zs v a n g u c w hv h hl
    · have h' := h
      obtain ⟨h1, _, h3, _⟩ := h'
      obtain ⟨A, rfl⟩ := Int.eq_ofNat_of_zero_le h1
      obtain ⟨N, rfl⟩ := Int.eq_ofNat_of_zero_le (show 0 ≤ n by omega)
      exact there_ok zs v A N g u c w hv h (by omega)
  · obtain ⟨ad, cap, rfl⟩ := hv.form
    exact there_bad zs ad zs.length cap a n g u c w h
end Go.Proofs.Sky

namespace Go.Proofs.Sky
open Go Go.RowKit Go.Shelf
attribute [local go_sem] Oper.semAt_some
set_option maxHeartbeats 1000000
def putF (zs : List Int) (A N : Nat) (x : Int) (pre : List Nat) : List Int := pre.foldl (fun zs y => zs.set (A + y) (bitN x (N - 1 - y))) zs
theorem putF_snoc (zs : List Int) (A N : Nat) (x : Int) (pre : List Nat) (y : Nat) : putF zs A N x (pre ++ [y]) = (putF zs A N x pre).set (A + y) (bitN x (N - 1 - y)) := by simp [putF]
theorem putF_length (zs : List Int) (A N : Nat) (x : Int) (pre : List Nat) : (putF zs A N x pre).length = zs.length := by
  unfold putF
  induction pre generalizing zs with
  | nil => rfl
  | cons y pre ih => simp [ih]
theorem putF_range (zs : List Int) (A N : Nat) (x : Int) (k : Nat) : putF zs A N x (List.range k) = putL zs A N x k := by
  induction k with
  | zero => rfl
  | succ k ih => rw [List.range_succ, putF_snoc, ih, putL]
/-- a block's cells hold ints, and may be written -/
structure OwI (w : World) (bl : Nat) (zs : List Int) : Prop where
  cell : ∀ i, i < zs.length → w.cell? ⟨bl, i, none⟩ = some (.int .i64 (zs.getD i 0))
  free : ∀ i, i < zs.length → w.frozen? ⟨bl, i, none⟩ = false
theorem OwI.K {w w' : World} {bl : Nat} {zs : List Int} {row : Option Nat} {B : Nat} (h : OwI w bl zs) (hg : w.grownBy w' row) (hr : ∀ r, row = some r → B ≤ r ∧ ∃ o : Obj, w.heap[r]? = some o ∧ o.isCells = false) : OwI w' bl zs :=
  ⟨fun i hi => cellK (h.cell i hi) hg hr, fun i hi => frozenK (h.cell i hi) (h.free i hi) hg hr⟩
theorem OwI.bw {w w' : World} {bl : Nat} {zs : List Int} (h : OwI w bl zs) (hb : Bw w w') : OwI w' bl zs := ⟨fun i hi => hb.cell' (h.cell i hi), fun i hi => hb.frozen' (h.cell i hi) (h.free i hi)⟩
theorem OwI.shut {w w' : World} {bl base : Nat} {zs : List Int} (h : OwI w bl zs) (hS : Shut base w w') : OwI w' bl zs :=
  ⟨fun i hi => hS.cell _ _ _ (h.cell i hi), fun i hi => (hS.frozen (h.cell i hi)).trans (h.free i hi)⟩
theorem OwI.set {w : World} {bl : Nat} {zs : List Int} (h : OwI w bl zs) (i : Nat) (x : Int) (hi : i < zs.length) : OwI (w.setCell ⟨bl, i, none⟩ (.int .i64 x)) bl (zs.set i x) := by
  refine ⟨fun j hj => ?_, fun j hj => by rw [frozen_set]; exact h.free j (by simpa using hj)⟩
  rw [List.length_set] at hj
  by_cases e : i = j
  · subst e
    rw [cell_set_same _ _ _ _ (h.cell i hi)]
    simp [List.getD_eq_getElem?_getD, hj]
  · rw [cell_set_off _ _ _ _ _ e, h.cell j hj]
    simp [List.getD_eq_getElem?_getD, e]
theorem OwI.other {w : World} {bl b o : Nat} {zs : List Int} (h : OwI w bl zs) (u : Value) (hn : b ≠ bl) : OwI (w.setCell ⟨b, o, none⟩ u) bl zs := 
  ⟨fun i hi => by rw [cell_set_ne _ _ _ _ _ _ hn]; exact h.cell i hi, fun i hi => by rw [frozen_set]; exact h.free i hi⟩
theorem put_ok (zs : List Int) (bl cap len : Nat) (A N : Nat) (g : Bool) (u c x : Int) (w : World) (h : fk A N u c) (hl : A + N ≤ len) (hz : zs.length = len) (hlen : len ≤ 9223372036854775807) (hb : bl < w.heap.size) (ho : OwI w bl zs) :
    Calls Try.prog 59 #[.slice (some ⟨bl, 0, none⟩) len cap, .agg #[.int .i64 A, .int .i64 N, .bool g, .int .i64 u, .int .i64 c], .int .i64 x] w fun e w' => e = .returned (.tuple #[]) ∧ OwI w' bl (putL zs A N x N) ∧ Gr bl w w' := by
  have HP := Lib.hid (fun w => places_any A N g u c w)
  obtain ⟨h1, h2, h3, h4', h5, h6, h7, h8, h9⟩ := h
  have HZ := Lib.hid hz; clear hz
  (refine calls_of_marks (w.heap.size) Try.func59 rfl ?_; simp only [Try.ntmps59, List.size_toArray, List.length_cons, List.length_nil, Nat.reduceAdd, Nat.reduceSub, Array.replicate_succ, Array.replicate_zero, List.push_toArray, List.append_toArray, List.nil_append, List.cons_append])
  go_wp2_with (first | (go_at_call 68; refine (HP.out _).mono ?_; rintro e w9 ⟨rfl, rfl⟩))
  have hbw : Bw w ((((w.alloc (Obj.cells #[.slice (some ⟨bl, 0, none⟩) len cap] 40)).alloc (Obj.cells #[.int .i64 A, .int .i64 N, .bool g, .int .i64 u, .int .i64 c] 81)).alloc (Obj.cells #[.int .i64 x] 3)).alloc (Obj.cells #[.int .i64 A, .int .i64 N, .bool g, .int .i64 u, .int .i64 c] 81)) := (by repeat (first | exact Bw.refl _ | assumption | refine Bw.alloc ?_ _ | refine Bw.drew ?_ | refine Bw.trans ?_ (by assumption) | refine Bw.setCell ?_ (by simp; try omega) _))
  obtain ⟨W0, hW0⟩ : ∃ W0, ((((w.alloc (Obj.cells #[.slice (some ⟨bl, 0, none⟩) len cap] 40)).alloc (Obj.cells #[.int .i64 A, .int .i64 N, .bool g, .int .i64 u, .int .i64 c] 81)).alloc (Obj.cells #[.int .i64 x] 3)).alloc (Obj.cells #[.int .i64 A, .int .i64 N, .bool g, .int .i64 u, .int .i64 c] 81)) = W0 := ⟨_, rfl⟩
  have k3 : W0.cell? ⟨w.heap.size, 0, none⟩ = some (.slice (some ⟨bl, 0, none⟩) len cap) := by rw [← hW0]; simp [go_sem]
  have k5 : W0.cell? ⟨w.heap.size + 1 + 1, 0, none⟩ = some (.int .i64 x) := by rw [← hW0]; simp [go_sem]
  have c0 : W0.cell? ⟨w.heap.size + 1 + 1 + 1, 0, none⟩ = some (.int .i64 A) := by rw [← hW0]; simp [go_sem]
  have c1 : W0.cell? ⟨w.heap.size + 1 + 1 + 1, 1, none⟩ = some (.int .i64 N) := by rw [← hW0]; simp [go_sem]
  have hsB : W0.heap.size = w.heap.size + 4 := by rw [← hW0]; simp
  have hbn : w.heap.size + 1 + 1 + 1 < W0.heap.size := by omega
  rw [hW0] at hbw ⊢
  have HS := Lib.hid hsB
  clear hW0 hsB
  refine range_places A N h1 h2 (by omega) (by omega) (w.heap.size + 1 + 1 + 1) hbn c0 c1 rfl rfl
    (fun pre W => (W.cell? ⟨w.heap.size, 0, none⟩ = some (.slice (some ⟨bl, 0, none⟩) len cap) ∧ W.cell? ⟨w.heap.size + 1 + 1, 0, none⟩ = some (.int .i64 x)) ∧ OwI W bl (putF zs A N x pre) ∧ Gr bl w W ∧ W0.heap.size ≤ W.heap.size)
    (fun c _ W => False)
    (fun s X Y row hs hg hr => ⟨⟨cellK hs.1.1 hg hr, cellK hs.1.2 hg hr⟩, hs.2.1.K hg hr, hs.2.2.1.K hbw.size hg hr, Nat.le_trans hs.2.2.2 hg.size⟩)
    (fun c s X Y row hs hg hr => hs)
    ⟨⟨k3, k5⟩, ho.bw hbw, Gr.of_bw hbw, Nat.le_refl _⟩
    (fun y => [(10, .int .i64 (A + y)), (11, .int .i64 (N - 1 - y)), (6, .int .i64 (A + y)), (7, .int .i64 (N - 1 - y))]) ?assign ?body ?done ?stop
  case assign =>
    intro l y W K hK
    gi_wp2
    exact hK
  case body =>
    rintro l pre y W hy _ ⟨⟨kb, kx⟩, hO, hG, hWs⟩
    simp only [List.foldl, List.setIfInBounds_toArray, List.set_cons_succ, List.set_cons_zero]
    have HO := Lib.hid hO; clear hO
    have e0 := fun p : Ext W => Ext.cell' kb p
    have e1 := fun p : Ext W => Ext.cell' kx p
    have hyi : (A : Int) + y < len := by omega
    have hyt : ((A : Int) + y).toNat = A + y := by omega
    have hyn : ((N : Int) - 1 - y) = ((N - 1 - y : Nat) : Int) := by omega
    have HY := Lib.hid hyn; rw [hyn]; clear hyn
    have hyb : N - 1 - y < 64 := by omega
    gi_wp2
    (refine wpIn_region_ext_tail 7 (by kernel_rfl) (by kernel_rfl) (fun ⟨_, _, h⟩ => h) (by kernel_rfl) ?_; simp only [List.take_succ_cons, List.take_zero, List.drop_succ_cons, List.drop_zero]; (repeat (go_big_quiet_step ((fail)))); refine wpQuiet_nil ?_; rintro W1 ⟨⟨_, hbq⟩, rfl⟩; obtain ⟨hccq, hffq⟩ := Bw.cells hbq; have hszq := Bw.size hbq)
    have hA1 := and1 (x / 2 ^ (N - 1 - y))
    have hO1 := HO.out.bw hbq
    have hlA : A + y < (putF zs A N x pre).length := by rw [putF_length]; have := HZ.out; omega
    have hcell := hO1.cell _ hlA
    have hfree := hO1.free _ hlA
    have HO1 := Lib.hid hO1; clear hO1
    go_wp2
    refine ⟨(KeepsFrom.of_bw hbq).trans ((KeepsOthers.setCell _ _ _).from _), kpB_t (KpB.of_bw (by omega) hbq) (KpB.set _ (by omega)), ⟨?_, ?_⟩, ?_, (hG.bw hbq).set (.inl rfl) _, by simp; omega⟩
    · rw [cell_set_ne _ _ _ _ _ _ (by omega)]; exact hbq.cell' kb
    · rw [cell_set_ne _ _ _ _ _ _ (by omega)]; exact hbq.cell' kx
    · have := HO1.out.set (A + y) (bitN x (N - 1 - y)) hlA
      rw [putF_snoc]
      exact this
  case done =>
    rintro D W hD ⟨_, hO, hG, hWs⟩ hK
    rw [putF_range] at hO
    have HO := Lib.hid hO; clear hO
    go_wp2
    refine ⟨Marks.one (by have := hbw.size; omega) hK, fun W' hS => ⟨.tuple #[], results_none rfl _ _ _, rfl, ?_, hG.shut hS⟩⟩
    exact ⟨fun i hi => hS.cell _ _ _ (HO.out.cell i hi), fun i hi => (hS.frozen (HO.out.cell i hi)).trans (HO.out.free i hi)⟩
  case stop =>
    rintro D c k W _ _ h _
    exact h.elim
end Go.Proofs.Sky

namespace Go.Proofs.Sky
open Go Go.RowKit Go.Shelf
attribute [local go_sem] Oper.semAt_some
set_option maxHeartbeats 1000000
def getF (zs : List Int) (A : Nat) (pre : List Nat) : Int := pre.foldl (fun m y => 2 * m + zs.getD (A + y) 0) 0
theorem getF_snoc (zs : List Int) (A : Nat) (pre : List Nat) (y : Nat) : getF zs A (pre ++ [y]) = 2 * getF zs A pre + zs.getD (A + y) 0 := by simp [getF]
theorem getF_range (zs : List Int) (A k : Nat) : getF zs A (List.range k) = getN zs A k := by
  induction k with
  | zero => rfl
  | succ k ih => rw [List.range_succ, getF_snoc, ih, getN]
def sx (N : Nat) (m : Int) : Int := if 2 ^ (N - 1) ≤ m then m - 2 ^ N else m
theorem sx_wrap (N : Nat) (m : Int) (h1 : 1 ≤ N) (h2 : N ≤ 40) (h3 : 0 ≤ m) (h4 : m < 2 ^ N) : wrap64 (m * 2 ^ (64 - N)) / 2 ^ (64 - N) = sx N m := by
  have e64 : (2 : Int) ^ N * 2 ^ (64 - N) = 18446744073709551616 := by rw [← Int.pow_add, show N + (64 - N) = 64 by omega]; decide
  have e63 : (2 : Int) ^ (N - 1) * 2 ^ (64 - N) = 9223372036854775808 := by rw [← Int.pow_add, show N - 1 + (64 - N) = 63 by omega]; decide
  have hp := pow_pos' (64 - N)
  generalize (2 : Int) ^ (64 - N) = p at *
  unfold sx
  split
  · rename_i h
    have a1 : (2 : Int) ^ (N - 1) * p ≤ m * p := Int.mul_le_mul_of_nonneg_right h (by omega)
    have a2 : m * p < 2 ^ N * p := Int.mul_lt_mul_of_pos_right h4 (by omega)
    have e : wrap64 (m * p) = (m - 2 ^ N) * p := by rw [Int.sub_mul]; unfold wrap64; omega
    rw [e, Int.mul_ediv_cancel _ (by omega)]
  · rename_i h
    have a1 : m * p < 2 ^ (N - 1) * p := Int.mul_lt_mul_of_pos_right (by omega) (by omega)
    have a2 : 0 ≤ m * p := Int.mul_nonneg h3 (by omega)
    have e : wrap64 (m * p) = m * p := by unfold wrap64; omega
    rw [e, Int.mul_ediv_cancel _ (by omega)]
theorem get_i64 (zs : List Int) (v : Value) (A N : Nat) (g : Bool) (u c : Int) (w : World) (hv : RdI w v zs) (h : fk A N u c) (hl : A + N ≤ zs.length) (hbit : ∀ i, i < N → zs.getD (A + i) 0 = 0 ∨ zs.getD (A + i) 0 = 1) :
    Calls Try.prog 75 #[v, .agg #[.int .i64 A, .int .i64 N, .bool g, .int .i64 u, .int .i64 c]] w fun e w' => e = .returned (.int .i64 (sx N (getN zs A N))) ∧ Bw w w' := by
  have HP := Lib.hid (fun w => places_any A N g u c w)
  obtain ⟨h2, ad, cap, rfl, h4⟩ := hv
  obtain ⟨h1, h2, h3, h4', h5, h6, h7, h8, h9⟩ := h
  obtain ⟨b, off, rfl, hb, hz⟩ := h4.resolve_left (by intro e; subst e; simp at hl; omega)
  have HZ := Lib.hid hz; clear hz h4
  have HB := Lib.hid hbit; clear hbit
  (refine calls_of_marks (w.heap.size) Try.func75 rfl ?_; simp only [Try.ntmps75, List.size_toArray, List.length_cons, List.length_nil, Nat.reduceAdd, Nat.reduceSub, Array.replicate_succ, Array.replicate_zero, List.push_toArray, List.append_toArray, List.nil_append, List.cons_append])
  go_wp2_with (first | (go_at_call 68; refine (HP.out _).mono ?_; rintro e w9 ⟨rfl, rfl⟩))
  have hbw : Bw w ((((w.alloc (Obj.cells #[.slice (some ⟨b, off, none⟩) zs.length cap] 40)).alloc (Obj.cells #[.int .i64 A, .int .i64 N, .bool g, .int .i64 u, .int .i64 c] 81)).alloc (Obj.cells #[.int .i64 0] 2)).alloc (Obj.cells #[.int .i64 A, .int .i64 N, .bool g, .int .i64 u, .int .i64 c] 81)) := (by repeat (first | exact Bw.refl _ | assumption | refine Bw.alloc ?_ _ | refine Bw.drew ?_ | refine Bw.trans ?_ (by assumption) | refine Bw.setCell ?_ (by simp; try omega) _))
  obtain ⟨W0, hW0⟩ : ∃ W0, ((((w.alloc (Obj.cells #[.slice (some ⟨b, off, none⟩) zs.length cap] 40)).alloc (Obj.cells #[.int .i64 A, .int .i64 N, .bool g, .int .i64 u, .int .i64 c] 81)).alloc (Obj.cells #[.int .i64 0] 2)).alloc (Obj.cells #[.int .i64 A, .int .i64 N, .bool g, .int .i64 u, .int .i64 c] 81)) = W0 := ⟨_, rfl⟩
  have k3 : W0.cell? ⟨w.heap.size, 0, none⟩ = some (.slice (some ⟨b, off, none⟩) zs.length cap) := by rw [← hW0]; simp [go_sem]
  have kn : W0.cell? ⟨w.heap.size + 1, 1, none⟩ = some (.int .i64 N) := by rw [← hW0]; simp [go_sem]
  have k5 : W0.cell? ⟨w.heap.size + 1 + 1, 0, none⟩ = some (.int .i64 0) := by rw [← hW0]; simp [go_sem]
  have kf : W0.frozen? ⟨w.heap.size + 1 + 1, 0, none⟩ = false := by rw [← hW0]; simp [go_sem]
  have c0 : W0.cell? ⟨w.heap.size + 1 + 1 + 1, 0, none⟩ = some (.int .i64 A) := by rw [← hW0]; simp [go_sem]
  have c1 : W0.cell? ⟨w.heap.size + 1 + 1 + 1, 1, none⟩ = some (.int .i64 N) := by rw [← hW0]; simp [go_sem]
  have hsB : W0.heap.size = w.heap.size + 4 := by rw [← hW0]; simp
  have hbn : w.heap.size + 1 + 1 + 1 < W0.heap.size := by omega
  rw [hW0] at hbw ⊢
  have HS := Lib.hid hsB
  clear hW0 hsB
  refine range_places A N h1 h2 (by omega) (by omega) (w.heap.size + 1 + 1 + 1) hbn c0 c1 rfl rfl
    (fun pre W => (W.cell? ⟨w.heap.size, 0, none⟩ = some (.slice (some ⟨b, off, none⟩) zs.length cap) ∧ W.cell? ⟨w.heap.size + 1 + 1, 0, none⟩ = some (.int .i64 (getF zs A pre)) ∧ W.frozen? ⟨w.heap.size + 1 + 1, 0, none⟩ = false ∧ W.cell? ⟨w.heap.size + 1, 1, none⟩ = some (.int .i64 N)) ∧ (0 ≤ getF zs A pre ∧ getF zs A pre < 2 ^ pre.length) ∧ Bw w W ∧ W0.heap.size ≤ W.heap.size)
    (fun c _ W => False)
    (fun s X Y row hs hg hr => ⟨⟨cellK hs.1.1 hg hr, cellK hs.1.2.1 hg hr, frozenK hs.1.2.1 hs.1.2.2.1 hg hr, cellK hs.1.2.2.2 hg hr⟩, hs.2.1, bwK hs.2.2.1 hbw.size hg hr, Nat.le_trans hs.2.2.2 hg.size⟩)
    (fun c s X Y row hs hg hr => hs)
    ⟨⟨k3, k5, kf, kn⟩, by simp [getF], hbw, Nat.le_refl _⟩
    (fun y => [(10, .int .i64 (A + y)), (11, .int .i64 (N - 1 - y)), (6, .int .i64 (A + y))]) ?assign ?body ?done ?stop
  case assign =>
    intro l y W K hK
    gi_wp2
    exact hK
  case body =>
    rintro l pre y W hy hpl ⟨⟨kb, kx, kf, kn⟩, ⟨g1, g2⟩, hB, hWs⟩
    simp only [List.foldl, List.setIfInBounds_toArray, List.set_cons_succ, List.set_cons_zero]
    have hcz := HZ.out (A + y) (by omega)
    rw [← hB.cells.1 _ _ hb] at hcz
    have hbz := HB.out y hy
    have hsn := Lib.hid (getF_snoc zs A pre y)
    generalize zs.getD (A + y) 0 = z at hcz hbz hsn
    have g3 : getF zs A pre < 1099511627776 := Int.lt_of_lt_of_le g2 (by have := pow_le pre.length 40 (by omega); simpa using this)
    have hor := or_i64 (getF zs A pre) z g1 (by omega) hbz
    have G2 := Lib.hid g2; clear g2
    generalize getF zs A pre = m at *
    have e0 := fun p : Ext W => Ext.cell' kb p
    have e1 := fun p : Ext W => Ext.cell' kx p
    have e2 := fun p : Ext W => Ext.cell' hcz p
    have hyi : (A : Int) + y < zs.length := by omega
    have hyt : ((A : Int) + y).toNat = A + y := by omega
    gi_wp2
    (refine wpIn_region_ext_tail 7 (by kernel_rfl) (by kernel_rfl) (fun ⟨_, _, h⟩ => h) (by kernel_rfl) ?_; simp only [List.take_succ_cons, List.take_zero, List.drop_succ_cons, List.drop_zero]; (repeat (go_big_quiet_step ((fail)))); refine wpQuiet_nil ?_; rintro W1 ⟨⟨_, hbq⟩, rfl⟩; obtain ⟨hccq, hffq⟩ := Bw.cells hbq; have hszq := Bw.size hbq)
    have kx1 := hbq.cell' kx
    have kf1 := hbq.frozen' kx kf
    go_wp2
    refine ⟨(KeepsFrom.of_bw hbq).trans ((KeepsOthers.setCell _ _ _).from _), kpB_t (KpB.of_bw (by omega) hbq) (KpB.set _ (by omega)), ⟨?_, ?_, ?_, ?_⟩, ?_, Bw.setCell (Bw.trans hB hbq) (by simp; omega) _, by simp; omega⟩
    · rw [cell_set_ne _ _ _ _ _ _ (by omega)]; exact hbq.cell' kb
    · rw [hsn.out]; exact cell_set_same _ _ _ _ kx1
    · rw [frozen_set]; exact kf1
    · rw [cell_set_ne _ _ _ _ _ _ (by omega)]; exact hbq.cell' kn
    · rw [hsn.out, List.length_append, List.length_singleton, Int.pow_succ]; have := G2.out; omega
  case done =>
    rintro D W hD ⟨⟨kb, kx, kf, kn⟩, ⟨g1, g2⟩, hB, hWs⟩ hK
    rw [getF_range] at kx g1 g2
    rw [List.length_range] at g2
    obtain ⟨m, hm⟩ : ∃ m, getN zs A N = m := ⟨_, rfl⟩
    rw [hm] at kx g1 g2
    have HM := Lib.hid hm; clear hm
    have HX := Lib.hid (sx_wrap N m (by omega) (by omega) g1 g2); clear g2
    go_wp2
    refine ⟨Marks.one (by have := hbw.size; omega) hK, fun W' hS => ⟨.int .i64 (sx N m), ?_, by rw [HM.out], hB.shut hS⟩⟩
    rw [HX.out]
    simp [results, Try.results75, go_sem]
  case stop =>
    rintro D c k W _ _ h _
    exact h.elim
theorem ux_wrap (N : Nat) (m : Int) (h1 : 1 ≤ N) (h2 : N ≤ 40) (h3 : 0 ≤ m) (h4 : m < 2 ^ N) : IntKind.u64.wrap (m * 2 ^ (64 - N)) / 2 ^ (64 - N) = m := by
  rw [IntKind.wrap_u64]
  have e64 : (2 : Int) ^ N * 2 ^ (64 - N) = 18446744073709551616 := by rw [← Int.pow_add, show N + (64 - N) = 64 by omega]; decide
  have hp := pow_pos' (64 - N)
  generalize (2 : Int) ^ (64 - N) = p at *
  have a2 : m * p < 2 ^ N * p := Int.mul_lt_mul_of_pos_right h4 (by omega)
  have a3 : 0 ≤ m * p := Int.mul_nonneg h3 (by omega)
  rw [Int.emod_eq_of_lt a3 (by omega), Int.mul_ediv_cancel _ (by omega)]
theorem get_u64 (zs : List Int) (v : Value) (A N : Nat) (g : Bool) (u c : Int) (w : World) (hv : RdI w v zs) (h : fk A N u c) (hl : A + N ≤ zs.length) (hbit : ∀ i, i < N → zs.getD (A + i) 0 = 0 ∨ zs.getD (A + i) 0 = 1) :
    Calls Try.prog 76 #[v, .agg #[.int .i64 A, .int .i64 N, .bool g, .int .i64 u, .int .i64 c]] w fun e w' => e = .returned (.int .u64 (getN zs A N)) ∧ Bw w w' := by
  have HP := Lib.hid (fun w => places_any A N g u c w)
  obtain ⟨h2, ad, cap, rfl, h4⟩ := hv
  obtain ⟨h1, h2, h3, h4', h5, h6, h7, h8, h9⟩ := h
  obtain ⟨b, off, rfl, hb, hz⟩ := h4.resolve_left (by intro e; subst e; simp at hl; omega)
  have HZ := Lib.hid hz; clear hz h4
  have HB := Lib.hid hbit; clear hbit
  (refine calls_of_marks (w.heap.size) Try.func76 rfl ?_; simp only [Try.ntmps76, List.size_toArray, List.length_cons, List.length_nil, Nat.reduceAdd, Nat.reduceSub, Array.replicate_succ, Array.replicate_zero, List.push_toArray, List.append_toArray, List.nil_append, List.cons_append])
  go_wp2_with (first | (go_at_call 68; refine (HP.out _).mono ?_; rintro e w9 ⟨rfl, rfl⟩))
  have hbw : Bw w ((((w.alloc (Obj.cells #[.slice (some ⟨b, off, none⟩) zs.length cap] 40)).alloc (Obj.cells #[.int .i64 A, .int .i64 N, .bool g, .int .i64 u, .int .i64 c] 81)).alloc (Obj.cells #[.int .u64 0] 125)).alloc (Obj.cells #[.int .i64 A, .int .i64 N, .bool g, .int .i64 u, .int .i64 c] 81)) := (by repeat (first | exact Bw.refl _ | assumption | refine Bw.alloc ?_ _ | refine Bw.drew ?_ | refine Bw.trans ?_ (by assumption) | refine Bw.setCell ?_ (by simp; try omega) _))
  obtain ⟨W0, hW0⟩ : ∃ W0, ((((w.alloc (Obj.cells #[.slice (some ⟨b, off, none⟩) zs.length cap] 40)).alloc (Obj.cells #[.int .i64 A, .int .i64 N, .bool g, .int .i64 u, .int .i64 c] 81)).alloc (Obj.cells #[.int .u64 0] 125)).alloc (Obj.cells #[.int .i64 A, .int .i64 N, .bool g, .int .i64 u, .int .i64 c] 81)) = W0 := ⟨_, rfl⟩
  have k3 : W0.cell? ⟨w.heap.size, 0, none⟩ = some (.slice (some ⟨b, off, none⟩) zs.length cap) := by rw [← hW0]; simp [go_sem]
  have kn : W0.cell? ⟨w.heap.size + 1, 1, none⟩ = some (.int .i64 N) := by rw [← hW0]; simp [go_sem]
  have k5 : W0.cell? ⟨w.heap.size + 1 + 1, 0, none⟩ = some (.int .u64 0) := by rw [← hW0]; simp [go_sem]
  have kf : W0.frozen? ⟨w.heap.size + 1 + 1, 0, none⟩ = false := by rw [← hW0]; simp [go_sem]
  have c0 : W0.cell? ⟨w.heap.size + 1 + 1 + 1, 0, none⟩ = some (.int .i64 A) := by rw [← hW0]; simp [go_sem]
  have c1 : W0.cell? ⟨w.heap.size + 1 + 1 + 1, 1, none⟩ = some (.int .i64 N) := by rw [← hW0]; simp [go_sem]
  have hsB : W0.heap.size = w.heap.size + 4 := by rw [← hW0]; simp
  have hbn : w.heap.size + 1 + 1 + 1 < W0.heap.size := by omega
  rw [hW0] at hbw ⊢
  have HS := Lib.hid hsB
  clear hW0 hsB
  refine range_places A N h1 h2 (by omega) (by omega) (w.heap.size + 1 + 1 + 1) hbn c0 c1 rfl rfl
    (fun pre W => (W.cell? ⟨w.heap.size, 0, none⟩ = some (.slice (some ⟨b, off, none⟩) zs.length cap) ∧ W.cell? ⟨w.heap.size + 1 + 1, 0, none⟩ = some (.int .u64 (getF zs A pre)) ∧ W.frozen? ⟨w.heap.size + 1 + 1, 0, none⟩ = false ∧ W.cell? ⟨w.heap.size + 1, 1, none⟩ = some (.int .i64 N)) ∧ (0 ≤ getF zs A pre ∧ getF zs A pre < 2 ^ pre.length) ∧ Bw w W ∧ W0.heap.size ≤ W.heap.size)
    (fun c _ W => False)
    (fun s X Y row hs hg hr => ⟨⟨cellK hs.1.1 hg hr, cellK hs.1.2.1 hg hr, frozenK hs.1.2.1 hs.1.2.2.1 hg hr, cellK hs.1.2.2.2 hg hr⟩, hs.2.1, bwK hs.2.2.1 hbw.size hg hr, Nat.le_trans hs.2.2.2 hg.size⟩)
    (fun c s X Y row hs hg hr => hs)
    ⟨⟨k3, k5, kf, kn⟩, by simp [getF], hbw, Nat.le_refl _⟩
    (fun y => [(10, .int .i64 (A + y)), (11, .int .i64 (N - 1 - y)), (6, .int .i64 (A + y))]) ?assign ?body ?done ?stop
  case assign =>
    intro l y W K hK
    gi_wp2
    exact hK
  case body =>
    rintro l pre y W hy hpl ⟨⟨kb, kx, kf, kn⟩, ⟨g1, g2⟩, hB, hWs⟩
    simp only [List.foldl, List.setIfInBounds_toArray, List.set_cons_succ, List.set_cons_zero]
    have hcz := HZ.out (A + y) (by omega)
    rw [← hB.cells.1 _ _ hb] at hcz
    have hbz := HB.out y hy
    have hsn := Lib.hid (getF_snoc zs A pre y)
    generalize zs.getD (A + y) 0 = z at hcz hbz hsn
    have g3 : getF zs A pre < 1099511627776 := Int.lt_of_lt_of_le g2 (by have := pow_le pre.length 40 (by omega); simpa using this)
    have hor := or_u64 (getF zs A pre) z g1 (by omega) hbz
    have G2 := Lib.hid g2; clear g2
    generalize getF zs A pre = m at *
    have e0 := fun p : Ext W => Ext.cell' kb p
    have e1 := fun p : Ext W => Ext.cell' kx p
    have e2 := fun p : Ext W => Ext.cell' hcz p
    have hyi : (A : Int) + y < zs.length := by omega
    have hyt : ((A : Int) + y).toNat = A + y := by omega
    gi_wp2
    (refine wpIn_region_ext_tail 8 (by kernel_rfl) (by kernel_rfl) (fun ⟨_, _, h⟩ => h) (by kernel_rfl) ?_; simp only [List.take_succ_cons, List.take_zero, List.drop_succ_cons, List.drop_zero]; (repeat (go_big_quiet_step ((fail)))); refine wpQuiet_nil ?_; rintro W1 ⟨⟨_, hbq⟩, rfl⟩; obtain ⟨hccq, hffq⟩ := Bw.cells hbq; have hszq := Bw.size hbq)
    have kx1 := hbq.cell' kx
    have kf1 := hbq.frozen' kx kf
    go_wp2
    refine ⟨(KeepsFrom.of_bw hbq).trans ((KeepsOthers.setCell _ _ _).from _), kpB_t (KpB.of_bw (by omega) hbq) (KpB.set _ (by omega)), ⟨?_, ?_, ?_, ?_⟩, ?_, Bw.setCell (Bw.trans hB hbq) (by simp; omega) _, by simp; omega⟩
    · rw [cell_set_ne _ _ _ _ _ _ (by omega)]; exact hbq.cell' kb
    · rw [hsn.out]; exact cell_set_same _ _ _ _ kx1
    · rw [frozen_set]; exact kf1
    · rw [cell_set_ne _ _ _ _ _ _ (by omega)]; exact hbq.cell' kn
    · rw [hsn.out, List.length_append, List.length_singleton, Int.pow_succ]; have := G2.out; omega
  case done =>
    rintro D W hD ⟨⟨kb, kx, kf, kn⟩, ⟨g1, g2⟩, hB, hWs⟩ hK
    rw [getF_range] at kx g1 g2
    rw [List.length_range] at g2
    obtain ⟨m, hm⟩ : ∃ m, getN zs A N = m := ⟨_, rfl⟩
    rw [hm] at kx g1 g2
    have HM := Lib.hid hm; clear hm
    have HX := Lib.hid (ux_wrap N m (by omega) (by omega) g1 g2); clear g2
    go_wp2
    refine ⟨Marks.one (by have := hbw.size; omega) hK, fun W' hS => ⟨.int .u64 m, ?_, by rw [HM.out], hB.shut hS⟩⟩
    rw [HX.out]
    simp [results, Try.results76, go_sem]
  case stop =>
    rintro D c k W _ _ h _
    exact h.elim
end Go.Proofs.Sky

namespace Go.Proofs.Sky
open Go Go.RowKit
set_option maxHeartbeats 1000000
theorem raws_any (a n : Int) (g : Bool) (u c : Int) (h1 : 1 ≤ n) (h2 : n ≤ 40) (w : World) : Calls Try.prog 61 #[.agg #[.int .i64 a, .int .i64 n, .bool g, .int .i64 u, .int .i64 c]] w fun e w' => e = .returned (.tuple #[.int .i64 (lowR n g), .int .i64 (highR n g)]) ∧ Bw w w' := by
  have ⟨p1, p2⟩ := pow40 (n.toNat - 1) (by omega)
  have ⟨p3, p4⟩ := pow40 n.toNat (by omega)
  rcases g with _ | _
  · go_enter Try.func61, Try.ntmps61
    go_wp2
    have e1 := fun p : Ext (w.alloc (Obj.cells #[.int .i64 a, .int .i64 n, .bool false, .int .i64 u, .int .i64 c] 81)) => Ext.cell (b := w.heap.size) (o := 1) (v := .int .i64 n) (by simp) (by simp [go_sem]) p
    (refine wp_region_quiet_ext (by kernel_rfl) (by kernel_rfl) ?_; (repeat (go_big_quiet_step ((fail)))); refine wpQuiet_nil ?_; rintro wq ⟨⟨_, hbq⟩, rfl⟩; obtain ⟨hccq, hffq⟩ := Bw.cells hbq; have hszq := Bw.size hbq)
    go_wp2
    go_ret2
    exact ⟨rfl, (by repeat (first | exact Bw.refl _ | assumption | refine Bw.alloc ?_ _ | refine Bw.drew ?_ | refine Bw.trans ?_ (by assumption) | refine Bw.setCell ?_ (by simp; try omega) _))⟩
  · go_enter Try.func61, Try.ntmps61
    go_wp2
    have e1 := fun p : Ext (w.alloc (Obj.cells #[.int .i64 a, .int .i64 n, .bool true, .int .i64 u, .int .i64 c] 81)) => Ext.cell (b := w.heap.size) (o := 1) (v := .int .i64 n) (by simp) (by simp [go_sem]) p
    (refine wp_region_quiet_ext (by kernel_rfl) (by kernel_rfl) ?_; (repeat (go_big_quiet_step ((fail)))); refine wpQuiet_nil ?_; rintro wq ⟨⟨_, hbq⟩, rfl⟩; obtain ⟨hccq, hffq⟩ := Bw.cells hbq; have hszq := Bw.size hbq)
    go_wp2
    go_ret2
    exact ⟨rfl, (by repeat (first | exact Bw.refl _ | assumption | refine Bw.alloc ?_ _ | refine Bw.drew ?_ | refine Bw.trans ?_ (by assumption) | refine Bw.setCell ?_ (by simp; try omega) _))⟩
end Go.Proofs.Sky

namespace Go.Proofs.Sky
open Go Go.RowKit Go.Shelf
set_option maxHeartbeats 1000000
theorem rawV_in {u c v : Int} (h : inV v = true) : rawV u c v = rawN (v - c) u := by unfold rawV; rw [if_pos h]
theorem rawV_out {u c v : Int} (h : inV v = false) : rawV u c v = 0 := by unfold rawV; rw [h]; rfl
theorem rawB_in {n : Int} {g : Bool} {u c v : Int} (h : inV v = true) : rawB n g u c v = decide (lowR n g ≤ rawN (v - c) u ∧ rawN (v - c) u ≤ highR n g) := by unfold rawB; rw [h]; rfl
theorem rawB_out {n : Int} {g : Bool} {u c v : Int} (h : inV v = false) : rawB n g u c v = false := by unfold rawB; rw [h]; rfl
theorem inV_iff (v : Int) : inV v = true ↔ (-2000000000000000000 ≤ v ∧ v ≤ 2000000000000000000) := by unfold inV; simp
theorem inV_not (v : Int) (h : ¬ (-2000000000000000000 ≤ v ∧ v ≤ 2000000000000000000)) : inV v = false := by unfold inV; simpa using h
theorem rawN_bd (d u : Int) (hu : 1 ≤ u) (h1 : -2001000000000000000 ≤ d) (h2 : d ≤ 2001000000000000000) : -2001000000000000001 ≤ rawN d u ∧ rawN d u ≤ 2001000000000000001 := by
  by_cases hd : d < 0
  · rw [rawN_neg d u hu hd]
    have a := Int.ediv_nonneg (show 0 ≤ -d by omega) (show 0 ≤ u by omega)
    have b := Int.ediv_le_self u (show 0 ≤ -d by omega)
    split <;> omega
  · rw [rawN_pos d u hu (by omega)]
    have a := Int.ediv_nonneg (show 0 ≤ d by omega) (show 0 ≤ u by omega)
    have b := Int.ediv_le_self u (show 0 ≤ d by omega)
    split <;> omega
/-- the way of the program's division -/
theorem raw_way (d u : Int) (hu : 1 ≤ u) (h1 : -2001000000000000000 ≤ d) (h2 : d ≤ 2001000000000000000) : ∃ q r : Int, d.tdiv u = q ∧ d.tmod u = r ∧ -2001000000000000000 ≤ q ∧ q ≤ 2001000000000000000 ∧ -u < r ∧ r < u ∧
    ((u ≤ 2 * r ∧ rawN d u = q + 1) ∨ (2 * r < u ∧ u ≤ -2 * r ∧ rawN d u = q - 1) ∨ (2 * r < u ∧ -2 * r < u ∧ rawN d u = q)) := by
  refine ⟨d.tdiv u, d.tmod u, rfl, rfl, ?_⟩
  by_cases hd : d < 0
  · have e1 : d.tdiv u = -(-d / u) := by
      have := Int.neg_tdiv (a := -d) (b := u); rw [Int.neg_neg] at this; rw [this, Int.tdiv_eq_ediv_of_nonneg (by omega)]
    have e2 : d.tmod u = -(-d % u) := by
      have := Int.neg_tmod (-d) u; rw [Int.neg_neg] at this; rw [this, Int.tmod_eq_emod_of_nonneg (by omega)]
    rw [e1, e2, rawN_neg d u hu hd]
    have a := Int.ediv_nonneg (show 0 ≤ -d by omega) (show 0 ≤ u by omega)
    have b := Int.ediv_le_self u (show 0 ≤ -d by omega)
    have c := Int.emod_nonneg (-d) (show u ≠ 0 by omega)
    have e := Int.emod_lt_of_pos (-d) (show 0 < u by omega)
    refine ⟨by omega, by omega, by omega, by omega, ?_⟩
    split
    · right; left; omega
    · right; right; omega
  · rw [Int.tdiv_eq_ediv_of_nonneg (by omega), Int.tmod_eq_emod_of_nonneg (by omega), rawN_pos d u hu (by omega)]
    have a := Int.ediv_nonneg (show 0 ≤ d by omega) (show 0 ≤ u by omega)
    have b := Int.ediv_le_self u (show 0 ≤ d by omega)
    have c := Int.emod_nonneg d (show u ≠ 0 by omega)
    have e := Int.emod_lt_of_pos d (show 0 < u by omega)
    refine ⟨by omega, by omega, by omega, by omega, ?_⟩
    split
    · left; omega
    · right; right; omega
theorem ret_ib {a b : Int} {x y : Bool} (h : a = b) (k : x = y) : Ending.returned (.tuple #[.int .i64 a, .bool x]) = .returned (.tuple #[.int .i64 b, .bool y]) := by rw [h, k]
def RawP (n : Int) (g : Bool) (u c v : Int) (e : Ending) : Prop := e = .returned (.tuple #[.int .i64 (rawV u c v), .bool (rawB n g u c v)])
theorem raw_any (a n : Int) (g : Bool) (u c v : Int) (w : World) (h : fk a n u c) : Calls Try.prog 58 #[.agg #[.int .i64 a, .int .i64 n, .bool g, .int .i64 u, .int .i64 c], .int .i64 v] w fun e w' => RawP n g u c v e ∧ Bw w w' := by
  obtain ⟨h1, h2, h3, h4, h5, h6, h7, h8, h9⟩ := h
  by_cases hv : -2000000000000000000 ≤ v ∧ v ≤ 2000000000000000000
  · have HR := Lib.hid (show RawP n g u c v = fun e => e = .returned (.tuple #[.int .i64 (rawN (v - c) u), .bool (decide (lowR n g ≤ rawN (v - c) u ∧ rawN (v - c) u ≤ highR n g))]) by unfold RawP; rw [rawV_in ((inV_iff v).2 hv), rawB_in ((inV_iff v).2 hv)])
    obtain ⟨v1, v2⟩ := hv
    have HC := Lib.hid (fun w => raws_any a n g u c h3 h4 w)
    have ⟨l1, l2⟩ := lowR_bd n g h3 h4
    have ⟨k1, k2⟩ := highR_bd n g h3 h4
    obtain ⟨q, r, t1, t2, q1, q2, r1, r2, ways⟩ := raw_way (v - c) u h6 (by omega) (by omega)
    have c0 := fun p : Ext _ => Ext.cell (w := w.alloc (Obj.cells #[.int .i64 a, .int .i64 n, .bool g, .int .i64 u, .int .i64 c] 81)) (b := w.heap.size) (o := 3) (v := .int .i64 u) (by simp) (by simp [go_sem]) p
    have u0 : (u == 0) = false := by simp; omega
    generalize lowR n g = lo at *
    generalize highR n g = hi at *
    rcases ways with ⟨y1, yR⟩ | ⟨y1, y2, yR⟩ | ⟨y1, y2, yR⟩
    all_goals
      have HQ := Lib.hid yR; clear yR
      go_enter Try.func58, Try.ntmps58
      go_wp2
      (refine wp_region_quiet_ext (by kernel_rfl) (by kernel_rfl) ?_; (repeat (go_big_quiet_step ((fail)))); refine wpQuiet_nil ?_; rintro wa ⟨⟨_, hbq⟩, rfl⟩; obtain ⟨hccq, hffq⟩ := Bw.cells hbq; have hszq := Bw.size hbq)
      clear c0
      go_wp2_with (go_at_call 61; refine (HC.out _).mono ?_; rintro e w' ⟨rfl, hb⟩; obtain ⟨hcc, hff⟩ := Bw.cells hb; have hsz := Bw.size hb; try (have hz0 : w.heap.size < w'.heap.size := by (try simp at hsz); omega); try (have hz1 : w.heap.size + 1 < w'.heap.size := by (try simp at hsz); omega); try (have hz2 : w.heap.size + 1 + 1 < w'.heap.size := by (try simp at hsz); omega); try (have hz3 : w.heap.size + 1 + 1 + 1 < w'.heap.size := by (try simp at hsz); omega); try (have hz4 : w.heap.size + 1 + 1 + 1 + 1 < w'.heap.size := by (try simp at hsz); omega); try (have hzr : wr.heap.size < w'.heap.size := by (try simp at hsz); omega); try (have hzr1 : wr.heap.size + 1 < w'.heap.size := by (try simp at hsz); omega))
      all_goals (go_ret2; refine ⟨by rw [HR.out, HQ.out]; exact ret_ib rfl (by (try simp); (try omega)), (by repeat (first | exact Bw.refl _ | assumption | refine Bw.alloc ?_ _ | refine Bw.drew ?_ | refine Bw.trans ?_ (by assumption) | refine Bw.setCell ?_ (by simp; try omega) _))⟩)
  · have HR := Lib.hid (show RawP n g u c v = fun e => e = .returned (.tuple #[.int .i64 0, .bool false]) by unfold RawP; rw [rawV_out (inV_not v hv), rawB_out (inV_not v hv)])
    have HV := Lib.hid hv; clear hv
    go_enter Try.func58, Try.ntmps58
    go_wp2
    all_goals first | (exfalso; have := HV.out; omega) | skip
    all_goals (go_ret2; exact ⟨by rw [HR.out]; exact ret_ib rfl rfl, (by repeat (first | exact Bw.refl _ | assumption | refine Bw.alloc ?_ _ | refine Bw.drew ?_ | refine Bw.trans ?_ (by assumption) | refine Bw.setCell ?_ (by simp; try omega) _))⟩)
end Go.Proofs.Sky

namespace Go.Proofs.Sky
open Go Go.RowKit Go.Shelf
set_option maxHeartbeats 1000000
end Go.Proofs.Sky
