/-
  lemmas for the theorems of this claim. No conditions beyond those written in the statements.
-/
import Derived.Test.YtcbkjfakedngbaaD25
set_option linter.unusedVariables false
set_option linter.unusedSimpArgs false
set_option linter.unnecessarySimpa false
namespace Go.Proofs.Sky
open Go Go.RowKit Go.Shelf
attribute [local go_sem] Oper.semAt_some
set_option maxHeartbeats 1000000
def errT (zs : List Int) (a n u c : Int) : Int := if errF a n u c = 0 then (if (zs.length : Int) < a + n then 16 else if oksP zs a.toNat n.toNat then 0 else 3) else 2
theorem there_bad (zs : List Int) (ad : Option Addr) (len cap : Nat) (a n : Int) (g : Bool) (u c : Int) (w : World) (h : ¬ fk a n u c) : Calls Try.prog 33 #[.slice ad len cap, .agg #[.int .i64 a, .int .i64 n, .bool g, .int .i64 u, .int .i64 c]] w fun e w' => e = .returned (.int .i64 (errT zs a n u c)) ∧ Bw w w' := by
  have HE := Lib.hid (show errT zs a n u c = 2 by unfold errT; rw [errF_no h]; rfl)
  have HC := Lib.hid (fun w => Check_any a n g u c w)
  rw [errF_no h] at HC
  clear h
  (refine calls_of_marks (w.heap.size) Try.func33 rfl ?_; simp only [Try.ntmps33, List.size_toArray, List.length_cons, List.length_nil, Nat.reduceAdd, Nat.reduceSub, Array.replicate_succ, Array.replicate_zero, List.push_toArray, List.append_toArray, List.nil_append, List.cons_append])
  go_wp2_with (go_at_call 16; refine (HC.out _).mono ?_; rintro e w' ⟨rfl, hb⟩; obtain ⟨hcc, hff⟩ := Bw.cells hb; have hsz := Bw.size hb; try (have hz0 : w.heap.size < w'.heap.size := by (try simp at hsz); omega); try (have hz1 : w.heap.size + 1 < w'.heap.size := by (try simp at hsz); omega); try (have hz2 : w.heap.size + 1 + 1 < w'.heap.size := by (try simp at hsz); omega); try (have hz3 : w.heap.size + 1 + 1 + 1 < w'.heap.size := by (try simp at hsz); omega); try (have hz4 : w.heap.size + 1 + 1 + 1 + 1 < w'.heap.size := by (try simp at hsz); omega); try (have hzr : wr.heap.size < w'.heap.size := by (try simp at hsz); omega); try (have hzr1 : wr.heap.size + 1 < w'.heap.size := by (try simp at hsz); omega))
  refine ⟨Marks.nil _ _, fun W' hS => ⟨.int .i64 2, ?_, by rw [HE.out], Bw.shut (W := w'.setCell ⟨w.heap.size + 1 + 1, 0, none⟩ (.int .i64 2)) (by repeat (first | exact Bw.refl _ | assumption | refine Bw.alloc ?_ _ | refine Bw.drew ?_ | refine Bw.trans ?_ (by assumption) | refine Bw.setCell ?_ (by simp; try omega) _)) hS⟩⟩
  have k4 := hS.cell (w.heap.size + 1 + 1) 0 (.int .i64 2) (cell_set_same _ _ _ _ (x := .int .i64 0) (by rw [hcc _ _ (by simp)]; simp [go_sem]))
  simp [results, Try.results33, go_sem, k4]
theorem there_short (zs : List Int) (v : Value) (a n : Int) (g : Bool) (u c : Int) (w : World) (hv : RdI w v zs) (h : fk a n u c) (hl : (zs.length : Int) < a + n) : Calls Try.prog 33 #[v, .agg #[.int .i64 a, .int .i64 n, .bool g, .int .i64 u, .int .i64 c]] w fun e w' => e = .returned (.int .i64 (errT zs a n u c)) ∧ Bw w w' := by
  have HE := Lib.hid (show errT zs a n u c = 16 by unfold errT; rw [errF_ok h, if_pos rfl, if_pos hl])
  have HC := Lib.hid (fun w => Check_any a n g u c w)
  rw [errF_ok h] at HC
  obtain ⟨h2, ad, cap, rfl, h4⟩ := hv
  clear h4
  obtain ⟨h1, h2, h3, h4, h5, h6, h7, h8, h9⟩ := h
  (refine calls_of_marks (w.heap.size) Try.func33 rfl ?_; simp only [Try.ntmps33, List.size_toArray, List.length_cons, List.length_nil, Nat.reduceAdd, Nat.reduceSub, Array.replicate_succ, Array.replicate_zero, List.push_toArray, List.append_toArray, List.nil_append, List.cons_append])
  go_wp2_with (go_at_call 16; refine (HC.out _).mono ?_; rintro e w' ⟨rfl, hb⟩; obtain ⟨hcc, hff⟩ := Bw.cells hb; have hsz := Bw.size hb; try (have hz0 : w.heap.size < w'.heap.size := by (try simp at hsz); omega); try (have hz1 : w.heap.size + 1 < w'.heap.size := by (try simp at hsz); omega); try (have hz2 : w.heap.size + 1 + 1 < w'.heap.size := by (try simp at hsz); omega); try (have hz3 : w.heap.size + 1 + 1 + 1 < w'.heap.size := by (try simp at hsz); omega); try (have hz4 : w.heap.size + 1 + 1 + 1 + 1 < w'.heap.size := by (try simp at hsz); omega); try (have hzr : wr.heap.size < w'.heap.size := by (try simp at hsz); omega); try (have hzr1 : wr.heap.size + 1 < w'.heap.size := by (try simp at hsz); omega))
  refine ⟨Marks.nil _ _, fun W' hS => ⟨.int .i64 16, ?_, by rw [HE.out], Bw.shut (W := w'.setCell ⟨w.heap.size + 1 + 1, 0, none⟩ (.int .i64 16)) (by repeat (first | exact Bw.refl _ | assumption | refine Bw.alloc ?_ _ | refine Bw.drew ?_ | refine Bw.trans ?_ (by assumption) | refine Bw.setCell ?_ (by simp; try omega) _)) hS⟩⟩
  have k4 := hS.cell (w.heap.size + 1 + 1) 0 (.int .i64 16) (cell_set_same _ _ _ _ (x := .int .i64 0) (by rw [hcc _ _ (by simp)]; simp [go_sem]))
  simp [results, Try.results33, go_sem, k4]
theorem there_ok (zs : List Int) (v : Value) (A N : Nat) (g : Bool) (u c : Int) (w : World) (hv : RdI w v zs) (h : fk A N u c) (hl : A + N ≤ zs.length) : Calls Try.prog 33 #[v, .agg #[.int .i64 A, .int .i64 N, .bool g, .int .i64 u, .int .i64 c]] w fun e w' => e = .returned (.int .i64 (errT zs A N u c)) ∧ Bw w w' := by
  have HE := Lib.hid (show errT zs A N u c = if oksP zs A N then 0 else 3 by unfold errT; rw [errF_ok h, if_pos rfl, if_neg (by omega)]; simp)
  have HC := Lib.hid (fun w => Check_any A N g u c w)
  have HP := Lib.hid (fun w => places_any A N g u c w)
  rw [errF_ok h] at HC
  obtain ⟨h2, ad, cap, rfl, h4⟩ := hv
  obtain ⟨h1, h2, h3, h4', h5, h6, h7, h8, h9⟩ := h
  obtain ⟨b, off, rfl, hb, hz⟩ := h4.resolve_left (by intro e; subst e; simp at hl; omega)
  have HZ := Lib.hid hz; clear hz h4
  (refine calls_of_marks (w.heap.size) Try.func33 rfl ?_; simp only [Try.ntmps33, List.size_toArray, List.length_cons, List.length_nil, Nat.reduceAdd, Nat.reduceSub, Array.replicate_succ, Array.replicate_zero, List.push_toArray, List.append_toArray, List.nil_append, List.cons_append])
  go_wp2_with (first | (go_at_call 16; refine (HC.out _).mono ?_; rintro e w' ⟨rfl, hb⟩; obtain ⟨hcc, hff⟩ := Bw.cells hb; have hsz := Bw.size hb; try (have hz0 : w.heap.size < w'.heap.size := by (try simp at hsz); omega); try (have hz1 : w.heap.size + 1 < w'.heap.size := by (try simp at hsz); omega); try (have hz2 : w.heap.size + 1 + 1 < w'.heap.size := by (try simp at hsz); omega); try (have hz3 : w.heap.size + 1 + 1 + 1 < w'.heap.size := by (try simp at hsz); omega); try (have hz4 : w.heap.size + 1 + 1 + 1 + 1 < w'.heap.size := by (try simp at hsz); omega); try (have hzr : wr.heap.size < w'.heap.size := by (try simp at hsz); omega); try (have hzr1 : wr.heap.size + 1 < w'.heap.size := by (try simp at hsz); omega)) | (go_at_call 40; refine (HP.out _).mono ?_; rintro e w9 ⟨rfl, rfl⟩))
  have k2 : (w'.alloc (Obj.cells #[.int .i64 A, .int .i64 N, .bool g, .int .i64 u, .int .i64 c] 24)).cell? ⟨w.heap.size, 0, none⟩ = some (.slice (some ⟨b, off, none⟩) zs.length cap) := by simp [*, go_sem]
  have k4 : (w'.alloc (Obj.cells #[.int .i64 A, .int .i64 N, .bool g, .int .i64 u, .int .i64 c] 24)).cell? ⟨w.heap.size + 1 + 1, 0, none⟩ = some (.int .i64 0) := by simp [*, go_sem]
  have kf : (w'.alloc (Obj.cells #[.int .i64 A, .int .i64 N, .bool g, .int .i64 u, .int .i64 c] 24)).frozen? ⟨w.heap.size + 1 + 1, 0, none⟩ = false := by simp [*, go_sem]
  have c0 : (w'.alloc (Obj.cells #[.int .i64 A, .int .i64 N, .bool g, .int .i64 u, .int .i64 c] 24)).cell? ⟨w'.heap.size, 0, none⟩ = some (.int .i64 A) := by simp [go_sem]
  have c1 : (w'.alloc (Obj.cells #[.int .i64 A, .int .i64 N, .bool g, .int .i64 u, .int .i64 c] 24)).cell? ⟨w'.heap.size, 1, none⟩ = some (.int .i64 N) := by simp [go_sem]
  have hsB : w'.heap.size < (w'.alloc (Obj.cells #[.int .i64 A, .int .i64 N, .bool g, .int .i64 u, .int .i64 c] 24)).heap.size := by simp
  have hbw : Bw w (w'.alloc (Obj.cells #[.int .i64 A, .int .i64 N, .bool g, .int .i64 u, .int .i64 c] 24)) := (by repeat (first | exact Bw.refl _ | assumption | refine Bw.alloc ?_ _ | refine Bw.drew ?_ | refine Bw.trans ?_ (by assumption) | refine Bw.setCell ?_ (by simp; try omega) _))
  generalize (w'.alloc (Obj.cells #[.int .i64 A, .int .i64 N, .bool g, .int .i64 u, .int .i64 c] 24)) = W0 at k2 k4 kf c0 c1 hsB hbw ⊢
  clear hcc hff hb
  refine range_places A N h1 h2 (by omega) (by omega) w'.heap.size hsB c0 c1 rfl rfl
    (fun pre W => (∀ y ∈ pre, zs.getD (A + y) 0 = 0 ∨ zs.getD (A + y) 0 = 1) ∧ (W.cell? ⟨w.heap.size, 0, none⟩ = some (.slice (some ⟨b, off, none⟩) zs.length cap) ∧ W.cell? ⟨w.heap.size + 1 + 1, 0, none⟩ = some (.int .i64 0) ∧ W.frozen? ⟨w.heap.size + 1 + 1, 0, none⟩ = false) ∧ Bw w W)
    (fun c _ W => c = .ret ∧ oksP zs A N = false ∧ W.cell? ⟨w.heap.size + 1 + 1, 0, none⟩ = some (.int .i64 3) ∧ Bw w W)
    (fun s X Y row hs hg hr => ⟨hs.1, ⟨cellK hs.2.1.1 hg hr, cellK hs.2.1.2.1 hg hr, frozenK hs.2.1.2.1 hs.2.1.2.2 hg hr⟩, bwK hs.2.2 hbw.size hg hr⟩)
    (fun c s X Y row hs hg hr => ⟨hs.1, hs.2.1, cellK hs.2.2.1 hg hr, bwK hs.2.2.2 hbw.size hg hr⟩)
    ⟨by simp, ⟨k2, k4, kf⟩, hbw⟩
    (fun y => [(22, .int .i64 (A + y)), (23, .int .i64 (N - 1 - y)), (6, .int .i64 (A + y))]) ?assign ?body ?done ?stop
  case assign =>
    intro l y W K hK
    gi_wp2
    exact hK
  case body =>
    rintro l pre y W hy _ ⟨hp, ⟨kb, kr, kfr⟩, hbW⟩
    simp only [List.foldl, List.setIfInBounds_toArray, List.set_cons_succ, List.set_cons_zero]
    have hcz := HZ.out (A + y) (by omega)
    rw [← hbW.cells.1 _ _ hb] at hcz
    have hpz : (zs.getD (A + y) 0 = 0 ∨ zs.getD (A + y) 0 = 1) → ∀ x ∈ pre ++ [y], zs.getD (A + x) 0 = 0 ∨ zs.getD (A + x) 0 = 1 := fun h x hx => (List.mem_append.1 hx).elim (hp x) (fun e => by simp at e; subst e; exact h)
    have hnz := oksP_not zs A N y hy
    have HP2 := Lib.hid hp; clear hp
    generalize zs.getD (A + y) 0 = z at hcz hpz hnz
    have HPZ := Lib.hid hpz; clear hpz
    have HNZ := Lib.hid hnz; clear hnz
    have hyi : (A : Int) + y < zs.length := by omega
    have hyt : ((A : Int) + y).toNat = A + y := by omega
    by_cases z0 : z = 0
    · subst z0
      gi_wp2
      exact ⟨KeepsFrom.refl _ _, fun _ => rfl, HPZ.out (by simp), ⟨kb, kr, kfr⟩, hbW⟩
    · by_cases z1 : z = 1
      · subst z1
        gi_wp2
        exact ⟨KeepsFrom.refl _ _, fun _ => rfl, HPZ.out (by simp), ⟨kb, kr, kfr⟩, hbW⟩
      · have y0 : (z != 0) = true := by simpa using z0
        have y1 : (z != 1) = true := by simpa using z1
        gi_wp2
        exact ⟨(KeepsOthers.setCell _ _ _).from _, rfl, HNZ.out z0 z1, cell_set_same _ _ _ _ kr, Bw.setCell hbW (by simp; omega) _⟩
  case done =>
    rintro D W hD ⟨hp, ⟨kb, kr, kfr⟩, hbW⟩ hK
    have HO := Lib.hid ((oksP_iff zs A N).2 (fun i hi => hp i (List.mem_range.2 hi))); clear hp
    go_wp2
    have hK' := (KeepsOthers.setCell W ⟨w.heap.size + 1 + 1, 0, none⟩ (.int .i64 0)).same D _ hK rfl
    refine ⟨Marks.one (by have := hbw.size; omega) hK', fun W' hS => ⟨.int .i64 0, ?_, by rw [HE.out, HO.out]; rfl, Bw.shut (W := W.setCell ⟨w.heap.size + 1 + 1, 0, none⟩ (.int .i64 0)) (Bw.setCell hbW (by simp; omega) _) hS⟩⟩
    have k4 := hS.cell (w.heap.size + 1 + 1) 0 (.int .i64 0) (cell_set_same _ _ _ _ kr)
    simp [results, Try.results33, go_sem, k4]
  case stop =>
    rintro D c k W hD _ ⟨rfl, ho, kr, hbW⟩ hK
    have HO := Lib.hid ho; clear ho
    go_wp2
    refine ⟨Marks.one (by have := hbw.size; omega) hK, fun W' hS => ⟨.int .i64 3, ?_, by rw [HE.out, HO.out]; rfl, Bw.shut hbW hS⟩⟩
    have k4 := hS.cell (w.heap.size + 1 + 1) 0 (.int .i64 3) kr
    simp [results, Try.results33, go_sem, k4]
theorem there_any (zs : List Int) (v : Value) (a n : Int) (g : Bool) (u c : Int) (w : World) (hv : RdI w v zs) : Calls Try.prog 33 #[v, .agg #[.int .i64 a, .int .i64 n, .bool g, .int .i64 u, .int .i64 c]] w fun e w' => e = .returned (.int .i64 (errT zs a n u c)) ∧ Bw w w' := by
  by_cases h : fk a n u c
  · by_cases hl : (zs.length : Int) < a + n
    · exact there_short zs v a n g u c w hv h hl
    · have h' := h
      obtain ⟨h1, _, h3, _⟩ := h'
      obtain ⟨A, rfl⟩ := Int.eq_ofNat_of_zero_le h1
      obtain ⟨N, rfl⟩ := Int.eq_ofNat_of_zero_le (show 0 ≤ n by omega)
      exact there_ok zs v A N g u c w hv h (by omega)
  · obtain ⟨ad, cap, rfl⟩ := hv.form
    exact there_bad zs ad zs.length cap a n g u c w h
end Go.Proofs.Sky
