/-
  lemmas for the theorems of this claim. No conditions beyond those written in the statements.
-/
import Derived.Test.YtcbkjfakedngbaaK25
import Derived.Test.YtcbkjfakedngbaaApp
set_option linter.unusedVariables false
set_option linter.unusedSimpArgs false
set_option linter.unnecessarySimpa false
namespace Go.Proofs.Sky
open Go Go.RowKit Go.Shelf
set_option maxHeartbeats 1000000
theorem infoInt : (Try.prog.info? 3).map (fun i => (i.zero, i.size, i.bytes)) = some (some (.int .i64 0), 1, 8) := by kernel_rfl
/-- a fresh own slice of ints that is not empty -/
theorem owI_of_own {w : World} {base : Nat} {e : TypeId} {v : Value} {zs : List Int} (h : w.ownsRow base e 1 v zs.length (zs.map (Value.int .i64))) (h0 : 0 < zs.length) : ∃ bl cap, v = .slice (some ⟨bl, 0, none⟩) zs.length cap ∧ base ≤ bl ∧ bl < w.heap.size ∧ OwI w bl zs := by
  obtain ⟨n, hn⟩ : ∃ n, zs.length = n + 1 := ⟨zs.length - 1, by omega⟩
  have hf : ∃ g cap, v = .slice (some ⟨g, 0, none⟩) zs.length cap := by rw [hn] at h ⊢; exact ownsRow_succ h
  obtain ⟨g, cap, rfl⟩ := hf
  have hl := h.lt g rfl
  refine ⟨g, cap, rfl, hl.1, hl.2, fun i hi => ?_, fun i hi => h.frozenAt i⟩
  rw [h.cellAt i (by omega)]
  simp [List.getD_eq_getElem?_getD, List.getElem?_eq_getElem hi]
theorem rdI_of_owI {w : World} {bl cap : Nat} {zs : List Int} (h : OwI w bl zs) (hb : bl < w.heap.size) (hn : zs.length ≤ 9223372036854775807) : RdI w (.slice (some ⟨bl, 0, none⟩) zs.length cap) zs :=
  ⟨hn, _, _, rfl, .inr ⟨bl, 0, rfl, hb, fun i hi => by rw [Nat.zero_add]; exact h.cell i hi⟩⟩
def errP (zs : List Int) (a n : Int) (g : Bool) (u c x : Int) : Int := if errT zs a n u c = 0 then (if rawB n g u c x then 0 else 5) else errT zs a n u c
def putR (zs : List Int) (a n : Int) (g : Bool) (u c x : Int) : List Int := if errP zs a n g u c x = 0 then putL zs a.toNat n.toNat (rawV u c x) n.toNat else []
def PutP (base : Nat) (zs : List Int) (a n : Int) (g : Bool) (u c x : Int) (e : Ending) (w' : World) : Prop := ∃ v', e = .returned (.tuple #[v', .int .i64 (errP zs a n g u c x)]) ∧ RdI w' v' (putR zs a n g u c x) ∧ Fresh base v'
theorem rawB_bd {n : Int} {g : Bool} {u c x : Int} (h : rawB n g u c x = true) (h1 : 1 ≤ n) (h2 : n ≤ 40) : -1099511627776 ≤ rawV u c x ∧ rawV u c x ≤ 1099511627776 := by
  unfold rawB at h
  simp only [Bool.and_eq_true, decide_eq_true_eq] at h
  have := lowR_bd n g h1 h2
  have := highR_bd n g h1 h2
  rw [rawV_in h.1]; omega
theorem ret_vi {v : Value} {a b : Int} (h : a = b) : Ending.returned (.tuple #[v, .int .i64 a]) = .returned (.tuple #[v, .int .i64 b]) := by rw [h]
theorem Put_any (zs : List Int) (v : Value) (a n : Int) (g : Bool) (u c x : Int) (w : World) (hv : RdI w v zs) (hn : zs.length ≤ 1048576) : Calls Try.prog 12 #[v, .agg #[.int .i64 a, .int .i64 n, .bool g, .int .i64 u, .int .i64 c], .int .i64 x] w fun e w' => PutP w.heap.size zs a n g u c x e w' ∧ Bw w w' := by
  have HT := Lib.hid (fun W hW => there_any zs v a n g u c W hW)
  have HV := Lib.hid hv
  by_cases he : errT zs a n u c = 0
  · rw [he] at HT
    obtain ⟨hf, hl, ho⟩ := errT_zero he
    have HR := Lib.hid (fun w => raw_any a n g u c x w hf)
    unfold RawP at HR
    cases hb : rawB n g u c x with
    | true =>
      have hE : errP zs a n g u c x = 0 := by unfold errP; rw [if_pos he, hb]; rfl
      have HE := Lib.hid (And.intro hE (show putR zs a n g u c x = putL zs a.toNat n.toNat (rawV u c x) n.toNat by unfold putR; rw [if_pos hE]))
      rw [hb] at HR
      clear hE he hb ho
      obtain ⟨A, rfl⟩ := Int.eq_ofNat_of_zero_le hf.1
      obtain ⟨N, rfl⟩ := Int.eq_ofNat_of_zero_le (show 0 ≤ n by have := hf.2.2.1; omega)
      have hl' : A + N ≤ zs.length := by omega
      have hN : 0 < zs.length := by have := hf.2.2.1; omega
      obtain ⟨_, ad, cap, rfl, hz⟩ := hv
      obtain ⟨b, off, rfl, hb, hz⟩ := hz.resolve_left (by intro e; subst e; simp at hN)
      clear hz
      have HPU := Lib.hid (fun bl cap w hb ho => put_ok zs bl cap zs.length A N g u c (rawV u c x) w hf hl' rfl (by omega) hb ho)
      obtain ⟨i0, hi, hzz⟩ := Option.map_eq_some_iff.1 infoInt
      simp only [Prod.mk.injEq] at hzz
      obtain ⟨iz0, iz1, iz2⟩ := hzz
      go_enter Try.func12, Try.ntmps12
      go_wp2_with (first | (go_at_call 33; refine (HT.out _ (HV.out.mono (by repeat (first | exact Bw.refl _ | assumption | refine Bw.alloc ?_ _ | refine Bw.drew ?_ | refine Bw.trans ?_ (by assumption) | refine Bw.setCell ?_ (by simp; try omega) _)))).mono ?_; rintro e w' ⟨rfl, hb⟩; obtain ⟨hcc, hff⟩ := Bw.cells hb; have hsz := Bw.size hb; try (have hz0 : w.heap.size < w'.heap.size := by (try simp at hsz); omega); try (have hz1 : w.heap.size + 1 < w'.heap.size := by (try simp at hsz); omega); try (have hz2 : w.heap.size + 1 + 1 < w'.heap.size := by (try simp at hsz); omega); try (have hz3 : w.heap.size + 1 + 1 + 1 < w'.heap.size := by (try simp at hsz); omega); try (have hz4 : w.heap.size + 1 + 1 + 1 + 1 < w'.heap.size := by (try simp at hsz); omega); try (have hzr : wr.heap.size < w'.heap.size := by (try simp at hsz); omega); try (have hzr1 : wr.heap.size + 1 < w'.heap.size := by (try simp at hsz); omega)) | (go_at_call 34; refine (HR.out _).mono ?_; rintro e w' ⟨rfl, hb⟩; obtain ⟨hcc, hff⟩ := Bw.cells hb; have hsz := Bw.size hb; try (have hz0 : w.heap.size < w'.heap.size := by (try simp at hsz); omega); try (have hz1 : w.heap.size + 1 < w'.heap.size := by (try simp at hsz); omega); try (have hz2 : w.heap.size + 1 + 1 < w'.heap.size := by (try simp at hsz); omega); try (have hz3 : w.heap.size + 1 + 1 + 1 < w'.heap.size := by (try simp at hsz); omega); try (have hz4 : w.heap.size + 1 + 1 + 1 + 1 < w'.heap.size := by (try simp at hsz); omega); try (have hzr : wr.heap.size < w'.heap.size := by (try simp at hsz); omega); try (have hzr1 : wr.heap.size + 1 < w'.heap.size := by (try simp at hsz); omega)) | (at_builtin; refine wpList_append_own _ rfl _ _ 22 rfl w.heap.size 3 i0 (.int .i64 0) 1 8 Try.underlying22 hi iz0 iz1 iz2 rfl (by decide) _ _ _ rfl (World.ownsRow_nil _ _ _ _) ⟨b, off, none⟩ zs.length cap (zs.map (Value.int .i64)) rfl (by simp) ?c1 (int_one zs) ?c3 ?c4 ?c5 ?_))
      case c1 => exact (HV.out.mono (by repeat (first | exact Bw.refl _ | assumption | refine Bw.alloc ?_ _ | refine Bw.drew ?_ | refine Bw.trans ?_ (by assumption) | refine Bw.setCell ?_ (by simp; try omega) _))).cells
      case c3 => unfold maxLen; omega
      case c4 => omega
      case c5 => omega
      have hbw : Bw w w' := (by repeat (first | exact Bw.refl _ | assumption | refine Bw.alloc ?_ _ | refine Bw.drew ?_ | refine Bw.trans ?_ (by assumption) | refine Bw.setCell ?_ (by simp; try omega) _))
      have kA : w'.cell? ⟨w.heap.size, 0, none⟩ = some (.int .i64 A) := by simp [*, go_sem]
      have kN : w'.cell? ⟨w.heap.size, 1, none⟩ = some (.int .i64 N) := by simp [*, go_sem]
      have kg : w'.cell? ⟨w.heap.size, 2, none⟩ = some (.bool g) := by simp [*, go_sem]
      have ku : w'.cell? ⟨w.heap.size, 3, none⟩ = some (.int .i64 u) := by simp [*, go_sem]
      have kc : w'.cell? ⟨w.heap.size, 4, none⟩ = some (.int .i64 c) := by simp [*, go_sem]
      intro v' w1 hown' hgrow _
      have hb1 : Bw w' w1 := Bw.grown (Bw.refl w') (World.ownsRow_nil w' w'.heap.size 3 1) hgrow
      obtain ⟨bl, cap', rfl, hbl1, hbl2, hO⟩ := owI_of_own hown' hN
      have hbA := hb1.cell' kA
      have hbN := hb1.cell' kN
      have hbg := hb1.cell' kg
      have hbu := hb1.cell' ku
      have hbc := hb1.cell' kc
      have HO := Lib.hid hO
      clear hcc hff kA kN kg ku kc hown' hgrow hi iz0 iz1 iz2 hO
      go_wp2_with (first | (go_at_call 35; refine (HPU.out _ _ _ hbl2 HO.out).mono ?_; rintro e w2 ⟨rfl, hO2, hG2⟩; have HO2 := Lib.hid hO2; clear hO2))
      go_ret2
      have hb2 := hG2.to_bw (Bw.trans hbw hb1) hbl1
      refine ⟨⟨_, by rw [HE.out.1]; exact ret_vi rfl, ?_, Fresh.at hbl1⟩, hb2⟩
      rw [HE.out.2]
      have hr := rdI_of_owI (cap := cap') HO2.out (Nat.lt_of_lt_of_le hbl2 hG2.size) (by rw [putL_length]; omega)
      rw [putL_length] at hr
      exact hr
    | false =>
      have hE : errP zs a n g u c x = 5 := by unfold errP; rw [if_pos he, hb]; rfl
      have HE := Lib.hid (And.intro hE (show putR zs a n g u c x = [] by unfold putR; rw [if_neg (by rw [hE]; decide)]))
      rw [hb] at HR
      clear hE he hb ho hf
      obtain ⟨ad, cap, rfl⟩ := hv.form
      clear hv
      go_enter Try.func12, Try.ntmps12
      go_wp2_with (first | (go_at_call 33; refine (HT.out _ (HV.out.mono (by repeat (first | exact Bw.refl _ | assumption | refine Bw.alloc ?_ _ | refine Bw.drew ?_ | refine Bw.trans ?_ (by assumption) | refine Bw.setCell ?_ (by simp; try omega) _)))).mono ?_; rintro e w' ⟨rfl, hb⟩; obtain ⟨hcc, hff⟩ := Bw.cells hb; have hsz := Bw.size hb; try (have hz0 : w.heap.size < w'.heap.size := by (try simp at hsz); omega); try (have hz1 : w.heap.size + 1 < w'.heap.size := by (try simp at hsz); omega); try (have hz2 : w.heap.size + 1 + 1 < w'.heap.size := by (try simp at hsz); omega); try (have hz3 : w.heap.size + 1 + 1 + 1 < w'.heap.size := by (try simp at hsz); omega); try (have hz4 : w.heap.size + 1 + 1 + 1 + 1 < w'.heap.size := by (try simp at hsz); omega); try (have hzr : wr.heap.size < w'.heap.size := by (try simp at hsz); omega); try (have hzr1 : wr.heap.size + 1 < w'.heap.size := by (try simp at hsz); omega)) | (go_at_call 34; refine (HR.out _).mono ?_; rintro e w' ⟨rfl, hb⟩; obtain ⟨hcc, hff⟩ := Bw.cells hb; have hsz := Bw.size hb; try (have hz0 : w.heap.size < w'.heap.size := by (try simp at hsz); omega); try (have hz1 : w.heap.size + 1 < w'.heap.size := by (try simp at hsz); omega); try (have hz2 : w.heap.size + 1 + 1 < w'.heap.size := by (try simp at hsz); omega); try (have hz3 : w.heap.size + 1 + 1 + 1 < w'.heap.size := by (try simp at hsz); omega); try (have hz4 : w.heap.size + 1 + 1 + 1 + 1 < w'.heap.size := by (try simp at hsz); omega); try (have hzr : wr.heap.size < w'.heap.size := by (try simp at hsz); omega); try (have hzr1 : wr.heap.size + 1 < w'.heap.size := by (try simp at hsz); omega)))
      go_ret2
      exact ⟨⟨_, by rw [HE.out.1]; exact ret_vi rfl, by rw [HE.out.2]; exact RdI.nil _, Fresh.nil _ _ _⟩, (by repeat (first | exact Bw.refl _ | assumption | refine Bw.alloc ?_ _ | refine Bw.drew ?_ | refine Bw.trans ?_ (by assumption) | refine Bw.setCell ?_ (by simp; try omega) _))⟩
  · have hE : errP zs a n g u c x = errT zs a n u c := by unfold errP; rw [if_neg he]
    have HE := Lib.hid (And.intro hE (show putR zs a n g u c x = [] by unfold putR; rw [if_neg (by rw [hE]; exact he)]))
    have hne : (errT zs a n u c != 0) = true := by simpa using he
    clear hE he
    obtain ⟨ad, cap, rfl⟩ := hv.form
    clear hv
    go_enter Try.func12, Try.ntmps12
    go_wp2_with (first | (go_at_call 33; refine (HT.out _ (HV.out.mono (by repeat (first | exact Bw.refl _ | assumption | refine Bw.alloc ?_ _ | refine Bw.drew ?_ | refine Bw.trans ?_ (by assumption) | refine Bw.setCell ?_ (by simp; try omega) _)))).mono ?_; rintro e w' ⟨rfl, hb⟩; obtain ⟨hcc, hff⟩ := Bw.cells hb; have hsz := Bw.size hb; try (have hz0 : w.heap.size < w'.heap.size := by (try simp at hsz); omega); try (have hz1 : w.heap.size + 1 < w'.heap.size := by (try simp at hsz); omega); try (have hz2 : w.heap.size + 1 + 1 < w'.heap.size := by (try simp at hsz); omega); try (have hz3 : w.heap.size + 1 + 1 + 1 < w'.heap.size := by (try simp at hsz); omega); try (have hz4 : w.heap.size + 1 + 1 + 1 + 1 < w'.heap.size := by (try simp at hsz); omega); try (have hzr : wr.heap.size < w'.heap.size := by (try simp at hsz); omega); try (have hzr1 : wr.heap.size + 1 < w'.heap.size := by (try simp at hsz); omega)))
    go_ret2
    exact ⟨⟨_, by rw [HE.out.1]; exact ret_vi rfl, by rw [HE.out.2]; exact RdI.nil _, Fresh.nil _ _ _⟩, (by repeat (first | exact Bw.refl _ | assumption | refine Bw.alloc ?_ _ | refine Bw.drew ?_ | refine Bw.trans ?_ (by assumption) | refine Bw.setCell ?_ (by simp; try omega) _))⟩
theorem RPut_any (zs : List Int) (v : Value) (a n : Int) (g : Bool) (u c x : Int) (w : World) (hv : RdI w v zs) (hn : zs.length ≤ 1048576) : Calls Try.prog 13 #[v, .agg #[.int .i64 a, .int .i64 n, .bool g, .int .i64 u, .int .i64 c], .int .i64 x] w fun e w' => PutP w.heap.size zs a n g u c x e w' ∧ Bw w w' := by
  have HT := Lib.hid (fun W hW => place_any zs v a n g u c W hW)
  have HV := Lib.hid hv
  by_cases he : errT zs a n u c = 0
  · rw [he] at HT
    obtain ⟨hf, hl, ho⟩ := errT_zero he
    have HR := Lib.hid (fun w => rraw_any a n g u c x w hf)
    unfold RawP at HR
    cases hb : rawB n g u c x with
    | true =>
      have hE : errP zs a n g u c x = 0 := by unfold errP; rw [if_pos he, hb]; rfl
      have HE := Lib.hid (And.intro hE (show putR zs a n g u c x = putL zs a.toNat n.toNat (rawV u c x) n.toNat by unfold putR; rw [if_pos hE]))
      rw [hb] at HR
      obtain ⟨hx1, hx2⟩ := rawB_bd hb hf.2.2.1 hf.2.2.2.1
      clear hE he hb ho
      obtain ⟨A, rfl⟩ := Int.eq_ofNat_of_zero_le hf.1
      obtain ⟨N, rfl⟩ := Int.eq_ofNat_of_zero_le (show 0 ≤ n by have := hf.2.2.1; omega)
      have hl' : A + N ≤ zs.length := by omega
      have hN : 0 < zs.length := by have := hf.2.2.1; omega
      obtain ⟨_, ad, cap, rfl, hz⟩ := hv
      obtain ⟨b, off, rfl, hb, hz⟩ := hz.resolve_left (by intro e; subst e; simp at hN)
      clear hz
      have HPU := Lib.hid (fun bl cap w hb ho => write_ok zs bl cap zs.length A N g u c (rawV u c x) w hf hl' rfl (by omega) hb ho hx1 hx2)
      obtain ⟨i0, hi, hzz⟩ := Option.map_eq_some_iff.1 infoInt
      simp only [Prod.mk.injEq] at hzz
      obtain ⟨iz0, iz1, iz2⟩ := hzz
      go_enter Try.func13, Try.ntmps13
      go_wp2_with (first | (go_at_call 36; refine (HT.out _ (HV.out.mono (by repeat (first | exact Bw.refl _ | assumption | refine Bw.alloc ?_ _ | refine Bw.drew ?_ | refine Bw.trans ?_ (by assumption) | refine Bw.setCell ?_ (by simp; try omega) _)))).mono ?_; rintro e w' ⟨rfl, hb⟩; obtain ⟨hcc, hff⟩ := Bw.cells hb; have hsz := Bw.size hb; try (have hz0 : w.heap.size < w'.heap.size := by (try simp at hsz); omega); try (have hz1 : w.heap.size + 1 < w'.heap.size := by (try simp at hsz); omega); try (have hz2 : w.heap.size + 1 + 1 < w'.heap.size := by (try simp at hsz); omega); try (have hz3 : w.heap.size + 1 + 1 + 1 < w'.heap.size := by (try simp at hsz); omega); try (have hz4 : w.heap.size + 1 + 1 + 1 + 1 < w'.heap.size := by (try simp at hsz); omega); try (have hzr : wr.heap.size < w'.heap.size := by (try simp at hsz); omega); try (have hzr1 : wr.heap.size + 1 < w'.heap.size := by (try simp at hsz); omega)) | (go_at_call 37; refine (HR.out _).mono ?_; rintro e w' ⟨rfl, hb⟩; obtain ⟨hcc, hff⟩ := Bw.cells hb; have hsz := Bw.size hb; try (have hz0 : w.heap.size < w'.heap.size := by (try simp at hsz); omega); try (have hz1 : w.heap.size + 1 < w'.heap.size := by (try simp at hsz); omega); try (have hz2 : w.heap.size + 1 + 1 < w'.heap.size := by (try simp at hsz); omega); try (have hz3 : w.heap.size + 1 + 1 + 1 < w'.heap.size := by (try simp at hsz); omega); try (have hz4 : w.heap.size + 1 + 1 + 1 + 1 < w'.heap.size := by (try simp at hsz); omega); try (have hzr : wr.heap.size < w'.heap.size := by (try simp at hsz); omega); try (have hzr1 : wr.heap.size + 1 < w'.heap.size := by (try simp at hsz); omega)) | (at_builtin; refine wpList_append_own _ rfl _ _ 22 rfl w'.heap.size 3 i0 (.int .i64 0) 1 8 Try.underlying22 hi iz0 iz1 iz2 rfl (by decide) _ _ _ rfl (World.ownsRow_lit w' #[] 0 (Nat.le_refl _) (by unfold maxLen; omega) (by simp)) ⟨b, off, none⟩ zs.length cap (zs.map (Value.int .i64)) rfl (by simp) ?c1 (int_one zs) ?c3 ?c4 ?c5 ?_))
      case c1 => exact (HV.out.mono (by repeat (first | exact Bw.refl _ | assumption | refine Bw.alloc ?_ _ | refine Bw.drew ?_ | refine Bw.trans ?_ (by assumption) | refine Bw.setCell ?_ (by simp; try omega) _))).cells
      case c3 => unfold maxLen; omega
      case c4 => omega
      case c5 => simp
      have hbw : Bw w w' := (by repeat (first | exact Bw.refl _ | assumption | refine Bw.alloc ?_ _ | refine Bw.drew ?_ | refine Bw.trans ?_ (by assumption) | refine Bw.setCell ?_ (by simp; try omega) _))
      have kA : w'.cell? ⟨w.heap.size, 0, none⟩ = some (.int .i64 A) := by simp [*, go_sem]
      have kN : w'.cell? ⟨w.heap.size, 1, none⟩ = some (.int .i64 N) := by simp [*, go_sem]
      have kg : w'.cell? ⟨w.heap.size, 2, none⟩ = some (.bool g) := by simp [*, go_sem]
      have ku : w'.cell? ⟨w.heap.size, 3, none⟩ = some (.int .i64 u) := by simp [*, go_sem]
      have kc : w'.cell? ⟨w.heap.size, 4, none⟩ = some (.int .i64 c) := by simp [*, go_sem]
      intro v' w1 hown' hgrow _
      have hb1 : Bw w' w1 := Bw.grown (Bw.alloc (Bw.refl w') _) (World.ownsRow_lit (e := 3) (size := 1) w' #[] 0 (Nat.le_refl _) (by unfold maxLen; omega) (by simp)) hgrow
      obtain ⟨bl, cap', rfl, hbl1, hbl2, hO⟩ := owI_of_own hown' hN
      have hbA := hb1.cell' kA
      have hbN := hb1.cell' kN
      have hbg := hb1.cell' kg
      have hbu := hb1.cell' ku
      have hbc := hb1.cell' kc
      have HO := Lib.hid hO
      clear hcc hff kA kN kg ku kc hown' hgrow hi iz0 iz1 iz2 hO
      go_wp2_with (first | (go_at_call 38; refine (HPU.out _ _ _ hbl2 HO.out).mono ?_; rintro e w2 ⟨rfl, hO2, hG2⟩; have HO2 := Lib.hid hO2; clear hO2))
      go_ret2
      have hbl1 : w.heap.size ≤ bl := by omega
      have hb2 := hG2.to_bw (Bw.trans hbw hb1) hbl1
      refine ⟨⟨_, by rw [HE.out.1]; exact ret_vi rfl, ?_, Fresh.at hbl1⟩, hb2⟩
      rw [HE.out.2]
      have hr := rdI_of_owI (cap := cap') HO2.out (Nat.lt_of_lt_of_le hbl2 hG2.size) (by rw [putL_length]; omega)
      rw [putL_length] at hr
      exact hr
    | false =>
      have hE : errP zs a n g u c x = 5 := by unfold errP; rw [if_pos he, hb]; rfl
      have HE := Lib.hid (And.intro hE (show putR zs a n g u c x = [] by unfold putR; rw [if_neg (by rw [hE]; decide)]))
      rw [hb] at HR
      clear hE he hb ho hf
      obtain ⟨ad, cap, rfl⟩ := hv.form
      clear hv
      go_enter Try.func13, Try.ntmps13
      go_wp2_with (first | (go_at_call 36; refine (HT.out _ (HV.out.mono (by repeat (first | exact Bw.refl _ | assumption | refine Bw.alloc ?_ _ | refine Bw.drew ?_ | refine Bw.trans ?_ (by assumption) | refine Bw.setCell ?_ (by simp; try omega) _)))).mono ?_; rintro e w' ⟨rfl, hb⟩; obtain ⟨hcc, hff⟩ := Bw.cells hb; have hsz := Bw.size hb; try (have hz0 : w.heap.size < w'.heap.size := by (try simp at hsz); omega); try (have hz1 : w.heap.size + 1 < w'.heap.size := by (try simp at hsz); omega); try (have hz2 : w.heap.size + 1 + 1 < w'.heap.size := by (try simp at hsz); omega); try (have hz3 : w.heap.size + 1 + 1 + 1 < w'.heap.size := by (try simp at hsz); omega); try (have hz4 : w.heap.size + 1 + 1 + 1 + 1 < w'.heap.size := by (try simp at hsz); omega); try (have hzr : wr.heap.size < w'.heap.size := by (try simp at hsz); omega); try (have hzr1 : wr.heap.size + 1 < w'.heap.size := by (try simp at hsz); omega)) | (go_at_call 37; refine (HR.out _).mono ?_; rintro e w' ⟨rfl, hb⟩; obtain ⟨hcc, hff⟩ := Bw.cells hb; have hsz := Bw.size hb; try (have hz0 : w.heap.size < w'.heap.size := by (try simp at hsz); omega); try (have hz1 : w.heap.size + 1 < w'.heap.size := by (try simp at hsz); omega); try (have hz2 : w.heap.size + 1 + 1 < w'.heap.size := by (try simp at hsz); omega); try (have hz3 : w.heap.size + 1 + 1 + 1 < w'.heap.size := by (try simp at hsz); omega); try (have hz4 : w.heap.size + 1 + 1 + 1 + 1 < w'.heap.size := by (try simp at hsz); omega); try (have hzr : wr.heap.size < w'.heap.size := by (try simp at hsz); omega); try (have hzr1 : wr.heap.size + 1 < w'.heap.size := by (try simp at hsz); omega)))
      go_ret2
      exact ⟨⟨_, by rw [HE.out.1]; exact ret_vi rfl, by rw [HE.out.2]; exact RdI.nil _, Fresh.nil _ _ _⟩, (by repeat (first | exact Bw.refl _ | assumption | refine Bw.alloc ?_ _ | refine Bw.drew ?_ | refine Bw.trans ?_ (by assumption) | refine Bw.setCell ?_ (by simp; try omega) _))⟩
  · have hE : errP zs a n g u c x = errT zs a n u c := by unfold errP; rw [if_neg he]
    have HE := Lib.hid (And.intro hE (show putR zs a n g u c x = [] by unfold putR; rw [if_neg (by rw [hE]; exact he)]))
    have hne : (errT zs a n u c != 0) = true := by simpa using he
    clear hE he
    obtain ⟨ad, cap, rfl⟩ := hv.form
    clear hv
    go_enter Try.func13, Try.ntmps13
    go_wp2_with (first | (go_at_call 36; refine (HT.out _ (HV.out.mono (by repeat (first | exact Bw.refl _ | assumption | refine Bw.alloc ?_ _ | refine Bw.drew ?_ | refine Bw.trans ?_ (by assumption) | refine Bw.setCell ?_ (by simp; try omega) _)))).mono ?_; rintro e w' ⟨rfl, hb⟩; obtain ⟨hcc, hff⟩ := Bw.cells hb; have hsz := Bw.size hb; try (have hz0 : w.heap.size < w'.heap.size := by (try simp at hsz); omega); try (have hz1 : w.heap.size + 1 < w'.heap.size := by (try simp at hsz); omega); try (have hz2 : w.heap.size + 1 + 1 < w'.heap.size := by (try simp at hsz); omega); try (have hz3 : w.heap.size + 1 + 1 + 1 < w'.heap.size := by (try simp at hsz); omega); try (have hz4 : w.heap.size + 1 + 1 + 1 + 1 < w'.heap.size := by (try simp at hsz); omega); try (have hzr : wr.heap.size < w'.heap.size := by (try simp at hsz); omega); try (have hzr1 : wr.heap.size + 1 < w'.heap.size := by (try simp at hsz); omega)))
    go_ret2
    exact ⟨⟨_, by rw [HE.out.1]; exact ret_vi rfl, by rw [HE.out.2]; exact RdI.nil _, Fresh.nil _ _ _⟩, (by repeat (first | exact Bw.refl _ | assumption | refine Bw.alloc ?_ _ | refine Bw.drew ?_ | refine Bw.trans ?_ (by assumption) | refine Bw.setCell ?_ (by simp; try omega) _))⟩
end Go.Proofs.Sky
