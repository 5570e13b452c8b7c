/-
  lemmas for the theorems of this claim. No conditions beyond those written in the statements.
-/
import Derived.Test.YtmilfedbggbpdaaP13
set_option linter.unusedVariables false
set_option linter.unusedSimpArgs false
set_option linter.unnecessarySimpa false
namespace Go.Proofs.Sky
open Go Go.RowKit
set_option maxHeartbeats 1000000
def scale (s : Int) (p : Int × Int) : Int × Int := (p.1 * 2 ^ s.toNat, p.2 * 2 ^ s.toNat)
def mix (s : Int) (ps : List (Int × Int)) (k : Nat) : List (Int × Int) := (ps.take k).map (scale s) ++ ps.drop k
theorem mix_len (s : Int) (ps : List (Int × Int)) (k : Nat) : (mix s ps k).length = ps.length := by simp [mix]; omega
theorem mix_at (s : Int) (ps : List (Int × Int)) (k : Nat) (hk : k < ps.length) : (mix s ps k).getD k (0, 0) = ps.getD k (0, 0) := by
  have h1 : ((ps.take k).map (scale s)).length = k := by simp; omega
  unfold mix
  rw [List.getD_eq_getElem?_getD, List.getElem?_append_right (by omega), h1, Nat.sub_self, List.getElem?_drop, Nat.add_zero, ← List.getD_eq_getElem?_getD]
theorem mix_set (s : Int) (ps : List (Int × Int)) (k : Nat) (hk : k < ps.length) (p : Int × Int) (hp : ps.getD k (0, 0) = p) : (mix s ps k).set k (scale s p) = mix s ps (k + 1) := by
  have h1 : ((ps.take k).map (scale s)).length = k := by simp; omega
  have hd : ps.drop k = p :: ps.drop (k + 1) := by
    rw [List.drop_eq_getElem_cons hk, ← hp, List.getD_eq_getElem?_getD, List.getElem?_eq_getElem hk]; rfl
  unfold mix
  rw [List.set_append_right _ _ (by omega), h1, Nat.sub_self, hd, List.set_cons_zero, take_snoc' ps k (0, 0) hk, hp]
  simp
theorem mul_bd (x q e : Int) (h1 : -q ≤ x) (h2 : x ≤ q) (hq : q ≤ 127) (h3 : 1 ≤ e) (h4 : e ≤ 1073741824) : -136365211648 ≤ x * e ∧ x * e ≤ 136365211648 := by
  have a1 : x * e ≤ 127 * e := Int.mul_le_mul_of_nonneg_right (by omega) (by omega)
  have a2 : -127 * e ≤ x * e := Int.mul_le_mul_of_nonneg_right (by omega) (by omega)
  omega
def errR (b s : Int) (ps : List (Int × Int)) : Int := if okG b s then errS (gq b) ps else 2
def rsL (b s : Int) (ps : List (Int × Int)) : List (Int × Int) := if errR b s ps = 0 then ps.map (scale s) else []
def RestS (base : Nat) (b s : Int) (ps : List (Int × Int)) (e : Ending) (w' : World) : Prop := ∃ v, e = .returned (.tuple #[v, .int .i64 (errR b s ps)]) ∧ RdS w' v (rsL b s ps) ∧ Fresh base v
theorem errR_bad {b s : Int} (ps : List (Int × Int)) (h : ¬ (2 ≤ b ∧ b ≤ 8 ∧ 0 ≤ s ∧ s ≤ 30)) : errR b s ps = 2 := by unfold errR; rw [okG_not b s h]; rfl
theorem errR_good {b s : Int} (ps : List (Int × Int)) (h : 2 ≤ b ∧ b ≤ 8 ∧ 0 ≤ s ∧ s ≤ 30) : errR b s ps = errS (gq b) ps := by unfold errR; rw [(okG_iff b s).2 h]; rfl
theorem r_err {b s : Int} {ps : List (Int × Int)} (h : errR b s ps ≠ 0) : rsL b s ps = [] := by unfold rsL; rw [if_neg h]
theorem r_ok {b s : Int} {ps : List (Int × Int)} (h : errR b s ps = 0) : rsL b s ps = ps.map (scale s) := by unfold rsL; rw [if_pos h]
theorem own_rdS' {w : World} {base : Nat} {e : TypeId} {v : Value} {ps : List (Int × Int)} {n : Nat} (h : w.ownsRow base e 2 v n (flat ps)) (hl : n = ps.length) (hn : ps.length ≤ 9223372036854775807) : RdS w v ps ∧ Fresh base v := by
  subst hl
  have hf : Fresh base v := fun b hb => (h.lt b hb).1
  rcases h.2 with ⟨rfl, h0⟩ | ⟨g, cap, cur, rfl, _⟩
  · have : ps = [] := List.length_eq_zero_iff.1 h0
    subst this
    exact ⟨RdS.nil w, hf⟩
  · exact ⟨own_rdS h hn, hf⟩
theorem own_form {w : World} {base : Nat} {e : TypeId} {k : Nat} {v : Value} {n : Nat} {xs : List Value} (h : w.ownsRow base e k v n xs) : ∃ a c, v = .slice a n c ∧ (0 < n → ∃ g, a = some ⟨g, 0, none⟩ ∧ base ≤ g ∧ g < w.heap.size) := by
  rcases h.2 with ⟨rfl, h0⟩ | ⟨g, cap, cur, rfl, _⟩
  · exact ⟨none, 0, by rw [h0], fun h => by omega⟩
  · exact ⟨_, _, rfl, fun _ => ⟨g, rfl, (h.lt g rfl).1, (h.lt g rfl).2⟩⟩
theorem Restore_any (b s : Int) (ps : List (Int × Int)) (v : Value) (w : World) (hv : RdS w v ps) :
    Calls Try.prog 19 #[v, .agg #[.int .i64 b, .int .i64 s]] w fun e w' => RestS w.heap.size b s ps e w' ∧ Bw w w' := by
  have HC := Lib.hid (fun w => check_any b s w)
  have HV := Lib.hid hv; clear hv
  by_cases hG : 2 ≤ b ∧ b ≤ 8 ∧ 0 ≤ s ∧ s ≤ 30
  · rw [errG_ok b s hG] at HC
    have ⟨q1, q2⟩ := gq_bd b hG.1 hG.2.1
    have HD := Lib.hid (fun w hv => check_s (gq b) (by omega) (by omega) ps v w hv)
    have hQ := errR_good ps hG
    by_cases he : errS (gq b) ps = 0
    · have h0 := hQ.trans he
      have HE := Lib.hid (show errR b s ps = 0 ∧ rsL b s ps = ps.map (scale s) from ⟨h0, r_ok h0⟩)
      rw [he] at HD
      obtain ⟨z1, z2⟩ := errS_zero he
      have HZ := Lib.hid z2
      obtain ⟨g1, g2, g3, g4⟩ := hG
      have ⟨p1, p2⟩ := pow30 s.toNat (by omega)
      clear he h0 hQ z2
      go_enter Try.func19, Try.ntmps19
      go_wp2_with (first | (go_at_call 14; refine (HC.out _).mono ?_; rintro e w' ⟨rfl, hb⟩; obtain ⟨hcc, hff⟩ := Bw.cells hb; have hsz := Bw.size hb; try (have hz0 : w.heap.size < w'.heap.size := by (try simp at hsz); omega); try (have hz1 : w.heap.size + 1 < w'.heap.size := by (try simp at hsz); omega); try (have hz2 : w.heap.size + 1 + 1 < w'.heap.size := by (try simp at hsz); omega); try (have hz3 : w.heap.size + 1 + 1 + 1 < w'.heap.size := by (try simp at hsz); omega); try (have hz4 : w.heap.size + 1 + 1 + 1 + 1 < w'.heap.size := by (try simp at hsz); omega); try (have hzr : wr.heap.size < w'.heap.size := by (try simp at hsz); omega); try (have hzr1 : wr.heap.size + 1 < w'.heap.size := by (try simp at hsz); omega)) | (go_at_call 38; refine (greatest_any b s g1 g2 _).mono ?_; rintro e w' ⟨rfl, hb⟩; obtain ⟨hcc, hff⟩ := Bw.cells hb; have hsz := Bw.size hb; try (have hz0 : w.heap.size < w'.heap.size := by (try simp at hsz); omega); try (have hz1 : w.heap.size + 1 < w'.heap.size := by (try simp at hsz); omega); try (have hz2 : w.heap.size + 1 + 1 < w'.heap.size := by (try simp at hsz); omega); try (have hz3 : w.heap.size + 1 + 1 + 1 < w'.heap.size := by (try simp at hsz); omega); try (have hz4 : w.heap.size + 1 + 1 + 1 + 1 < w'.heap.size := by (try simp at hsz); omega); try (have hzr : wr.heap.size < w'.heap.size := by (try simp at hsz); omega); try (have hzr1 : wr.heap.size + 1 < w'.heap.size := by (try simp at hsz); omega)) | (go_at_call 34; refine (HD.out _ (HV.out.mono (by repeat (first | exact Bw.refl _ | assumption | refine Bw.alloc ?_ _ | refine Bw.drew ?_ | refine Bw.trans ?_ (by assumption) | refine Bw.setCell ?_ (by simp; try omega) _)))).mono ?_; rintro e w' ⟨rfl, hb⟩; obtain ⟨hcc, hff⟩ := Bw.cells hb; have hsz := Bw.size hb; try (have hz0 : w.heap.size < w'.heap.size := by (try simp at hsz); omega); try (have hz1 : w.heap.size + 1 < w'.heap.size := by (try simp at hsz); omega); try (have hz2 : w.heap.size + 1 + 1 < w'.heap.size := by (try simp at hsz); omega); try (have hz3 : w.heap.size + 1 + 1 + 1 < w'.heap.size := by (try simp at hsz); omega); try (have hz4 : w.heap.size + 1 + 1 + 1 + 1 < w'.heap.size := by (try simp at hsz); omega); try (have hzr : wr.heap.size < w'.heap.size := by (try simp at hsz); omega); try (have hzr1 : wr.heap.size + 1 < w'.heap.size := by (try simp at hsz); omega)) | (go_at_call 39; refine (clone_any ps _ _ (HV.out.mono (by repeat (first | exact Bw.refl _ | assumption | refine Bw.alloc ?_ _ | refine Bw.drew ?_ | refine Bw.trans ?_ (by assumption) | refine Bw.setCell ?_ (by simp; try omega) _))) z1).mono ?_; rintro e w1 ⟨⟨v', rfl, ho⟩, hb⟩; obtain ⟨hcc, hff⟩ := Bw.cells hb; have hsz := Bw.size hb; obtain ⟨a1, cap1, rfl, hform⟩ := own_form ho; have HO := Lib.hid ho; clear ho; have HF := Lib.hid hform; clear hform))
      have k1 : w1.cell? ⟨w.heap.size, 1, none⟩ = some (.int .i64 s) := by simp [*, go_sem]
      have hz1' : w.heap.size < w1.heap.size := by omega
      have hbw : Bw w w1 := (by repeat (first | exact Bw.refl _ | assumption | refine Bw.alloc ?_ _ | refine Bw.drew ?_ | refine Bw.trans ?_ (by assumption) | refine Bw.setCell ?_ (by simp; try omega) _))
      have HB := Lib.hid hbw; clear hbw
      have hown : w1.ownsRow (w.heap.size + 1) 50 2 (.slice a1 ps.length cap1) ps.length (flat (mix s ps 0)) := by
        have := HO.out
        exact ⟨by simpa [mix] using this.1, by
          rcases this.2 with h | ⟨g, cap, cur, h1, h2, h3⟩
          · exact .inl h
          · exact .inr ⟨g, cap, cur, h1, by omega, by simpa [mix] using h3⟩⟩
      have HO2 := Lib.hid hown; clear hown HO
      obtain ⟨n, hn⟩ : ∃ n, n = ps.length := ⟨_, rfl⟩
      rw [← hn] at HO2 HF z1 ⊢
      have HN := Lib.hid hn; clear hn
      clear hcc hff HD HC
      go_loopg [9, 26] n (fun gg _ s26 wr => ∃ k : Nat, k ≤ n ∧ n - k ≤ gg ∧ s26 = .int .i64 k ∧ Hid (Bw w wr) ∧ w1.heap.size ≤ wr.heap.size ∧ Hid (wr.cell? ⟨w.heap.size, 1, none⟩ = some (.int .i64 s)) ∧ Hid (wr.ownsRow (w.heap.size + 1) 50 2 (.slice a1 n cap1) n (flat (mix s ps k))))
      case atStart => exact ⟨0, Nat.zero_le _, by omega, rfl, HB.out, Nat.le_refl _, k1, HO2.out⟩
      case round =>
        obtain ⟨k, hk, hg, rfl, hbw, hsr, hc1, hown⟩ := hrel
        by_cases hlt : k < n
        · have hltz : (k : Int) < (n : Int) := by omega
          have hq := HN.out
          obtain ⟨g, rfl, hg1, hg2⟩ := HF.out (by omega)
          have hgw : w.heap.size + 1 ≤ g := by omega
          have hgr : g < wr.heap.size := by omega
          have hwr : w.heap.size < wr.heap.size := by omega
          have fl := flat_at (mix s ps k) k (by rw [mix_len]; omega)
          rw [mix_at s ps k (by omega)] at fl
          have hm := HZ.out _ (getD_mem ps k (0, 0) (by omega))
          have HS := Lib.hid (mix_set s ps k (by omega) _ rfl)
          have ml := mix_len s ps k
          generalize hx : ps.getD k (0, 0) = x at fl hm HS
          have HX := Lib.hid (hx ▸ mix_at s ps k (by omega)); clear hx
          obtain ⟨x1, x2⟩ := x
          simp only [inP, inI, Bool.and_eq_true, decide_eq_true_eq] at hm
          obtain ⟨⟨i1, i2⟩, i3, i4⟩ := hm
          have ⟨m1, m2⟩ := mul_bd x1 (gq b) (2 ^ s.toNat) i1 i2 q2 p1 p2
          have ⟨m3, m4⟩ := mul_bd x2 (gq b) (2 ^ s.toNat) i3 i4 q2 p1 p2
          have s1 := hown.out.cellAt (k * 2) (by omega)
          have s2 := hown.out.cellAt (k * 2 + 1) (by omega)
          rw [fl.1] at s1
          rw [fl.2] at s2
          have y1 := hown.out.frozenAt (k * 2)
          have y2 := hown.out.frozenAt (k * 2 + 1)
          have HML := Lib.hid ml
          clear ml fl hq HF
          have e0 := fun p : Ext wr => Ext.cell hwr hc1.out p
          have e1 := fun p : Ext wr => Ext.cell hgr s1 p
          go_wp2
          (refine wp_region_ext_tail 11 (by kernel_rfl) (by kernel_rfl) ?_; simp only [List.take_succ_cons, List.take_zero, List.drop_succ_cons, List.drop_zero]; (repeat (go_big_quiet_step ((fail)))); refine wpQuiet_nil ?_; rintro wa ⟨⟨_, hbq⟩, rfl⟩; obtain ⟨hccq, hffq⟩ := Bw.cells hbq; have hszq := Bw.size hbq)
          clear e0 e1
          have hga : g < wa.heap.size := by omega
          have hwa : w.heap.size < wa.heap.size := by omega
          have f0 := fun p : Ext (wa.setCell ⟨g, k * 2, none⟩ (.int .i64 (x1 * 2 ^ s.toNat))) => Ext.cell (b := w.heap.size) (o := 1) (v := .int .i64 s) (by simpa using hwa) (by rw [cell_set_ne _ _ _ _ _ _ (by omega), hccq _ _ hwr]; exact hc1.out) p
          have f1 := fun p : Ext (wa.setCell ⟨g, k * 2, none⟩ (.int .i64 (x1 * 2 ^ s.toNat))) => Ext.cell (b := g) (o := k * 2 + 1) (v := .int .i64 x2) (by simpa using hga) (by rw [cell_set_off _ _ _ _ _ (by omega), hccq _ _ hgr]; exact s2) p
          have HQ := Lib.hid hbq
          go_wp2
          (refine wp_region_ext_tail 11 (by kernel_rfl) (by kernel_rfl) ?_; simp only [List.take_succ_cons, List.take_zero, List.drop_succ_cons, List.drop_zero]; (repeat (go_big_quiet_step ((fail)))); refine wpQuiet_nil ?_; rintro wb ⟨⟨_, hbq⟩, rfl⟩; obtain ⟨hccq, hffq⟩ := Bw.cells hbq; have hszq := Bw.size hbq)
          clear f0 f1
          have hgb : g < (wa.setCell ⟨g, k * 2, none⟩ (.int .i64 (x1 * 2 ^ s.toNat))).heap.size := by simpa using hga
          go_wp2
          go_roundg (n - (k + 1))
          case measure => omega
          case rel =>
            have bq := HQ.out
            have bw := hbw.out
            have o1 := ((own_bw hown.out bq).stored (k * 2) (.int .i64 (x1 * 2 ^ s.toNat))).1
            rw [flat_set1 _ _ (by have := HML.out; have := HN.out; omega), HX.out] at o1
            have o2 := ((own_bw o1 hbq).stored (k * 2 + 1) (.int .i64 (x2 * 2 ^ s.toNat))).1
            rw [flat_set2 _ _ (by rw [List.length_set]; have := HML.out; have := HN.out; omega), show ((mix s ps k).set k (x1 * 2 ^ s.toNat, x2)).getD k (0, 0) = (x1 * 2 ^ s.toNat, x2) by
              rw [List.getD_eq_getElem?_getD, List.getElem?_set_self (by have := HML.out; have := HN.out; omega)]; rfl, List.set_set] at o2
            have hs := HS.out
            rw [show scale s (x1, x2) = (x1 * 2 ^ s.toNat, x2 * 2 ^ s.toNat) from rfl] at hs
            rw [hs] at o2
            have hsb := hbq.size
            have hsa := bq.size
            simp only [World.size_setCell] at hsb
            refine ⟨k + 1, by omega, by omega, by go_num, (by repeat (first | exact Bw.refl _ | assumption | refine Bw.alloc ?_ _ | refine Bw.drew ?_ | refine Bw.trans ?_ (by assumption) | refine Bw.setCell ?_ (by simp; try omega) _)), by simp; omega, ?_, o2⟩
            show (wb.setCell _ _).cell? _ = _
            rw [cell_set_ne _ _ _ _ _ _ (by omega), hbq.cells.1 _ _ (by simp; omega), cell_set_ne _ _ _ _ _ _ (by omega), bq.cells.1 _ _ hwr]
            exact hc1.out
        · have hltz : ¬ (k : Int) < (n : Int) := by omega
          have : k = n := by omega
          subst this
          go_wp2
          go_ret2
          have hm : mix s ps k = ps.map (scale s) := by unfold mix; rw [List.take_of_length_le (by have := HN.out; omega), List.drop_eq_nil_of_le (by have := HN.out; omega), List.append_nil]
          have ho := hown.out
          rw [hm] at ho
          have h3 := own_rdS' ho (by rw [List.length_map]; exact HN.out) (by rw [List.length_map]; have := HN.out; omega)
          exact ⟨⟨_, by rw [HE.out.1]; rfl, by rw [HE.out.2]; exact h3.1, h3.2.mono (by omega)⟩, hbw.out⟩
    · have h0 : errR b s ps ≠ 0 := by rw [hQ]; exact he
      have HE := Lib.hid (show errR b s ps = errS (gq b) ps ∧ rsL b s ps = [] from ⟨hQ, r_err h0⟩)
      have hne : (errS (gq b) ps != 0) = true := by simpa using he
      obtain ⟨g1, g2, g3, g4⟩ := hG
      clear he h0 hQ
      go_enter Try.func19, Try.ntmps19
      go_wp2_with (first | (go_at_call 14; refine (HC.out _).mono ?_; rintro e w' ⟨rfl, hb⟩; obtain ⟨hcc, hff⟩ := Bw.cells hb; have hsz := Bw.size hb; try (have hz0 : w.heap.size < w'.heap.size := by (try simp at hsz); omega); try (have hz1 : w.heap.size + 1 < w'.heap.size := by (try simp at hsz); omega); try (have hz2 : w.heap.size + 1 + 1 < w'.heap.size := by (try simp at hsz); omega); try (have hz3 : w.heap.size + 1 + 1 + 1 < w'.heap.size := by (try simp at hsz); omega); try (have hz4 : w.heap.size + 1 + 1 + 1 + 1 < w'.heap.size := by (try simp at hsz); omega); try (have hzr : wr.heap.size < w'.heap.size := by (try simp at hsz); omega); try (have hzr1 : wr.heap.size + 1 < w'.heap.size := by (try simp at hsz); omega)) | (go_at_call 38; refine (greatest_any b s g1 g2 _).mono ?_; rintro e w' ⟨rfl, hb⟩; obtain ⟨hcc, hff⟩ := Bw.cells hb; have hsz := Bw.size hb; try (have hz0 : w.heap.size < w'.heap.size := by (try simp at hsz); omega); try (have hz1 : w.heap.size + 1 < w'.heap.size := by (try simp at hsz); omega); try (have hz2 : w.heap.size + 1 + 1 < w'.heap.size := by (try simp at hsz); omega); try (have hz3 : w.heap.size + 1 + 1 + 1 < w'.heap.size := by (try simp at hsz); omega); try (have hz4 : w.heap.size + 1 + 1 + 1 + 1 < w'.heap.size := by (try simp at hsz); omega); try (have hzr : wr.heap.size < w'.heap.size := by (try simp at hsz); omega); try (have hzr1 : wr.heap.size + 1 < w'.heap.size := by (try simp at hsz); omega)) | (go_at_call 34; refine (HD.out _ (HV.out.mono (by repeat (first | exact Bw.refl _ | assumption | refine Bw.alloc ?_ _ | refine Bw.drew ?_ | refine Bw.trans ?_ (by assumption) | refine Bw.setCell ?_ (by simp; try omega) _)))).mono ?_; rintro e w' ⟨rfl, hb⟩; obtain ⟨hcc, hff⟩ := Bw.cells hb; have hsz := Bw.size hb; try (have hz0 : w.heap.size < w'.heap.size := by (try simp at hsz); omega); try (have hz1 : w.heap.size + 1 < w'.heap.size := by (try simp at hsz); omega); try (have hz2 : w.heap.size + 1 + 1 < w'.heap.size := by (try simp at hsz); omega); try (have hz3 : w.heap.size + 1 + 1 + 1 < w'.heap.size := by (try simp at hsz); omega); try (have hz4 : w.heap.size + 1 + 1 + 1 + 1 < w'.heap.size := by (try simp at hsz); omega); try (have hzr : wr.heap.size < w'.heap.size := by (try simp at hsz); omega); try (have hzr1 : wr.heap.size + 1 < w'.heap.size := by (try simp at hsz); omega)))
      go_ret2
      exact ⟨⟨.slice none 0 0, by rw [HE.out.1]; rfl, by rw [HE.out.2]; exact RdS.nil _, Fresh.nil _ _ _⟩, (by repeat (first | exact Bw.refl _ | assumption | refine Bw.alloc ?_ _ | refine Bw.drew ?_ | refine Bw.trans ?_ (by assumption) | refine Bw.setCell ?_ (by simp; try omega) _))⟩
  · rw [errG_no b s hG] at HC
    have hQ := errR_bad ps hG
    have HE := Lib.hid (show errR b s ps = 2 ∧ rsL b s ps = [] from ⟨hQ, r_err (by rw [hQ]; decide)⟩)
    clear hQ hG
    go_enter Try.func19, Try.ntmps19
    go_wp2_with (go_at_call 14; refine (HC.out _).mono ?_; rintro e w' ⟨rfl, hb⟩; obtain ⟨hcc, hff⟩ := Bw.cells hb; have hsz := Bw.size hb; try (have hz0 : w.heap.size < w'.heap.size := by (try simp at hsz); omega); try (have hz1 : w.heap.size + 1 < w'.heap.size := by (try simp at hsz); omega); try (have hz2 : w.heap.size + 1 + 1 < w'.heap.size := by (try simp at hsz); omega); try (have hz3 : w.heap.size + 1 + 1 + 1 < w'.heap.size := by (try simp at hsz); omega); try (have hz4 : w.heap.size + 1 + 1 + 1 + 1 < w'.heap.size := by (try simp at hsz); omega); try (have hzr : wr.heap.size < w'.heap.size := by (try simp at hsz); omega); try (have hzr1 : wr.heap.size + 1 < w'.heap.size := by (try simp at hsz); omega))
    go_ret2
    exact ⟨⟨.slice none 0 0, by rw [HE.out.1]; rfl, by rw [HE.out.2]; exact RdS.nil _, Fresh.nil _ _ _⟩, (by repeat (first | exact Bw.refl _ | assumption | refine Bw.alloc ?_ _ | refine Bw.drew ?_ | refine Bw.trans ?_ (by assumption) | refine Bw.setCell ?_ (by simp; try omega) _))⟩
end Go.Proofs.Sky
