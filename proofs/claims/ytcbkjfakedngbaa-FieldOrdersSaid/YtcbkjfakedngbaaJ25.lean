/-
  lemmas for the theorems of this claim. No conditions beyond those written in the statements.
-/
import Derived.Test.YtcbkjfakedngbaaI25
set_option linter.unusedVariables false
set_option linter.unusedSimpArgs false
set_option linter.unnecessarySimpa false
namespace Go.Proofs.Sky
open Go Go.RowKit Go.Shelf
set_option maxHeartbeats 1000000
theorem mul_bd (m u : Int) (h1 : -1099511627776 ≤ m) (h2 : m ≤ 1099511627776) (h3 : 1 ≤ u) (h4 : u ≤ 1000000) : -1099511627776000000 ≤ m * u ∧ m * u ≤ 1099511627776000000 := by
  have a : m * u ≤ 1099511627776 * u := Int.mul_le_mul_of_nonneg_right h2 (by omega)
  have b : -1099511627776 * u ≤ m * u := Int.mul_le_mul_of_nonneg_right h1 (by omega)
  omega
theorem sx_bd (N : Nat) (m : Int) (h1 : 1 ≤ N) (h2 : N ≤ 40) (h3 : 0 ≤ m) (h4 : m < 2 ^ N) : -1099511627776 ≤ sx N m ∧ sx N m ≤ 1099511627776 := by
  have ⟨p1, p2⟩ := pow40 N h2
  have ⟨p3, p4⟩ := pow40 (N - 1) (by omega)
  unfold sx; split <;> omega
def sgnV (N : Nat) (g : Bool) (m : Int) : Int := if g then sx N m else m
theorem sgnV_bd (N : Nat) (g : Bool) (m : Int) (h1 : 1 ≤ N) (h2 : N ≤ 40) (h3 : 0 ≤ m) (h4 : m < 2 ^ N) : -1099511627776 ≤ sgnV N g m ∧ sgnV N g m ≤ 1099511627776 := by
  have ⟨p1, p2⟩ := pow40 N h2
  have := sx_bd N m h1 h2 h3 h4
  unfold sgnV; split <;> omega
def getV (zs : List Int) (A N : Nat) (g : Bool) (u c : Int) : Int := c + sgnV N g (getN zs A N) * u
theorem value_ok (zs : List Int) (v : Value) (A N : Nat) (g : Bool) (u c : Int) (w : World) (hv : RdI w v zs) (h : fk A N u c) (hl : A + N ≤ zs.length) (hbit : ∀ i, i < N → zs.getD (A + i) 0 = 0 ∨ zs.getD (A + i) 0 = 1) :
    Calls Try.prog 39 #[v, .agg #[.int .i64 A, .int .i64 N, .bool g, .int .i64 u, .int .i64 c]] w fun e w' => e = .returned (.int .i64 (getV zs A N g u c)) ∧ Bw w w' := by
  have HS := Lib.hid (fun W hW => get_i64 zs v A N g u c W hW h hl hbit)
  have HU := Lib.hid (fun W hW => get_u64 zs v A N g u c W hW h hl hbit)
  have HV := Lib.hid hv
  obtain ⟨ad, cap, rfl⟩ := hv.form
  clear hv
  obtain ⟨b1, b2⟩ := getN_bd zs A N hbit
  obtain ⟨h1, h2, h3, h4', h5, h6, h7, h8, h9⟩ := h
  have ⟨s1, s2⟩ := sgnV_bd N g _ (by omega) (by omega) b1 b2
  have ⟨m1, m2⟩ := mul_bd _ u s1 s2 h6 h7
  have HE := Lib.hid (show getV zs A N g u c = c + sgnV N g (getN zs A N) * u from rfl)
  have ⟨p1, p2⟩ := pow40 N (by omega)
  clear hbit
  have c1 := fun p : Ext _ => Ext.cell (w := w.alloc (Obj.cells #[.int .i64 A, .int .i64 N, .bool g, .int .i64 u, .int .i64 c] 24)) (b := w.heap.size) (o := 4) (v := .int .i64 c) (by simp) (by simp [go_sem]) p
  have c2 := fun p : Ext _ => Ext.cell (w := w.alloc (Obj.cells #[.int .i64 A, .int .i64 N, .bool g, .int .i64 u, .int .i64 c] 24)) (b := w.heap.size) (o := 3) (v := .int .i64 u) (by simp) (by simp [go_sem]) p
  have c3 := fun p : Ext _ => Ext.cell (w := w.alloc (Obj.cells #[.int .i64 A, .int .i64 N, .bool g, .int .i64 u, .int .i64 c] 24)) (b := w.heap.size) (o := 0) (v := .int .i64 A) (by simp) (by simp [go_sem]) p
  have c4 := fun p : Ext _ => Ext.cell (w := w.alloc (Obj.cells #[.int .i64 A, .int .i64 N, .bool g, .int .i64 u, .int .i64 c] 24)) (b := w.heap.size) (o := 1) (v := .int .i64 N) (by simp) (by simp [go_sem]) p
  have c5 := fun p : Ext _ => Ext.cell (w := w.alloc (Obj.cells #[.int .i64 A, .int .i64 N, .bool g, .int .i64 u, .int .i64 c] 24)) (b := w.heap.size) (o := 2) (v := .bool g) (by simp) (by simp [go_sem]) p
  cases g with
  | true =>
    have HSG := Lib.hid (show sgnV N true (getN zs A N) = sx N (getN zs A N) from rfl)
    rw [HSG.out] at HE s1 s2 m1 m2
    clear HU
    generalize sx N (getN zs A N) = sv at *
    go_enter Try.func39, Try.ntmps39
    go_wp2
    (refine wp_region_quiet_ext (by kernel_rfl) (by kernel_rfl) ?_; (repeat (go_big_quiet_step ((go_at_call 41; refine Calls.ext_of (HS.out _ (HV.out.mono (Bw.trans (by repeat (first | exact Bw.refl _ | assumption | refine Bw.alloc ?_ _ | refine Bw.drew ?_ | refine Bw.trans ?_ (by assumption) | refine Bw.setCell ?_ (by simp; try omega) _)) (Ext.b _)))))))); refine wpQuiet_nil ?_; rintro wq ⟨⟨_, hbq⟩, rfl⟩; obtain ⟨hccq, hffq⟩ := Bw.cells hbq; have hszq := Bw.size hbq)
    go_wp2
    go_ret
    exact ⟨ret_int (by rw [HE.out]), (by repeat (first | exact Bw.refl _ | assumption | refine Bw.alloc ?_ _ | refine Bw.drew ?_ | refine Bw.trans ?_ (by assumption) | refine Bw.setCell ?_ (by simp; try omega) _))⟩
  | false =>
    have HSG := Lib.hid (show sgnV N false (getN zs A N) = getN zs A N from rfl)
    rw [HSG.out] at HE s1 s2 m1 m2
    clear HS
    generalize getN zs A N = sv at *
    go_enter Try.func39, Try.ntmps39
    go_wp2
    (refine wp_region_quiet_ext (by kernel_rfl) (by kernel_rfl) ?_; (repeat (go_big_quiet_step ((go_at_call 42; refine Calls.ext_of (HU.out _ (HV.out.mono (Bw.trans (by repeat (first | exact Bw.refl _ | assumption | refine Bw.alloc ?_ _ | refine Bw.drew ?_ | refine Bw.trans ?_ (by assumption) | refine Bw.setCell ?_ (by simp; try omega) _)) (Ext.b _)))))))); refine wpQuiet_nil ?_; rintro wq ⟨⟨_, hbq⟩, rfl⟩; obtain ⟨hccq, hffq⟩ := Bw.cells hbq; have hszq := Bw.size hbq)
    go_wp2
    go_ret
    exact ⟨ret_int (by rw [HE.out]), (by repeat (first | exact Bw.refl _ | assumption | refine Bw.alloc ?_ _ | refine Bw.drew ?_ | refine Bw.trans ?_ (by assumption) | refine Bw.setCell ?_ (by simp; try omega) _))⟩
def limL (a n : Int) (g : Bool) (u c : Int) : Int := if errF a n u c = 0 then c + lowR n g * u else 0
def limH (a n : Int) (g : Bool) (u c : Int) : Int := if errF a n u c = 0 then c + highR n g * u else 0
def LimP (a n : Int) (g : Bool) (u c : Int) (e : Ending) : Prop := e = .returned (.tuple #[.int .i64 (limL a n g u c), .int .i64 (limH a n g u c), .int .i64 (errF a n u c)])
theorem limP_ok {a n u c : Int} {g : Bool} (h : fk a n u c) : LimP a n g u c = fun e => e = .returned (.tuple #[.int .i64 (c + lowR n g * u), .int .i64 (c + highR n g * u), .int .i64 0]) := by unfold LimP limL limH; rw [errF_ok h]; rfl
theorem limP_no {a n u c : Int} {g : Bool} (h : ¬ fk a n u c) : LimP a n g u c = fun e => e = .returned (.tuple #[.int .i64 0, .int .i64 0, .int .i64 2]) := by unfold LimP limL limH; rw [errF_no h]; rfl
theorem ret_iii {a b c a' b' c' : Int} (h1 : a = a') (h2 : b = b') (h3 : c = c') : Ending.returned (.tuple #[.int .i64 a, .int .i64 b, .int .i64 c]) = .returned (.tuple #[.int .i64 a', .int .i64 b', .int .i64 c']) := by rw [h1, h2, h3]
theorem Limits_any (a n : Int) (g : Bool) (u c : Int) (w : World) : Calls Try.prog 10 #[.agg #[.int .i64 a, .int .i64 n, .bool g, .int .i64 u, .int .i64 c]] w fun e w' => LimP a n g u c e ∧ Bw w w' := by
  have HC := Lib.hid (fun w => Check_any a n g u c w)
  by_cases h : fk a n u c
  · have HP := Lib.hid (limP_ok (g := g) h)
    rw [errF_ok h] at HC
    obtain ⟨h1, h2, h3, h4, h5, h6, h7, h8, h9⟩ := h
    have HR := Lib.hid (fun w => raws_any a n g u c h3 h4 w)
    have ⟨l1, l2⟩ := lowR_bd n g h3 h4
    have ⟨k1, k2⟩ := highR_bd n g h3 h4
    have ⟨l3, l4⟩ := mul_bd (lowR n g) u (by omega) (by omega) h6 h7
    have ⟨k3, k4⟩ := mul_bd (highR n g) u (by omega) (by omega) h6 h7
    generalize lowR n g = lo at *
    generalize highR n g = hi at *
    go_enter Try.func10, Try.ntmps10
    go_wp2_with (first | (go_at_call 16; refine (HC.out _).mono ?_; rintro e w' ⟨rfl, hb⟩; obtain ⟨hcc, hff⟩ := Bw.cells hb; have hsz := Bw.size hb; try (have hz0 : w.heap.size < w'.heap.size := by (try simp at hsz); omega); try (have hz1 : w.heap.size + 1 < w'.heap.size := by (try simp at hsz); omega); try (have hz2 : w.heap.size + 1 + 1 < w'.heap.size := by (try simp at hsz); omega); try (have hz3 : w.heap.size + 1 + 1 + 1 < w'.heap.size := by (try simp at hsz); omega); try (have hz4 : w.heap.size + 1 + 1 + 1 + 1 < w'.heap.size := by (try simp at hsz); omega); try (have hzr : wr.heap.size < w'.heap.size := by (try simp at hsz); omega); try (have hzr1 : wr.heap.size + 1 < w'.heap.size := by (try simp at hsz); omega)) | (go_at_call 31; refine (HR.out _).mono ?_; rintro e w' ⟨rfl, hb⟩; obtain ⟨hcc, hff⟩ := Bw.cells hb; have hsz := Bw.size hb; try (have hz0 : w.heap.size < w'.heap.size := by (try simp at hsz); omega); try (have hz1 : w.heap.size + 1 < w'.heap.size := by (try simp at hsz); omega); try (have hz2 : w.heap.size + 1 + 1 < w'.heap.size := by (try simp at hsz); omega); try (have hz3 : w.heap.size + 1 + 1 + 1 < w'.heap.size := by (try simp at hsz); omega); try (have hz4 : w.heap.size + 1 + 1 + 1 + 1 < w'.heap.size := by (try simp at hsz); omega); try (have hzr : wr.heap.size < w'.heap.size := by (try simp at hsz); omega); try (have hzr1 : wr.heap.size + 1 < w'.heap.size := by (try simp at hsz); omega)))
    have k0 : w'.cell? ⟨w.heap.size, 4, none⟩ = some (.int .i64 c) := by simp [*, go_sem]
    have k1 : w'.cell? ⟨w.heap.size, 3, none⟩ = some (.int .i64 u) := by simp [*, go_sem]
    have e0 := fun p : Ext w' => Ext.cell' k0 p
    have e1 := fun p : Ext w' => Ext.cell' k1 p
    (refine wp_region_quiet_ext (by kernel_rfl) (by kernel_rfl) ?_; (repeat (go_big_quiet_step ((fail)))); refine wpQuiet_nil ?_; rintro wq ⟨⟨_, hbq⟩, rfl⟩; obtain ⟨hccq, hffq⟩ := Bw.cells hbq; have hszq := Bw.size hbq)
    go_wp2
    go_ret3
    exact ⟨by rw [HP.out]; exact ret_iii rfl rfl rfl, (by repeat (first | exact Bw.refl _ | assumption | refine Bw.alloc ?_ _ | refine Bw.drew ?_ | refine Bw.trans ?_ (by assumption) | refine Bw.setCell ?_ (by simp; try omega) _))⟩
  · have HP := Lib.hid (limP_no (g := g) h)
    rw [errF_no h] at HC
    clear h
    go_enter Try.func10, Try.ntmps10
    go_wp2_with (go_at_call 16; refine (HC.out _).mono ?_; rintro e w' ⟨rfl, hb⟩; obtain ⟨hcc, hff⟩ := Bw.cells hb; have hsz := Bw.size hb; try (have hz0 : w.heap.size < w'.heap.size := by (try simp at hsz); omega); try (have hz1 : w.heap.size + 1 < w'.heap.size := by (try simp at hsz); omega); try (have hz2 : w.heap.size + 1 + 1 < w'.heap.size := by (try simp at hsz); omega); try (have hz3 : w.heap.size + 1 + 1 + 1 < w'.heap.size := by (try simp at hsz); omega); try (have hz4 : w.heap.size + 1 + 1 + 1 + 1 < w'.heap.size := by (try simp at hsz); omega); try (have hzr : wr.heap.size < w'.heap.size := by (try simp at hsz); omega); try (have hzr1 : wr.heap.size + 1 < w'.heap.size := by (try simp at hsz); omega))
    go_ret3
    exact ⟨by rw [HP.out]; exact ret_iii rfl rfl rfl, (by repeat (first | exact Bw.refl _ | assumption | refine Bw.alloc ?_ _ | refine Bw.drew ?_ | refine Bw.trans ?_ (by assumption) | refine Bw.setCell ?_ (by simp; try omega) _))⟩
theorem RLimits_any (a n : Int) (g : Bool) (u c : Int) (w : World) : Calls Try.prog 11 #[.agg #[.int .i64 a, .int .i64 n, .bool g, .int .i64 u, .int .i64 c]] w fun e w' => LimP a n g u c e ∧ Bw w w' := by
  have HC := Lib.hid (fun w => RCheck_any a n g u c w)
  by_cases h : fk a n u c
  · have HP := Lib.hid (limP_ok (g := g) h)
    rw [errF_ok h] at HC
    obtain ⟨h1, h2, h3, h4, h5, h6, h7, h8, h9⟩ := h
    have HR := Lib.hid (fun w => rraws_any a n g u c h3 h4 w)
    have ⟨l1, l2⟩ := lowR_bd n g h3 h4
    have ⟨k1, k2⟩ := highR_bd n g h3 h4
    have ⟨l3, l4⟩ := mul_bd (lowR n g) u (by omega) (by omega) h6 h7
    have ⟨k3, k4⟩ := mul_bd (highR n g) u (by omega) (by omega) h6 h7
    generalize lowR n g = lo at *
    generalize highR n g = hi at *
    go_enter Try.func11, Try.ntmps11
    go_wp2_with (first | (go_at_call 17; refine (HC.out _).mono ?_; rintro e w' ⟨rfl, hb⟩; obtain ⟨hcc, hff⟩ := Bw.cells hb; have hsz := Bw.size hb; try (have hz0 : w.heap.size < w'.heap.size := by (try simp at hsz); omega); try (have hz1 : w.heap.size + 1 < w'.heap.size := by (try simp at hsz); omega); try (have hz2 : w.heap.size + 1 + 1 < w'.heap.size := by (try simp at hsz); omega); try (have hz3 : w.heap.size + 1 + 1 + 1 < w'.heap.size := by (try simp at hsz); omega); try (have hz4 : w.heap.size + 1 + 1 + 1 + 1 < w'.heap.size := by (try simp at hsz); omega); try (have hzr : wr.heap.size < w'.heap.size := by (try simp at hsz); omega); try (have hzr1 : wr.heap.size + 1 < w'.heap.size := by (try simp at hsz); omega)) | (go_at_call 32; refine (HR.out _).mono ?_; rintro e w' ⟨rfl, hb⟩; obtain ⟨hcc, hff⟩ := Bw.cells hb; have hsz := Bw.size hb; try (have hz0 : w.heap.size < w'.heap.size := by (try simp at hsz); omega); try (have hz1 : w.heap.size + 1 < w'.heap.size := by (try simp at hsz); omega); try (have hz2 : w.heap.size + 1 + 1 < w'.heap.size := by (try simp at hsz); omega); try (have hz3 : w.heap.size + 1 + 1 + 1 < w'.heap.size := by (try simp at hsz); omega); try (have hz4 : w.heap.size + 1 + 1 + 1 + 1 < w'.heap.size := by (try simp at hsz); omega); try (have hzr : wr.heap.size < w'.heap.size := by (try simp at hsz); omega); try (have hzr1 : wr.heap.size + 1 < w'.heap.size := by (try simp at hsz); omega)))
    have k0 : w'.cell? ⟨w.heap.size, 4, none⟩ = some (.int .i64 c) := by simp [*, go_sem]
    have k1 : w'.cell? ⟨w.heap.size, 3, none⟩ = some (.int .i64 u) := by simp [*, go_sem]
    have e0 := fun p : Ext w' => Ext.cell' k0 p
    have e1 := fun p : Ext w' => Ext.cell' k1 p
    (refine wp_region_quiet_ext (by kernel_rfl) (by kernel_rfl) ?_; (repeat (go_big_quiet_step ((fail)))); refine wpQuiet_nil ?_; rintro wq ⟨⟨_, hbq⟩, rfl⟩; obtain ⟨hccq, hffq⟩ := Bw.cells hbq; have hszq := Bw.size hbq)
    go_wp2
    go_ret3
    exact ⟨by rw [HP.out]; exact ret_iii rfl rfl rfl, (by repeat (first | exact Bw.refl _ | assumption | refine Bw.alloc ?_ _ | refine Bw.drew ?_ | refine Bw.trans ?_ (by assumption) | refine Bw.setCell ?_ (by simp; try omega) _))⟩
  · have HP := Lib.hid (limP_no (g := g) h)
    rw [errF_no h] at HC
    clear h
    go_enter Try.func11, Try.ntmps11
    go_wp2_with (go_at_call 17; refine (HC.out _).mono ?_; rintro e w' ⟨rfl, hb⟩; obtain ⟨hcc, hff⟩ := Bw.cells hb; have hsz := Bw.size hb; try (have hz0 : w.heap.size < w'.heap.size := by (try simp at hsz); omega); try (have hz1 : w.heap.size + 1 < w'.heap.size := by (try simp at hsz); omega); try (have hz2 : w.heap.size + 1 + 1 < w'.heap.size := by (try simp at hsz); omega); try (have hz3 : w.heap.size + 1 + 1 + 1 < w'.heap.size := by (try simp at hsz); omega); try (have hz4 : w.heap.size + 1 + 1 + 1 + 1 < w'.heap.size := by (try simp at hsz); omega); try (have hzr : wr.heap.size < w'.heap.size := by (try simp at hsz); omega); try (have hzr1 : wr.heap.size + 1 < w'.heap.size := by (try simp at hsz); omega))
    go_ret3
    exact ⟨by rw [HP.out]; exact ret_iii rfl rfl rfl, (by repeat (first | exact Bw.refl _ | assumption | refine Bw.alloc ?_ _ | refine Bw.drew ?_ | refine Bw.trans ?_ (by assumption) | refine Bw.setCell ?_ (by simp; try omega) _))⟩
def getR (zs : List Int) (a n : Int) (g : Bool) (u c : Int) : Int := if errT zs a n u c = 0 then getV zs a.toNat n.toNat g u c else 0
def GetP (zs : List Int) (a n : Int) (g : Bool) (u c : Int) (e : Ending) : Prop := e = .returned (.tuple #[.int .i64 (getR zs a n g u c), .int .i64 (errT zs a n u c)])
theorem errT_zero {zs : List Int} {a n u c : Int} (h : errT zs a n u c = 0) : fk a n u c ∧ a + n ≤ zs.length ∧ oksP zs a.toNat n.toNat = true := by
  unfold errT at h
  by_cases hf : fk a n u c
  · rw [errF_ok hf, if_pos rfl] at h
    by_cases hl : (zs.length : Int) < a + n
    · rw [if_pos hl] at h; cases h
    · rw [if_neg hl] at h
      cases ho : oksP zs a.toNat n.toNat with
      | true => exact ⟨hf, by omega, rfl⟩
      | false => rw [ho] at h; cases h
  · rw [errF_no hf] at h; cases h
theorem ret_ii {a b a' b' : Int} (h1 : a = a') (h2 : b = b') : Ending.returned (.tuple #[.int .i64 a, .int .i64 b]) = .returned (.tuple #[.int .i64 a', .int .i64 b']) := by rw [h1, h2]
theorem Get_any (zs : List Int) (v : Value) (a n : Int) (g : Bool) (u c : Int) (w : World) (hv : RdI w v zs) : Calls Try.prog 14 #[v, .agg #[.int .i64 a, .int .i64 n, .bool g, .int .i64 u, .int .i64 c]] w fun e w' => GetP zs a n g u c e ∧ Bw w w' := by
  have HT := Lib.hid (fun W hW => there_any zs v a n g u c W hW)
  have HV := Lib.hid hv
  obtain ⟨ad, cap, rfl⟩ := hv.form
  clear hv
  by_cases he : errT zs a n u c = 0
  · have HP := Lib.hid (show GetP zs a n g u c = fun e => e = .returned (.tuple #[.int .i64 (getV zs a.toNat n.toNat g u c), .int .i64 0]) by unfold GetP getR; rw [if_pos he, he])
    rw [he] at HT
    obtain ⟨hf, hl, ho⟩ := errT_zero he
    clear he
    obtain ⟨A, rfl⟩ := Int.eq_ofNat_of_zero_le hf.1
    obtain ⟨N, rfl⟩ := Int.eq_ofNat_of_zero_le (show 0 ≤ n by have := hf.2.2.1; omega)
    have HW := Lib.hid (fun W hW => value_ok zs (.slice ad zs.length cap) A N g u c W hW hf (by omega) ((oksP_iff zs A N).1 (by simpa using ho)))
    clear ho hl hf
    go_enter Try.func14, Try.ntmps14
    go_wp2_with (first | (go_at_call 33; refine (HT.out _ (HV.out.mono (by repeat (first | exact Bw.refl _ | assumption | refine Bw.alloc ?_ _ | refine Bw.drew ?_ | refine Bw.trans ?_ (by assumption) | refine Bw.setCell ?_ (by simp; try omega) _)))).mono ?_; rintro e w' ⟨rfl, hb⟩; obtain ⟨hcc, hff⟩ := Bw.cells hb; have hsz := Bw.size hb; try (have hz0 : w.heap.size < w'.heap.size := by (try simp at hsz); omega); try (have hz1 : w.heap.size + 1 < w'.heap.size := by (try simp at hsz); omega); try (have hz2 : w.heap.size + 1 + 1 < w'.heap.size := by (try simp at hsz); omega); try (have hz3 : w.heap.size + 1 + 1 + 1 < w'.heap.size := by (try simp at hsz); omega); try (have hz4 : w.heap.size + 1 + 1 + 1 + 1 < w'.heap.size := by (try simp at hsz); omega); try (have hzr : wr.heap.size < w'.heap.size := by (try simp at hsz); omega); try (have hzr1 : wr.heap.size + 1 < w'.heap.size := by (try simp at hsz); omega)) | (go_at_call 39; refine (HW.out _ (HV.out.mono (by repeat (first | exact Bw.refl _ | assumption | refine Bw.alloc ?_ _ | refine Bw.drew ?_ | refine Bw.trans ?_ (by assumption) | refine Bw.setCell ?_ (by simp; try omega) _)))).mono ?_; rintro e w' ⟨rfl, hb⟩; obtain ⟨hcc, hff⟩ := Bw.cells hb; have hsz := Bw.size hb; try (have hz0 : w.heap.size < w'.heap.size := by (try simp at hsz); omega); try (have hz1 : w.heap.size + 1 < w'.heap.size := by (try simp at hsz); omega); try (have hz2 : w.heap.size + 1 + 1 < w'.heap.size := by (try simp at hsz); omega); try (have hz3 : w.heap.size + 1 + 1 + 1 < w'.heap.size := by (try simp at hsz); omega); try (have hz4 : w.heap.size + 1 + 1 + 1 + 1 < w'.heap.size := by (try simp at hsz); omega); try (have hzr : wr.heap.size < w'.heap.size := by (try simp at hsz); omega); try (have hzr1 : wr.heap.size + 1 < w'.heap.size := by (try simp at hsz); omega)))
    go_ret2
    exact ⟨by rw [HP.out]; exact ret_ii (by simp) rfl, (by repeat (first | exact Bw.refl _ | assumption | refine Bw.alloc ?_ _ | refine Bw.drew ?_ | refine Bw.trans ?_ (by assumption) | refine Bw.setCell ?_ (by simp; try omega) _))⟩
  · have HP := Lib.hid (show GetP zs a n g u c = fun e => e = .returned (.tuple #[.int .i64 0, .int .i64 (errT zs a n u c)]) by unfold GetP getR; rw [if_neg he])
    have hne : (errT zs a n u c != 0) = true := by simpa using he
    clear he
    go_enter Try.func14, Try.ntmps14
    go_wp2_with (first | (go_at_call 33; refine (HT.out _ (HV.out.mono (by repeat (first | exact Bw.refl _ | assumption | refine Bw.alloc ?_ _ | refine Bw.drew ?_ | refine Bw.trans ?_ (by assumption) | refine Bw.setCell ?_ (by simp; try omega) _)))).mono ?_; rintro e w' ⟨rfl, hb⟩; obtain ⟨hcc, hff⟩ := Bw.cells hb; have hsz := Bw.size hb; try (have hz0 : w.heap.size < w'.heap.size := by (try simp at hsz); omega); try (have hz1 : w.heap.size + 1 < w'.heap.size := by (try simp at hsz); omega); try (have hz2 : w.heap.size + 1 + 1 < w'.heap.size := by (try simp at hsz); omega); try (have hz3 : w.heap.size + 1 + 1 + 1 < w'.heap.size := by (try simp at hsz); omega); try (have hz4 : w.heap.size + 1 + 1 + 1 + 1 < w'.heap.size := by (try simp at hsz); omega); try (have hzr : wr.heap.size < w'.heap.size := by (try simp at hsz); omega); try (have hzr1 : wr.heap.size + 1 < w'.heap.size := by (try simp at hsz); omega)))
    go_ret2
    exact ⟨by rw [HP.out]; exact ret_ii rfl rfl, (by repeat (first | exact Bw.refl _ | assumption | refine Bw.alloc ?_ _ | refine Bw.drew ?_ | refine Bw.trans ?_ (by assumption) | refine Bw.setCell ?_ (by simp; try omega) _))⟩
theorem RGet_any (zs : List Int) (v : Value) (a n : Int) (g : Bool) (u c : Int) (w : World) (hv : RdI w v zs) : Calls Try.prog 15 #[v, .agg #[.int .i64 a, .int .i64 n, .bool g, .int .i64 u, .int .i64 c]] w fun e w' => GetP zs a n g u c e ∧ Bw w w' := by
  have HT := Lib.hid (fun W hW => place_any zs v a n g u c W hW)
  have HV := Lib.hid hv
  by_cases he : errT zs a n u c = 0
  · have HP := Lib.hid (show GetP zs a n g u c = fun e => e = .returned (.tuple #[.int .i64 (getV zs a.toNat n.toNat g u c), .int .i64 0]) by unfold GetP getR; rw [if_pos he, he])
    rw [he] at HT
    obtain ⟨hf, hl, ho⟩ := errT_zero he
    clear he
    obtain ⟨A, rfl⟩ := Int.eq_ofNat_of_zero_le hf.1
    obtain ⟨N, rfl⟩ := Int.eq_ofNat_of_zero_le (show 0 ≤ n by have := hf.2.2.1; omega)
    have hbit := (oksP_iff zs A N).1 (by simpa using ho)
    clear ho
    obtain ⟨h1, h2, h3, h4', h5, h6, h7, h8, h9⟩ := hf
    have HR := Lib.hid (fun w => rraws_any A N g u c h3 h4' w)
    obtain ⟨_, ad, cap, rfl, hz⟩ := hv
    obtain ⟨b, off, rfl, hb, hz⟩ := hz.resolve_left (by intro e; subst e; simp at hl; omega)
    have HZ := Lib.hid hz; clear hz
    have HB := Lib.hid hbit
    obtain ⟨b1, b2⟩ := getN_bd zs A N hbit
    have ⟨s1, s2⟩ := sgnV_bd N g _ (by omega) (by omega) b1 b2
    have ⟨m1, m2⟩ := mul_bd _ u s1 s2 h6 h7
    have HX := Lib.hid (show sgnV N g (getN zs A N) = if highR N g < getN zs A N then getN zs A N - 2 ^ N else getN zs A N from by
      unfold sgnV highR sx
      cases g with
      | true => simp; split <;> split <;> omega
      | false => simp; intro hh; omega)
    have HG := Lib.hid (show getV zs A N g u c = c + sgnV N g (getN zs A N) * u from rfl)
    clear hbit
    go_enter Try.func15, Try.ntmps15
    go_wp2_with (first | (go_at_call 36; refine (HT.out _ (HV.out.mono (by repeat (first | exact Bw.refl _ | assumption | refine Bw.alloc ?_ _ | refine Bw.drew ?_ | refine Bw.trans ?_ (by assumption) | refine Bw.setCell ?_ (by simp; try omega) _)))).mono ?_; rintro e w' ⟨rfl, hb⟩; obtain ⟨hcc, hff⟩ := Bw.cells hb; have hsz := Bw.size hb; try (have hz0 : w.heap.size < w'.heap.size := by (try simp at hsz); omega); try (have hz1 : w.heap.size + 1 < w'.heap.size := by (try simp at hsz); omega); try (have hz2 : w.heap.size + 1 + 1 < w'.heap.size := by (try simp at hsz); omega); try (have hz3 : w.heap.size + 1 + 1 + 1 < w'.heap.size := by (try simp at hsz); omega); try (have hz4 : w.heap.size + 1 + 1 + 1 + 1 < w'.heap.size := by (try simp at hsz); omega); try (have hzr : wr.heap.size < w'.heap.size := by (try simp at hsz); omega); try (have hzr1 : wr.heap.size + 1 < w'.heap.size := by (try simp at hsz); omega)))
    have hbw : Bw w w' := (by repeat (first | exact Bw.refl _ | assumption | refine Bw.alloc ?_ _ | refine Bw.drew ?_ | refine Bw.trans ?_ (by assumption) | refine Bw.setCell ?_ (by simp; try omega) _))
    have k0 : w'.cell? ⟨w.heap.size, 0, none⟩ = some (.int .i64 A) := by simp [*, go_sem]
    have k1 : w'.cell? ⟨w.heap.size, 1, none⟩ = some (.int .i64 N) := by simp [*, go_sem]
    have k2 : w'.cell? ⟨w.heap.size, 2, none⟩ = some (.bool g) := by simp [*, go_sem]
    have k3 : w'.cell? ⟨w.heap.size, 3, none⟩ = some (.int .i64 u) := by simp [*, go_sem]
    have k4 : w'.cell? ⟨w.heap.size, 4, none⟩ = some (.int .i64 c) := by simp [*, go_sem]
    clear hcc hff
    go_loop [7, 8] (fun m i => ∃ k : Nat, k ≤ N ∧ i = .int .i64 (A + k : Nat) ∧ m = .int .i64 (getN zs A k)) (fun _ i => A + N - (intOf i).toNat)
    case atStart => exact ⟨0, Nat.zero_le _, by simp, rfl⟩
    case round =>
      obtain ⟨k, hk, rfl, rfl⟩ := hrel
      by_cases hlt : k < N
      · have hcz := HZ.out (A + k) (by omega)
        rw [← hbw.cells.1 _ _ ‹b < w.heap.size›] at hcz
        have hbz := HB.out k hlt
        have ⟨n1, n2⟩ := getN_bd zs A k (fun i hi => HB.out i (by omega))
        have ⟨q1, q2⟩ := pow40 k (by omega)
        have HN := Lib.hid (show getN zs A (k + 1) = 2 * getN zs A k + zs.getD (A + k) 0 from rfl)
        generalize zs.getD (A + k) 0 = z at hcz HN hbz
        generalize getN zs A k = m at *
        have hki : (A : Int) + k < A + N := by omega
        have hkl : (A : Int) + k < zs.length := by omega
        have hkt : ((A : Int) + k).toNat = A + k := by omega
        go_wp2
        go_round
        case rel => exact ⟨k + 1, by omega, by go_num, by rw [HN.out]⟩
        case measure => simp [intOf]; omega
      · obtain rfl : k = N := by omega
        have ⟨r1, r2⟩ := highR_bd k g (by omega) (by omega)
        have ⟨p1, p2⟩ := pow40 k (by omega)
        have ⟨p3, p4⟩ := lowR_bd k g (by omega) (by omega)
        by_cases hh : highR k g < getN zs A k
        · rw [if_pos hh] at HX
          rw [HX.out] at m1 m2 s1 s2 HG
          have HGG := HG; clear HX HG
          generalize getN zs A k = m at *
          generalize highR k g = hi at *
          generalize lowR k g = lo at *
          go_wp2_with (first | (go_at_call 32; refine (HR.out _).mono ?_; rintro e w' ⟨rfl, hb⟩; obtain ⟨hcc, hff⟩ := Bw.cells hb; have hsz := Bw.size hb; try (have hz0 : w.heap.size < w'.heap.size := by (try simp at hsz); omega); try (have hz1 : w.heap.size + 1 < w'.heap.size := by (try simp at hsz); omega); try (have hz2 : w.heap.size + 1 + 1 < w'.heap.size := by (try simp at hsz); omega); try (have hz3 : w.heap.size + 1 + 1 + 1 < w'.heap.size := by (try simp at hsz); omega); try (have hz4 : w.heap.size + 1 + 1 + 1 + 1 < w'.heap.size := by (try simp at hsz); omega); try (have hzr : wr.heap.size < w'.heap.size := by (try simp at hsz); omega); try (have hzr1 : wr.heap.size + 1 < w'.heap.size := by (try simp at hsz); omega)))
          go_ret2
          exact ⟨by rw [HP.out]; exact ret_ii (by simp [HGG.out]) rfl, (by repeat (first | exact Bw.refl _ | assumption | refine Bw.alloc ?_ _ | refine Bw.drew ?_ | refine Bw.trans ?_ (by assumption) | refine Bw.setCell ?_ (by simp; try omega) _))⟩
        · rw [if_neg hh] at HX
          rw [HX.out] at m1 m2 s1 s2 HG
          have HGG := HG; clear HX HG
          generalize getN zs A k = m at *
          generalize highR k g = hi at *
          generalize lowR k g = lo at *
          go_wp2_with (first | (go_at_call 32; refine (HR.out _).mono ?_; rintro e w' ⟨rfl, hb⟩; obtain ⟨hcc, hff⟩ := Bw.cells hb; have hsz := Bw.size hb; try (have hz0 : w.heap.size < w'.heap.size := by (try simp at hsz); omega); try (have hz1 : w.heap.size + 1 < w'.heap.size := by (try simp at hsz); omega); try (have hz2 : w.heap.size + 1 + 1 < w'.heap.size := by (try simp at hsz); omega); try (have hz3 : w.heap.size + 1 + 1 + 1 < w'.heap.size := by (try simp at hsz); omega); try (have hz4 : w.heap.size + 1 + 1 + 1 + 1 < w'.heap.size := by (try simp at hsz); omega); try (have hzr : wr.heap.size < w'.heap.size := by (try simp at hsz); omega); try (have hzr1 : wr.heap.size + 1 < w'.heap.size := by (try simp at hsz); omega)))
          go_ret2
          exact ⟨by rw [HP.out]; exact ret_ii (by simp [HGG.out]) rfl, (by repeat (first | exact Bw.refl _ | assumption | refine Bw.alloc ?_ _ | refine Bw.drew ?_ | refine Bw.trans ?_ (by assumption) | refine Bw.setCell ?_ (by simp; try omega) _))⟩
  · have HP := Lib.hid (show GetP zs a n g u c = fun e => e = .returned (.tuple #[.int .i64 0, .int .i64 (errT zs a n u c)]) by unfold GetP getR; rw [if_neg he])
    have hne : (errT zs a n u c != 0) = true := by simpa using he
    clear he
    obtain ⟨ad, cap, rfl⟩ := hv.form
    clear hv
    go_enter Try.func15, Try.ntmps15
    go_wp2_with (first | (go_at_call 36; refine (HT.out _ (HV.out.mono (by repeat (first | exact Bw.refl _ | assumption | refine Bw.alloc ?_ _ | refine Bw.drew ?_ | refine Bw.trans ?_ (by assumption) | refine Bw.setCell ?_ (by simp; try omega) _)))).mono ?_; rintro e w' ⟨rfl, hb⟩; obtain ⟨hcc, hff⟩ := Bw.cells hb; have hsz := Bw.size hb; try (have hz0 : w.heap.size < w'.heap.size := by (try simp at hsz); omega); try (have hz1 : w.heap.size + 1 < w'.heap.size := by (try simp at hsz); omega); try (have hz2 : w.heap.size + 1 + 1 < w'.heap.size := by (try simp at hsz); omega); try (have hz3 : w.heap.size + 1 + 1 + 1 < w'.heap.size := by (try simp at hsz); omega); try (have hz4 : w.heap.size + 1 + 1 + 1 + 1 < w'.heap.size := by (try simp at hsz); omega); try (have hzr : wr.heap.size < w'.heap.size := by (try simp at hsz); omega); try (have hzr1 : wr.heap.size + 1 < w'.heap.size := by (try simp at hsz); omega)))
    go_ret2
    exact ⟨by rw [HP.out]; exact ret_ii rfl rfl, (by repeat (first | exact Bw.refl _ | assumption | refine Bw.alloc ?_ _ | refine Bw.drew ?_ | refine Bw.trans ?_ (by assumption) | refine Bw.setCell ?_ (by simp; try omega) _))⟩
end Go.Proofs.Sky
