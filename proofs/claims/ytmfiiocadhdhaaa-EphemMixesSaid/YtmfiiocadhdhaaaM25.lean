/-
  lemmas for the theorems of this claim. No conditions beyond those written in the statements.
-/
import Derived.Test.YtmfiiocadhdhaaaI25
import Derived.Test.YtmfiiocadhdhaaaRdAt
set_option linter.unusedVariables false
set_option linter.unusedSimpArgs false
set_option linter.unnecessarySimpa false
namespace Go.Proofs.Sky
open Go Go.RowKit Go.Shelf
set_option maxHeartbeats 1000000
theorem mul_bd (m u : Int) (h1 : -1099511627776 ≤ m) (h2 : m ≤ 1099511627776) (h3 : 1 ≤ u) (h4 : u ≤ 1000000) : -1099511627776000000 ≤ m * u ∧ m * u ≤ 1099511627776000000 := by
  have a : m * u ≤ 1099511627776 * u := Int.mul_le_mul_of_nonneg_right h2 (by omega)
  have b : -1099511627776 * u ≤ m * u := Int.mul_le_mul_of_nonneg_right h1 (by omega)
  omega
theorem sx_bd (N : Nat) (m : Int) (h1 : 1 ≤ N) (h2 : N ≤ 40) (h3 : 0 ≤ m) (h4 : m < 2 ^ N) : -1099511627776 ≤ sx N m ∧ sx N m ≤ 1099511627776 := by
  have ⟨p1, p2⟩ := pow40 N h2
  have ⟨p3, p4⟩ := pow40 (N - 1) (by omega)
  unfold sx; split <;> omega
def sgnV (N : Nat) (g : Bool) (m : Int) : Int := if g then sx N m else m
theorem sgnV_bd (N : Nat) (g : Bool) (m : Int) (h1 : 1 ≤ N) (h2 : N ≤ 40) (h3 : 0 ≤ m) (h4 : m < 2 ^ N) : -1099511627776 ≤ sgnV N g m ∧ sgnV N g m ≤ 1099511627776 := by
  have ⟨p1, p2⟩ := pow40 N h2
  have := sx_bd N m h1 h2 h3 h4
  unfold sgnV; split <;> omega
def getV (zs : List Int) (A N : Nat) (g : Bool) (u c : Int) : Int := c + sgnV N g (getN zs A N) * u
theorem value_ok (zs : List Int) (v : Value) (A N : Nat) (g : Bool) (u c : Int) (w : World) (hv : RdI w v zs) (h : fk A N u c) (hl : A + N ≤ zs.length) (hbit : ∀ i, i < N → zs.getD (A + i) 0 = 0 ∨ zs.getD (A + i) 0 = 1) :
    Calls Try.prog 74 #[v, .agg #[.int .i64 A, .int .i64 N, .bool g, .int .i64 u, .int .i64 c]] w fun e w' => e = .returned (.int .i64 (getV zs A N g u c)) ∧ Bw w w' := by
  have HS := Lib.hid (fun W hW => get_i64 zs v A N g u c W hW h hl hbit)
  have HU := Lib.hid (fun W hW => get_u64 zs v A N g u c W hW h hl hbit)
  have HV := Lib.hid hv
  obtain ⟨ad, cap, rfl⟩ := hv.form
  clear hv
  obtain ⟨b1, b2⟩ := getN_bd zs A N hbit
  obtain ⟨h1, h2, h3, h4', h5, h6, h7, h8, h9⟩ := h
  have ⟨s1, s2⟩ := sgnV_bd N g _ (by omega) (by omega) b1 b2
  have ⟨m1, m2⟩ := mul_bd _ u s1 s2 h6 h7
  have HE := Lib.hid (show getV zs A N g u c = c + sgnV N g (getN zs A N) * u from rfl)
  have ⟨p1, p2⟩ := pow40 N (by omega)
  clear hbit
  have c1 := fun p : Ext _ => Ext.cell (w := w.alloc (Obj.cells #[.int .i64 A, .int .i64 N, .bool g, .int .i64 u, .int .i64 c] 81)) (b := w.heap.size) (o := 4) (v := .int .i64 c) (by simp) (by simp [go_sem]) p
  have c2 := fun p : Ext _ => Ext.cell (w := w.alloc (Obj.cells #[.int .i64 A, .int .i64 N, .bool g, .int .i64 u, .int .i64 c] 81)) (b := w.heap.size) (o := 3) (v := .int .i64 u) (by simp) (by simp [go_sem]) p
  have c3 := fun p : Ext _ => Ext.cell (w := w.alloc (Obj.cells #[.int .i64 A, .int .i64 N, .bool g, .int .i64 u, .int .i64 c] 81)) (b := w.heap.size) (o := 0) (v := .int .i64 A) (by simp) (by simp [go_sem]) p
  have c4 := fun p : Ext _ => Ext.cell (w := w.alloc (Obj.cells #[.int .i64 A, .int .i64 N, .bool g, .int .i64 u, .int .i64 c] 81)) (b := w.heap.size) (o := 1) (v := .int .i64 N) (by simp) (by simp [go_sem]) p
  have c5 := fun p : Ext _ => Ext.cell (w := w.alloc (Obj.cells #[.int .i64 A, .int .i64 N, .bool g, .int .i64 u, .int .i64 c] 81)) (b := w.heap.size) (o := 2) (v := .bool g) (by simp) (by simp [go_sem]) p
  cases g with
  | true =>
    have HSG := Lib.hid (show sgnV N true (getN zs A N) = sx N (getN zs A N) from rfl)
    rw [HSG.out] at HE s1 s2 m1 m2
    clear HU
    generalize sx N (getN zs A N) = sv at *
    go_enter Try.func74, Try.ntmps74
    go_wp2
    (refine wp_region_quiet_ext (by kernel_rfl) (by kernel_rfl) ?_; (repeat (go_big_quiet_step ((go_at_call 75; refine Calls.ext_of (HS.out _ (HV.out.mono (Bw.trans (by repeat (first | exact Bw.refl _ | assumption | refine Bw.alloc ?_ _ | refine Bw.drew ?_ | refine Bw.trans ?_ (by assumption) | refine Bw.setCell ?_ (by simp; try omega) _)) (Ext.b _)))))))); refine wpQuiet_nil ?_; rintro wq ⟨⟨_, hbq⟩, rfl⟩; obtain ⟨hccq, hffq⟩ := Bw.cells hbq; have hszq := Bw.size hbq)
    go_wp2
    go_ret
    exact ⟨ret_int (by rw [HE.out]), (by repeat (first | exact Bw.refl _ | assumption | refine Bw.alloc ?_ _ | refine Bw.drew ?_ | refine Bw.trans ?_ (by assumption) | refine Bw.setCell ?_ (by simp; try omega) _))⟩
  | false =>
    have HSG := Lib.hid (show sgnV N false (getN zs A N) = getN zs A N from rfl)
    rw [HSG.out] at HE s1 s2 m1 m2
    clear HS
    generalize getN zs A N = sv at *
    go_enter Try.func74, Try.ntmps74
    go_wp2
    (refine wp_region_quiet_ext (by kernel_rfl) (by kernel_rfl) ?_; (repeat (go_big_quiet_step ((go_at_call 76; refine Calls.ext_of (HU.out _ (HV.out.mono (Bw.trans (by repeat (first | exact Bw.refl _ | assumption | refine Bw.alloc ?_ _ | refine Bw.drew ?_ | refine Bw.trans ?_ (by assumption) | refine Bw.setCell ?_ (by simp; try omega) _)) (Ext.b _)))))))); refine wpQuiet_nil ?_; rintro wq ⟨⟨_, hbq⟩, rfl⟩; obtain ⟨hccq, hffq⟩ := Bw.cells hbq; have hszq := Bw.size hbq)
    go_wp2
    go_ret
    exact ⟨ret_int (by rw [HE.out]), (by repeat (first | exact Bw.refl _ | assumption | refine Bw.alloc ?_ _ | refine Bw.drew ?_ | refine Bw.trans ?_ (by assumption) | refine Bw.setCell ?_ (by simp; try omega) _))⟩
def limL (a n : Int) (g : Bool) (u c : Int) : Int := if errF a n u c = 0 then c + lowR n g * u else 0
def limH (a n : Int) (g : Bool) (u c : Int) : Int := if errF a n u c = 0 then c + highR n g * u else 0
def LimP (a n : Int) (g : Bool) (u c : Int) (e : Ending) : Prop := e = .returned (.tuple #[.int .i64 (limL a n g u c), .int .i64 (limH a n g u c), .int .i64 (errF a n u c)])
theorem limP_ok {a n u c : Int} {g : Bool} (h : fk a n u c) : LimP a n g u c = fun e => e = .returned (.tuple #[.int .i64 (c + lowR n g * u), .int .i64 (c + highR n g * u), .int .i64 0]) := by unfold LimP limL limH; rw [errF_ok h]; rfl
theorem limP_no {a n u c : Int} {g : Bool} (h : ¬ fk a n u c) : LimP a n g u c = fun e => e = .returned (.tuple #[.int .i64 0, .int .i64 0, .int .i64 2]) := by unfold LimP limL limH; rw [errF_no h]; rfl
theorem ret_iii {a b c a' b' c' : Int} (h1 : a = a') (h2 : b = b') (h3 : c = c') : Ending.returned (.tuple #[.int .i64 a, .int .i64 b, .int .i64 c]) = .returned (.tuple #[.int .i64 a', .int .i64 b', .int .i64 c']) := by rw [h1, h2, h3]
theorem Limits_any (a n : Int) (g : Bool) (u c : Int) (w : World) : Calls Try.prog 33 #[.agg #[.int .i64 a, .int .i64 n, .bool g, .int .i64 u, .int .i64 c]] w fun e w' => LimP a n g u c e ∧ Bw w w' := by
  have HC := Lib.hid (fun w => Check_any a n g u c w)
  by_cases h : fk a n u c
  · have HP := Lib.hid (limP_ok (g := g) h)
    rw [errF_ok h] at HC
    obtain ⟨h1, h2, h3, h4, h5, h6, h7, h8, h9⟩ := h
    have HR := Lib.hid (fun w => raws_any a n g u c h3 h4 w)
    have ⟨l1, l2⟩ := lowR_bd n g h3 h4
    have ⟨k1, k2⟩ := highR_bd n g h3 h4
    have ⟨l3, l4⟩ := mul_bd (lowR n g) u (by omega) (by omega) h6 h7
    have ⟨k3, k4⟩ := mul_bd (highR n g) u (by omega) (by omega) h6 h7
    generalize lowR n g = lo at *
    generalize highR n g = hi at *
    go_enter Try.func33, Try.ntmps33
    go_wp2_with (first | (go_at_call 60; refine (HC.out _).mono ?_; rintro e w' ⟨rfl, hb⟩; obtain ⟨hcc, hff⟩ := Bw.cells hb; have hsz := Bw.size hb; try (have hz0 : w.heap.size < w'.heap.size := by (try simp at hsz); omega); try (have hz1 : w.heap.size + 1 < w'.heap.size := by (try simp at hsz); omega); try (have hz2 : w.heap.size + 1 + 1 < w'.heap.size := by (try simp at hsz); omega); try (have hz3 : w.heap.size + 1 + 1 + 1 < w'.heap.size := by (try simp at hsz); omega); try (have hz4 : w.heap.size + 1 + 1 + 1 + 1 < w'.heap.size := by (try simp at hsz); omega); try (have hzr : wr.heap.size < w'.heap.size := by (try simp at hsz); omega); try (have hzr1 : wr.heap.size + 1 < w'.heap.size := by (try simp at hsz); omega)) | (go_at_call 61; refine (HR.out _).mono ?_; rintro e w' ⟨rfl, hb⟩; obtain ⟨hcc, hff⟩ := Bw.cells hb; have hsz := Bw.size hb; try (have hz0 : w.heap.size < w'.heap.size := by (try simp at hsz); omega); try (have hz1 : w.heap.size + 1 < w'.heap.size := by (try simp at hsz); omega); try (have hz2 : w.heap.size + 1 + 1 < w'.heap.size := by (try simp at hsz); omega); try (have hz3 : w.heap.size + 1 + 1 + 1 < w'.heap.size := by (try simp at hsz); omega); try (have hz4 : w.heap.size + 1 + 1 + 1 + 1 < w'.heap.size := by (try simp at hsz); omega); try (have hzr : wr.heap.size < w'.heap.size := by (try simp at hsz); omega); try (have hzr1 : wr.heap.size + 1 < w'.heap.size := by (try simp at hsz); omega)))
    have k0 : w'.cell? ⟨w.heap.size, 4, none⟩ = some (.int .i64 c) := by simp [*, go_sem]
    have k1 : w'.cell? ⟨w.heap.size, 3, none⟩ = some (.int .i64 u) := by simp [*, go_sem]
    have e0 := fun p : Ext w' => Ext.cell' k0 p
    have e1 := fun p : Ext w' => Ext.cell' k1 p
    (refine wp_region_quiet_ext (by kernel_rfl) (by kernel_rfl) ?_; (repeat (go_big_quiet_step ((fail)))); refine wpQuiet_nil ?_; rintro wq ⟨⟨_, hbq⟩, rfl⟩; obtain ⟨hccq, hffq⟩ := Bw.cells hbq; have hszq := Bw.size hbq)
    go_wp2
    go_ret3
    exact ⟨by rw [HP.out]; exact ret_iii rfl rfl rfl, (by repeat (first | exact Bw.refl _ | assumption | refine Bw.alloc ?_ _ | refine Bw.drew ?_ | refine Bw.trans ?_ (by assumption) | refine Bw.setCell ?_ (by simp; try omega) _))⟩
  · have HP := Lib.hid (limP_no (g := g) h)
    rw [errF_no h] at HC
    clear h
    go_enter Try.func33, Try.ntmps33
    go_wp2_with (go_at_call 60; refine (HC.out _).mono ?_; rintro e w' ⟨rfl, hb⟩; obtain ⟨hcc, hff⟩ := Bw.cells hb; have hsz := Bw.size hb; try (have hz0 : w.heap.size < w'.heap.size := by (try simp at hsz); omega); try (have hz1 : w.heap.size + 1 < w'.heap.size := by (try simp at hsz); omega); try (have hz2 : w.heap.size + 1 + 1 < w'.heap.size := by (try simp at hsz); omega); try (have hz3 : w.heap.size + 1 + 1 + 1 < w'.heap.size := by (try simp at hsz); omega); try (have hz4 : w.heap.size + 1 + 1 + 1 + 1 < w'.heap.size := by (try simp at hsz); omega); try (have hzr : wr.heap.size < w'.heap.size := by (try simp at hsz); omega); try (have hzr1 : wr.heap.size + 1 < w'.heap.size := by (try simp at hsz); omega))
    go_ret3
    exact ⟨by rw [HP.out]; exact ret_iii rfl rfl rfl, (by repeat (first | exact Bw.refl _ | assumption | refine Bw.alloc ?_ _ | refine Bw.drew ?_ | refine Bw.trans ?_ (by assumption) | refine Bw.setCell ?_ (by simp; try omega) _))⟩
def getR (zs : List Int) (a n : Int) (g : Bool) (u c : Int) : Int := if errT zs a n u c = 0 then getV zs a.toNat n.toNat g u c else 0
def GetP (zs : List Int) (a n : Int) (g : Bool) (u c : Int) (e : Ending) : Prop := e = .returned (.tuple #[.int .i64 (getR zs a n g u c), .int .i64 (errT zs a n u c)])
theorem errT_zero {zs : List Int} {a n u c : Int} (h : errT zs a n u c = 0) : fk a n u c ∧ a + n ≤ zs.length ∧ oksP zs a.toNat n.toNat = true := by
  unfold errT at h
  by_cases hf : fk a n u c
  · rw [errF_ok hf, if_pos rfl] at h
    by_cases hl : (zs.length : Int) < a + n
    · rw [if_pos hl] at h; cases h
    · rw [if_neg hl] at h
      cases ho : oksP zs a.toNat n.toNat with
      | true => exact ⟨hf, by omega, rfl⟩
      | false => rw [ho] at h; cases h
  · rw [errF_no hf] at h; cases h
theorem ret_ii {a b a' b' : Int} (h1 : a = a') (h2 : b = b') : Ending.returned (.tuple #[.int .i64 a, .int .i64 b]) = .returned (.tuple #[.int .i64 a', .int .i64 b']) := by rw [h1, h2]
theorem Get_any (zs : List Int) (v : Value) (a n : Int) (g : Bool) (u c : Int) (w : World) (hv : RdI w v zs) : Calls Try.prog 70 #[v, .agg #[.int .i64 a, .int .i64 n, .bool g, .int .i64 u, .int .i64 c]] w fun e w' => GetP zs a n g u c e ∧ Bw w w' := by
  have HT := Lib.hid (fun W hW => there_any zs v a n g u c W hW)
  have HV := Lib.hid hv
  obtain ⟨ad, cap, rfl⟩ := hv.form
  clear hv
  by_cases he : errT zs a n u c = 0
  · have HP := Lib.hid (show GetP zs a n g u c = fun e => e = .returned (.tuple #[.int .i64 (getV zs a.toNat n.toNat g u c), .int .i64 0]) by unfold GetP getR; rw [if_pos he, he])
    rw [he] at HT
    obtain ⟨hf, hl, ho⟩ := errT_zero he
    clear he
    obtain ⟨A, rfl⟩ := Int.eq_ofNat_of_zero_le hf.1
    obtain ⟨N, rfl⟩ := Int.eq_ofNat_of_zero_le (show 0 ≤ n by have := hf.2.2.1; omega)
    have HW := Lib.hid (fun W hW => value_ok zs (.slice ad zs.length cap) A N g u c W hW hf (by omega) ((oksP_iff zs A N).1 (by simpa using ho)))
    clear ho hl hf
    go_enter Try.func70, Try.ntmps70
    go_wp2_with (first | (go_at_call 73; refine (HT.out _ (HV.out.mono (by repeat (first | exact Bw.refl _ | assumption | refine Bw.alloc ?_ _ | refine Bw.drew ?_ | refine Bw.trans ?_ (by assumption) | refine Bw.setCell ?_ (by simp; try omega) _)))).mono ?_; rintro e w' ⟨rfl, hb⟩; obtain ⟨hcc, hff⟩ := Bw.cells hb; have hsz := Bw.size hb; try (have hz0 : w.heap.size < w'.heap.size := by (try simp at hsz); omega); try (have hz1 : w.heap.size + 1 < w'.heap.size := by (try simp at hsz); omega); try (have hz2 : w.heap.size + 1 + 1 < w'.heap.size := by (try simp at hsz); omega); try (have hz3 : w.heap.size + 1 + 1 + 1 < w'.heap.size := by (try simp at hsz); omega); try (have hz4 : w.heap.size + 1 + 1 + 1 + 1 < w'.heap.size := by (try simp at hsz); omega); try (have hzr : wr.heap.size < w'.heap.size := by (try simp at hsz); omega); try (have hzr1 : wr.heap.size + 1 < w'.heap.size := by (try simp at hsz); omega)) | (go_at_call 74; refine (HW.out _ (HV.out.mono (by repeat (first | exact Bw.refl _ | assumption | refine Bw.alloc ?_ _ | refine Bw.drew ?_ | refine Bw.trans ?_ (by assumption) | refine Bw.setCell ?_ (by simp; try omega) _)))).mono ?_; rintro e w' ⟨rfl, hb⟩; obtain ⟨hcc, hff⟩ := Bw.cells hb; have hsz := Bw.size hb; try (have hz0 : w.heap.size < w'.heap.size := by (try simp at hsz); omega); try (have hz1 : w.heap.size + 1 < w'.heap.size := by (try simp at hsz); omega); try (have hz2 : w.heap.size + 1 + 1 < w'.heap.size := by (try simp at hsz); omega); try (have hz3 : w.heap.size + 1 + 1 + 1 < w'.heap.size := by (try simp at hsz); omega); try (have hz4 : w.heap.size + 1 + 1 + 1 + 1 < w'.heap.size := by (try simp at hsz); omega); try (have hzr : wr.heap.size < w'.heap.size := by (try simp at hsz); omega); try (have hzr1 : wr.heap.size + 1 < w'.heap.size := by (try simp at hsz); omega)))
    go_ret2
    exact ⟨by rw [HP.out]; exact ret_ii (by simp) rfl, (by repeat (first | exact Bw.refl _ | assumption | refine Bw.alloc ?_ _ | refine Bw.drew ?_ | refine Bw.trans ?_ (by assumption) | refine Bw.setCell ?_ (by simp; try omega) _))⟩
  · have HP := Lib.hid (show GetP zs a n g u c = fun e => e = .returned (.tuple #[.int .i64 0, .int .i64 (errT zs a n u c)]) by unfold GetP getR; rw [if_neg he])
    have hne : (errT zs a n u c != 0) = true := by simpa using he
    clear he
    go_enter Try.func70, Try.ntmps70
    go_wp2_with (first | (go_at_call 73; refine (HT.out _ (HV.out.mono (by repeat (first | exact Bw.refl _ | assumption | refine Bw.alloc ?_ _ | refine Bw.drew ?_ | refine Bw.trans ?_ (by assumption) | refine Bw.setCell ?_ (by simp; try omega) _)))).mono ?_; rintro e w' ⟨rfl, hb⟩; obtain ⟨hcc, hff⟩ := Bw.cells hb; have hsz := Bw.size hb; try (have hz0 : w.heap.size < w'.heap.size := by (try simp at hsz); omega); try (have hz1 : w.heap.size + 1 < w'.heap.size := by (try simp at hsz); omega); try (have hz2 : w.heap.size + 1 + 1 < w'.heap.size := by (try simp at hsz); omega); try (have hz3 : w.heap.size + 1 + 1 + 1 < w'.heap.size := by (try simp at hsz); omega); try (have hz4 : w.heap.size + 1 + 1 + 1 + 1 < w'.heap.size := by (try simp at hsz); omega); try (have hzr : wr.heap.size < w'.heap.size := by (try simp at hsz); omega); try (have hzr1 : wr.heap.size + 1 < w'.heap.size := by (try simp at hsz); omega)))
    go_ret2
    exact ⟨by rw [HP.out]; exact ret_ii rfl rfl, (by repeat (first | exact Bw.refl _ | assumption | refine Bw.alloc ?_ _ | refine Bw.drew ?_ | refine Bw.trans ?_ (by assumption) | refine Bw.setCell ?_ (by simp; try omega) _))⟩
end Go.Proofs.Sky

namespace Go.Proofs.Sky
open Go Go.RowKit Go.Shelf
set_option maxHeartbeats 1000000
theorem bitN_add (x : Int) (N j : Nat) (h : j < N) : bitN (x + 2 ^ N) j = bitN x j := by
  unfold bitN
  obtain ⟨d, rfl⟩ : ∃ d, N = j + (d + 1) := ⟨N - j - 1, by omega⟩
  have hp := pow_pos' j
  rw [Int.pow_add, Int.add_mul_ediv_left _ _ (by omega), Int.pow_succ]
  omega
theorem bitN_step (x : Int) (k : Nat) : x / 2 ^ k / 2 = x / 2 ^ (k + 1) := by
  have hp := pow_pos' k
  rw [Int.pow_succ]; first | rw [Int.ediv_ediv_of_nonneg (by omega)] | rw [Int.ediv_ediv_eq_ediv_mul _ (by omega)] | exact Int.ediv_ediv_eq_ediv_mul _ (by omega)
end Go.Proofs.Sky

namespace Go.Proofs.Sky
open Go Go.RowKit Go.Shelf
set_option maxHeartbeats 1000000
theorem infoInt : (Try.prog.info? 3).map (fun i => (i.zero, i.size, i.bytes)) = some (some (.int .i64 0), 1, 8) := by kernel_rfl
/-- a fresh own slice of ints that is not empty -/
theorem owI_of_own {w : World} {base : Nat} {e : TypeId} {v : Value} {zs : List Int} (h : w.ownsRow base e 1 v zs.length (zs.map (Value.int .i64))) (h0 : 0 < zs.length) : ∃ bl cap, v = .slice (some ⟨bl, 0, none⟩) zs.length cap ∧ base ≤ bl ∧ bl < w.heap.size ∧ OwI w bl zs := by
  obtain ⟨n, hn⟩ : ∃ n, zs.length = n + 1 := ⟨zs.length - 1, by omega⟩
  have hf : ∃ g cap, v = .slice (some ⟨g, 0, none⟩) zs.length cap := by rw [hn] at h ⊢; exact ownsRow_succ h
  obtain ⟨g, cap, rfl⟩ := hf
  have hl := h.lt g rfl
  refine ⟨g, cap, rfl, hl.1, hl.2, fun i hi => ?_, fun i hi => h.frozenAt i⟩
  rw [h.cellAt i (by omega)]
  simp [List.getD_eq_getElem?_getD, List.getElem?_eq_getElem hi]
theorem rdI_of_owI {w : World} {bl cap : Nat} {zs : List Int} (h : OwI w bl zs) (hb : bl < w.heap.size) (hn : zs.length ≤ 9223372036854775807) : RdI w (.slice (some ⟨bl, 0, none⟩) zs.length cap) zs :=
  ⟨hn, _, _, rfl, .inr ⟨bl, 0, rfl, hb, fun i hi => by rw [Nat.zero_add]; exact h.cell i hi⟩⟩
def errP (zs : List Int) (a n : Int) (g : Bool) (u c x : Int) : Int := if errT zs a n u c = 0 then (if rawB n g u c x then 0 else 5) else errT zs a n u c
def putR (zs : List Int) (a n : Int) (g : Bool) (u c x : Int) : List Int := if errP zs a n g u c x = 0 then putL zs a.toNat n.toNat (rawV u c x) n.toNat else []
def PutP (base : Nat) (zs : List Int) (a n : Int) (g : Bool) (u c x : Int) (e : Ending) (w' : World) : Prop := ∃ v', e = .returned (.tuple #[v', .int .i64 (errP zs a n g u c x)]) ∧ RdI w' v' (putR zs a n g u c x) ∧ Fresh base v'
theorem rawB_bd {n : Int} {g : Bool} {u c x : Int} (h : rawB n g u c x = true) (h1 : 1 ≤ n) (h2 : n ≤ 40) : -1099511627776 ≤ rawV u c x ∧ rawV u c x ≤ 1099511627776 := by
  unfold rawB at h
  simp only [Bool.and_eq_true, decide_eq_true_eq] at h
  have := lowR_bd n g h1 h2
  have := highR_bd n g h1 h2
  rw [rawV_in h.1]; omega
theorem ret_vi {v : Value} {a b : Int} (h : a = b) : Ending.returned (.tuple #[v, .int .i64 a]) = .returned (.tuple #[v, .int .i64 b]) := by rw [h]
end Go.Proofs.Sky

namespace Go.Proofs.Sky
open Go Go.RowKit Go.Shelf
set_option maxHeartbeats 1000000
theorem list_eq_getD {xs ys : List Int} (hl : xs.length = ys.length) (h : ∀ i, i < xs.length → xs.getD i 0 = ys.getD i 0) : xs = ys := by
  apply List.ext_getElem hl
  intro i h1 h2
  have := h i h1
  simpa [List.getD_eq_getElem?_getD, List.getElem?_eq_getElem h1, List.getElem?_eq_getElem h2] using this
theorem list_ne_getD {xs ys : List Int} (i : Nat) (h : xs.getD i 0 ≠ ys.getD i 0) : ¬ xs = ys := fun e => h (by rw [e])
theorem alike_any (xs ys : List Int) (v1 v2 : Value) (w : World) (h1 : RdI w v1 xs) (h2 : RdI w v2 ys) : Calls Try.prog 35 #[v1, v2] w fun e w' => e = .returned (.bool (decide (xs = ys))) ∧ Bw w w' := by
  have hx := h1.1
  have hy := h2.1
  by_cases hl : xs.length = ys.length
  · by_cases h0 : 0 < xs.length
    · obtain ⟨b1, o1, c1, rfl, hb1, z1⟩ := h1.at h0
      obtain ⟨b2, o2, c2, rfl, hb2, z2⟩ := h2.at (by omega)
      have HL := Lib.hid hl
      rw [← hl] at z2
      rw [← hl]
      obtain ⟨n, hn⟩ : ∃ n, xs.length = n := ⟨_, rfl⟩
      rw [hn] at z1 z2 hx h0 ⊢
      have HN := Lib.hid hn; clear hn hl hy
      have Z1 := Lib.hid z1; clear z1
      have Z2 := Lib.hid z2; clear z2
      clear h1 h2
      go_enter Try.func35, Try.ntmps35
      go_wp2
      go_loopw [5] (fun i wr => ∃ k : Nat, k ≤ n ∧ i = .int .i64 k ∧ Bw w wr ∧ Hid (∀ j, j < k → xs.getD j 0 = ys.getD j 0)) (fun i _ => n - (intOf i).toNat)
      case atStart => exact ⟨0, Nat.zero_le _, rfl, (by repeat (first | exact Bw.refl _ | assumption | refine Bw.alloc ?_ _ | refine Bw.drew ?_ | refine Bw.trans ?_ (by assumption) | refine Bw.setCell ?_ (by simp; try omega) _)), fun j hj => absurd hj (Nat.not_lt_zero _)⟩
      case round =>
        obtain ⟨k, hk, rfl, hbw, HA⟩ := hrel
        by_cases hlt : k < n
        · have d1 := Z1.out k hlt
          have d2 := Z2.out k hlt
          rw [← hbw.cells.1 _ _ hb1] at d1
          rw [← hbw.cells.1 _ _ hb2] at d2
          have HE := Lib.hid (show xs.getD k 0 = ys.getD k 0 → ∀ j, j < k + 1 → xs.getD j 0 = ys.getD j 0 from fun h j hj => by
            rcases Nat.lt_succ_iff_lt_or_eq.1 hj with h' | rfl
            · exact HA.out j h'
            · exact h)
          have HD := Lib.hid (list_ne_getD (xs := xs) (ys := ys) k)
          generalize xs.getD k 0 = p at d1 HE HD
          generalize ys.getD k 0 = q at d2 HE HD
          have e1 := fun p' : Ext wr => Ext.cell' d1 p'
          have e2 := fun p' : Ext wr => Ext.cell' d2 p'
          have hkn : (k : Int) < n := by omega
          by_cases hpq : p = q
          · subst hpq
            go_wp2
            (refine wp_region_quiet_ext (by kernel_rfl) (by kernel_rfl) ?_; (repeat (go_big_quiet_step ((fail)))); refine wpQuiet_nil ?_; rintro wq ⟨⟨_, hbq⟩, rfl⟩; obtain ⟨hccq, hffq⟩ := Bw.cells hbq; have hszq := Bw.size hbq)
            go_wp2
            go_roundw
            case rel => exact ⟨k + 1, by omega, by go_num, Bw.trans hbw hbq, HE.out (by simp)⟩
            case measure => simp [intOf]; omega
          · have hne : (p != q) = true := by simpa using hpq
            have hd : decide (xs = ys) = false := by simpa using HD.out hpq
            have HDD := Lib.hid hd; clear hd
            clear hpq
            go_wp2
            (refine wp_region_quiet_ext (by kernel_rfl) (by kernel_rfl) ?_; (repeat (go_big_quiet_step ((fail)))); refine wpQuiet_nil ?_; rintro wq ⟨⟨_, hbq⟩, rfl⟩; obtain ⟨hccq, hffq⟩ := Bw.cells hbq; have hszq := Bw.size hbq)
            go_wp2
            go_ret
            exact ⟨ret_bool HDD.out.symm, Bw.trans hbw hbq⟩
        · obtain rfl : k = n := by omega
          have hd : decide (xs = ys) = true := by simpa using list_eq_getD HL.out (fun i hi => HA.out i (by have := HN.out; omega))
          have HDD := Lib.hid hd; clear hd
          go_wp2
          go_ret
          exact ⟨ret_bool HDD.out.symm, hbw⟩
    · obtain rfl : xs = [] := List.length_eq_zero_iff.1 (by omega)
      obtain rfl : ys = [] := List.length_eq_zero_iff.1 (by simp at hl; omega)
      obtain ⟨a1, c1, rfl⟩ := h1.form
      obtain ⟨a2, c2, rfl⟩ := h2.form
      clear h1 h2
      go_enter Try.func35, Try.ntmps35
      go_wp2
      go_loopw [5] (fun i wr => i = .int .i64 0 ∧ Bw w wr) (fun i _ => 0)
      case atStart => exact ⟨rfl, (by repeat (first | exact Bw.refl _ | assumption | refine Bw.alloc ?_ _ | refine Bw.drew ?_ | refine Bw.trans ?_ (by assumption) | refine Bw.setCell ?_ (by simp; try omega) _))⟩
      case round =>
        obtain ⟨rfl, hbw⟩ := hrel
        go_wp2
        go_ret
        exact ⟨ret_bool (by simp), hbw⟩
  · obtain ⟨a1, c1, rfl⟩ := h1.form
    obtain ⟨a2, c2, rfl⟩ := h2.form
    clear h1 h2
    have hne : ((xs.length : Int) != ys.length) = true := by simp; omega
    have hd : decide (xs = ys) = false := by simp; intro e; exact hl (by rw [e])
    have HDD := Lib.hid hd; clear hd hl
    go_enter Try.func35, Try.ntmps35
    go_wp2
    go_ret
    exact ⟨ret_bool HDD.out.symm, (by repeat (first | exact Bw.refl _ | assumption | refine Bw.alloc ?_ _ | refine Bw.drew ?_ | refine Bw.trans ?_ (by assumption) | refine Bw.setCell ?_ (by simp; try omega) _))⟩
end Go.Proofs.Sky
