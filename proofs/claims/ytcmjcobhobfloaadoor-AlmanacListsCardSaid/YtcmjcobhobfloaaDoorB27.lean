/-
  lemmas for the theorems of this claim. No conditions beyond those written in the statements.
-/
import Derived.Test.YtcmjcobhobfloaaDoorKxC
import Derived.Test.YtcmjcobhobfloaaDoorU25b
import Derived.Test.YtcmjcobhobfloaaDoorA27
import Derived.Deep.Cut
set_option linter.unusedVariables false
set_option linter.unusedSimpArgs false
set_option linter.unnecessarySimpa false
namespace Go.Proofs.Sky
open Go Go.RowKit Go.Shelf
/-! plain: what Put writes Get reads -/
theorem lt_of_mul_near {r b u : Int} (hu : 1 ≤ u) (h : 2 * (r * u - b * u) ≤ u) : r ≤ b := by
  rcases Int.lt_or_le b r with h1 | h1
  · have h2 : (b + 1) * u ≤ r * u := Int.mul_le_mul_of_nonneg_right (by omega) (by omega)
    rw [Int.add_mul] at h2
    omega
  · exact h1
theorem rawN_exact (q u : Int) (hu : 1 ≤ u) : rawN (q * u) u = q := by
  obtain ⟨h1, h2⟩ := rawN_near (q * u) u hu
  have := lt_of_mul_near hu h1
  have := lt_of_mul_near hu h2
  omega
theorem rawN_range (d u lo hi : Int) (hu : 1 ≤ u) (h1 : lo * u ≤ d) (h2 : d ≤ hi * u) : lo ≤ rawN d u ∧ rawN d u ≤ hi := by
  obtain ⟨n1, n2⟩ := rawN_near d u hu
  constructor
  · exact lt_of_mul_near hu (by omega)
  · exact lt_of_mul_near hu (by omega)
theorem low_lt_high (n : Int) (g : Bool) (h1 : 1 ≤ n) : lowR n g + 1 ≤ highR n g := by
  unfold lowR highR
  have hp := pow_pred n h1
  have := pow_pos' (n.toNat - 1)
  cases g
  · simp; omega
  · simp; omega
theorem emod_step (y M : Int) (hM : 0 < M) : y % (2 * M) = 2 * (y / 2 % M) + y % 2 := by
  have h1 := Int.emod_add_mul_ediv y 2
  have h2 := Int.emod_add_mul_ediv (y / 2) M
  have h3 := Int.emod_nonneg (y / 2) (show M ≠ 0 by omega)
  have h4 := Int.emod_lt_of_pos (y / 2) hM
  have h5 := Int.emod_nonneg y (show (2 : Int) ≠ 0 by omega)
  have h6 := Int.emod_lt_of_pos y (show (0 : Int) < 2 by omega)
  have e : y = 2 * (y / 2 % M) + y % 2 + (2 * M) * (y / 2 / M) := by
    have : (2 * M) * (y / 2 / M) = 2 * (M * (y / 2 / M)) := by rw [Int.mul_assoc]
    omega
  generalize y / 2 % M = r at *
  generalize y % 2 = s at *
  rw [e, Int.add_mul_emod_self_left]
  exact Int.emod_eq_of_lt (by omega) (by omega)
theorem getN_put (zs : List Int) (A N : Nat) (x : Int) (h : A + N ≤ zs.length) : ∀ k, k ≤ N → getN (putL zs A N x N) A k = x / 2 ^ (N - k) % 2 ^ k := by
  intro k
  induction k with
  | zero => intro _; simp [getN]
  | succ k ih =>
    intro hk
    have hs : getN (putL zs A N x N) A (k + 1) = 2 * getN (putL zs A N x N) A k + (putL zs A N x N).getD (A + k) 0 := rfl
    rw [hs, ih (by omega), putL_get _ _ _ _ _ _ h, if_pos (by omega), show N - 1 - (A + k - A) = N - (k + 1) by omega]
    unfold bitN
    have e := bitN_step x (N - (k + 1))
    rw [show N - (k + 1) + 1 = N - k by omega] at e
    rw [← e, Int.pow_succ, Int.mul_comm (2 ^ k) 2, emod_step _ _ (pow_pos' k)]
theorem getN_put_all (zs : List Int) (A N : Nat) (x : Int) (h : A + N ≤ zs.length) : getN (putL zs A N x N) A N = x % 2 ^ N := by
  rw [getN_put zs A N x h N (Nat.le_refl _)]; simp
theorem sgnV_put (N : Nat) (g : Bool) (x : Int) (hN : 1 ≤ N) (h1 : lowR N g ≤ x) (h2 : x ≤ highR N g) : sgnV N g (x % 2 ^ N) = x := by
  unfold lowR at h1
  unfold highR at h2
  simp only [Int.toNat_natCast] at h1 h2
  have hp : (2 : Int) ^ N = 2 * 2 ^ (N - 1) := by have := pow_pred N (by omega); simpa using this
  have h0 := pow_pos' (N - 1)
  unfold sgnV sx
  rw [hp] at h2 ⊢
  generalize (2 : Int) ^ (N - 1) = P at *
  cases g
  · simp at h1 h2 ⊢
    exact Int.emod_eq_of_lt h1 (by omega)
  · simp at h1 h2 ⊢
    rcases Int.lt_or_le x 0 with hx | hx
    · have e : x % (2 * P) = x + 2 * P := by
        rw [← Int.add_emod_right]; exact Int.emod_eq_of_lt (by omega) (by omega)
      rw [e, if_pos (by omega)]; omega
    · have e : x % (2 * P) = x := Int.emod_eq_of_lt hx (by omega)
      rw [e, if_neg (by omega)]
theorem putL_twice (zs : List Int) (A N : Nat) (x : Int) (h : A + N ≤ zs.length) : putL (putL zs A N x N) A N x N = putL zs A N x N := by
  apply list_eq_getD (by rw [putL_length])
  intro i hi
  rw [putL_get _ _ _ _ _ _ (by rw [putL_length]; exact h)]
  by_cases hk : A ≤ i ∧ i < A + N
  · rw [if_pos hk, putL_get _ _ _ _ _ _ h, if_pos hk]
  · rw [if_neg hk]
/-- a field, bits that are all 0 or 1, and a value: what Put and Get do -/
theorem back_plain (zs : List Int) (A N : Nat) (g : Bool) (u c v : Int) (hf : fk A N u c) (hz : A + N ≤ zs.length) (hb : ∀ i, zs.getD i 0 = 0 ∨ zs.getD i 0 = 1) (hv : -2000000000000000000 ≤ v ∧ v ≤ 2000000000000000000) :
    (rawB N g u c v = false ∧ errP zs A N g u c v = 5 ∧ putR zs A N g u c v = [] ∧ (v < c + lowR N g * u ∨ c + highR N g * u < v)) ∨
    (∃ q out, errP zs A N g u c v = 0 ∧ putR zs A N g u c v = out ∧ out.length = zs.length ∧ (∀ i, ¬ (A ≤ i ∧ i < A + N) → out.getD i 0 = zs.getD i 0) ∧ errT out A N u c = 0 ∧ getV out A N g u c = c + q * u ∧ errP out A N g u c (c + q * u) = 0 ∧ putR out A N g u c (c + q * u) = out ∧
      lowR N g ≤ q ∧ q ≤ highR N g ∧ 2 * (c + q * u - v) ≤ u ∧ 2 * (v - (c + q * u)) ≤ u ∧ 2 * (c + lowR N g * u - v) ≤ u ∧ 2 * (v - (c + highR N g * u)) ≤ u) := by
  obtain ⟨f1, f2, f3, f4, f5, f6, f7, f8, f9⟩ := hf
  have hfk : fk A N u c := ⟨f1, f2, f3, f4, f5, f6, f7, f8, f9⟩
  have hT : errT zs A N u c = 0 := by
    unfold errT
    rw [if_pos (errF_ok hfk), if_neg (by omega), if_pos ((oksP_iff _ _ _).2 (fun i _ => hb _))]
  have hin := (inV_iff v).2 hv
  have hN : 1 ≤ N := by omega
  cases hB : rawB N g u c v with
  | false =>
    left
    have hB2 := hB
    rw [rawB_in hin, decide_eq_false_iff_not] at hB2
    have he : errP zs A N g u c v = 5 := by unfold errP; rw [if_pos hT, hB, if_neg (by simp)]
    refine ⟨rfl, he, by unfold putR; rw [he, if_neg (by omega)], ?_⟩
    rcases Int.lt_or_le v (c + lowR N g * u) with h | h
    · exact .inl h
    · rcases Int.lt_or_le (c + highR N g * u) v with h' | h'
      · exact .inr h'
      · exact absurd (rawN_range (v - c) u _ _ f6 (by omega) (by omega)) hB2
  | true =>
    right
    have hB2 := hB
    rw [rawB_in hin, decide_eq_true_iff] at hB2
    obtain ⟨q1, q2⟩ := hB2
    have ⟨n1, n2⟩ := rawN_near (v - c) u f6
    have he : errP zs A N g u c v = 0 := by unfold errP; rw [if_pos hT, hB, if_pos rfl]
    have hrV : rawV u c v = rawN (v - c) u := rawV_in hin
    have hput : putR zs A N g u c v = putL zs A N (rawN (v - c) u) N := by unfold putR; rw [if_pos he, hrV]; simp
    generalize rawN (v - c) u = q at *
    have hlen : (putL zs A N q N).length = zs.length := putL_length _ _ _ _ _
    have hbits : ∀ i, i < N → (putL zs A N q N).getD (A + i) 0 = 0 ∨ (putL zs A N q N).getD (A + i) 0 = 1 := fun i hi => by
      rw [putL_get _ _ _ _ _ _ hz, if_pos (by omega)]; exact bitN_01 _ _
    have hT2 : errT (putL zs A N q N) A N u c = 0 := by
      unfold errT
      rw [if_pos (errF_ok hfk), if_neg (by rw [hlen]; omega), if_pos ((oksP_iff _ _ _).2 (by simpa using hbits))]
    have hl := lowR_bd N g (by omega) (by omega)
    have hh := highR_bd N g (by omega) (by omega)
    have hmul := mul_bd q u (by omega) (by omega) f6 f7
    have hin2 : inV (c + q * u) = true := (inV_iff _).2 (by omega)
    have hraw : rawN (c + q * u - c) u = q := by rw [show c + q * u - c = q * u by omega]; exact rawN_exact q u f6
    have hB3 : rawB N g u c (c + q * u) = true := by rw [rawB_in hin2, hraw, decide_eq_true_iff]; exact ⟨q1, q2⟩
    have he2 : errP (putL zs A N q N) A N g u c (c + q * u) = 0 := by unfold errP; rw [if_pos hT2, hB3, if_pos rfl]
    have hput2 : putR (putL zs A N q N) A N g u c (c + q * u) = putL zs A N q N := by
      unfold putR; rw [if_pos he2, rawV_in hin2, hraw]; simp only [Int.toNat_natCast]; exact putL_twice zs A N q hz
    have hm1 : lowR N g * u ≤ q * u := Int.mul_le_mul_of_nonneg_right q1 (by omega)
    have hm2 : q * u ≤ highR N g * u := Int.mul_le_mul_of_nonneg_right q2 (by omega)
    refine ⟨q, _, he, hput, hlen, fun i hi => ?_, hT2, ?_, he2, hput2, q1, q2, by omega, by omega, by omega, by omega⟩
    · rw [putL_get _ _ _ _ _ _ hz, if_neg hi]
    · unfold getV
      rw [getN_put_all _ _ _ _ hz, sgnV_put N g q hN q1 q2]
end Go.Proofs.Sky

namespace Go.Proofs.Sky
/-! chapter 25, plain: the order of the fields -/
def fldV (p : Fd × Int) : Int := p.1.c + p.2 * p.1.u
def okP (e : Int) (p : Fd × Int) : Prop := fk p.1.a p.1.n p.1.u p.1.c ∧ p.1.a + p.1.n ≤ e ∧ lowR p.1.n p.1.g ≤ p.2 ∧ p.2 ≤ highR p.1.n p.1.g ∧ -1000000 ≤ p.1.c ∧ p.1.c ≤ 1000000
def disP (p p' : Fd × Int) : Prop := p.1.a + p.1.n ≤ p'.1.a ∨ p'.1.a + p'.1.n ≤ p.1.a
theorem lay_ok (b : Int) : ∀ (r pre : List Fd), (∀ f ∈ r, fk f.a f.n f.u f.c ∧ f.a + f.n ≤ b) → r.Pairwise (fun f h => f.a + f.n ≤ h.a ∨ h.a + h.n ≤ f.a) → (∀ f ∈ r, ∀ h ∈ pre, f.a + f.n ≤ h.a ∨ h.a + h.n ≤ f.a) → lay b pre r = (0, 0) := by
  intro r
  induction r with
  | nil => intro pre _ _ _; rfl
  | cons f r ih =>
    intro pre h1 h2 h3
    have hE : layE pre f b = 0 := by
      have := h1 f (by simp)
      unfold layE
      rw [errF_ok this.1, if_pos rfl, if_neg (by omega), if_neg]
      intro hd
      have hn : dbl pre f = false := dbl_no pre f (fun y hy => by
        unfold tk
        rw [List.any_eq_false]
        intro h hh
        have := h3 f (by simp) h hh
        simp only [decide_eq_true_iff]
        omega)
      rw [hn] at hd; cases hd
    rw [lay, if_pos hE]
    rw [List.pairwise_cons] at h2
    exact ih _ (fun g hg => h1 g (List.mem_cons_of_mem _ hg)) h2.2 (fun g hg h hh => by
      rcases List.mem_append.1 hh with hh | hh
      · exact h3 g (List.mem_cons_of_mem _ hg) h hh
      · rw [List.mem_singleton] at hh
        subst hh
        have := h2.1 g hg
        omega)
theorem layout_ok (b : Int) (ps : List (Fd × Int)) (h1 : ∀ p ∈ ps, okP b p) (h2 : ps.Pairwise disP) (h3 : ps.length ≤ 100) : layout (ps.map (·.1)) b = (0, 0) := by
  unfold layout
  rw [if_neg (by rw [List.length_map]; omega)]
  refine lay_ok b _ [] (fun f hf => ?_) ?_ (fun f _ h hh => by cases hh)
  · obtain ⟨p, hp, rfl⟩ := List.mem_map.1 hf
    exact ⟨(h1 p hp).1, (h1 p hp).2.1⟩
  · rw [List.pairwise_map]
    exact h2
def putF2 (zs : List Int) (p : Fd × Int) : List Int := putL zs p.1.a.toNat p.1.n.toNat p.2 p.1.n.toNat
theorem raw_ok (e : Int) (p : Fd × Int) (h : okP e p) : rawB p.1.n p.1.g p.1.u p.1.c (fldV p) = true ∧ rawV p.1.u p.1.c (fldV p) = p.2 := by
  obtain ⟨⟨f1, f2, f3, f4, f5, f6, f7, f8, f9⟩, g1, g2, g3, g4, g5⟩ := h
  have hl := lowR_bd p.1.n p.1.g f3 f4
  have hh := highR_bd p.1.n p.1.g f3 f4
  have hb := mul_bd p.2 p.1.u (by omega) (by omega) (by omega) (by omega)
  have hin : inV (fldV p) = true := (inV_iff _).2 (by unfold fldV; omega)
  have he : fldV p - p.1.c = p.2 * p.1.u := by unfold fldV; omega
  have hr : rawN (fldV p - p.1.c) p.1.u = p.2 := by rw [he]; exact rawN_exact _ _ f6
  refine ⟨?_, ?_⟩
  · unfold rawB; rw [hin, hr]; simp [g2, g3]
  · unfold rawV; rw [hin, hr]; rfl
theorem pk_ok (e : Int) : ∀ (ps : List (Fd × Int)) (i : Nat) (zs : List Int), (∀ p ∈ ps, okP e p) → pk i zs (ps.map (fun p => (p.1, fldV p))) = (ps.foldl putF2 zs, (0, 0)) := by
  intro ps
  induction ps with
  | nil => intro i zs _; rfl
  | cons p r ih =>
    intro i zs h
    have hr := raw_ok e p (h p (by simp))
    rw [List.map_cons, pk, if_pos hr.1, hr.2, ih _ _ (fun q hq => h q (List.mem_cons_of_mem _ hq)), List.foldl_cons]
    rfl
def cov (p : Fd × Int) (k : Nat) : Prop := p.1.a.toNat ≤ k ∧ k < p.1.a.toNat + p.1.n.toNat
theorem fold_get (e : Nat) : ∀ (ps : List (Fd × Int)) (zs : List Int), (∀ p ∈ ps, okP e p) → ps.Pairwise disP → e ≤ zs.length → (ps.foldl putF2 zs).length = zs.length ∧ (∀ p ∈ ps, ∀ k, cov p k → (ps.foldl putF2 zs).getD k 0 = bitN p.2 (p.1.n.toNat - 1 - (k - p.1.a.toNat))) ∧ (∀ k, (∀ p ∈ ps, ¬ cov p k) → (ps.foldl putF2 zs).getD k 0 = zs.getD k 0) := by
  intro ps
  induction ps with
  | nil => intro zs _ _ _; exact ⟨rfl, (fun p hp => by cases hp), fun _ _ => rfl⟩
  | cons p r ih =>
    intro zs h1 h2 h3
    have hp := h1 p (by simp)
    obtain ⟨⟨f1, f2, f3, f4, f5, f6⟩, g1, _⟩ := hp
    rw [List.pairwise_cons] at h2
    have hl : (putF2 zs p).length = zs.length := putL_length _ _ _ _ _
    obtain ⟨a1, a2, a3⟩ := ih (putF2 zs p) (fun q hq => h1 q (List.mem_cons_of_mem _ hq)) h2.2 (by rw [hl]; exact h3)
    have hg := fun k => putL_get zs p.1.a.toNat p.1.n.toNat p.2 p.1.n.toNat k (by omega)
    rw [List.foldl_cons]
    refine ⟨a1.trans hl, fun q hq k hk => ?_, fun k hk => ?_⟩
    · rcases List.mem_cons.1 hq with rfl | hq
      · rw [a3 k (fun q' hq' hc => ?_)]
        · unfold putF2; rw [hg k, if_pos (show _ ∧ _ from hk)]
        · have hd := h2.1 q' hq'
          have ho := h1 q' (List.mem_cons_of_mem _ hq')
          obtain ⟨⟨e1, e2, e3, e4, _⟩, _⟩ := ho
          unfold disP at hd
          unfold cov at hc hk
          omega
      · exact a2 q hq k hk
    · rw [a3 k (fun q hq => hk q (List.mem_cons_of_mem _ hq))]
      unfold putF2; rw [hg k, if_neg (show ¬ (_ ∧ _) from hk p (by simp))]
theorem dis_rev (ps : List (Fd × Int)) (h : ps.Pairwise disP) : ps.reverse.Pairwise disP := by
  rw [List.pairwise_reverse]
  exact h.imp (fun {a b} h => by unfold disP at *; omega)
theorem list_ext0 (l m : List Int) (hl : l.length = m.length) (h : ∀ i, i < l.length → l.getD i 0 = m.getD i 0) : l = m := by
  apply List.ext_getElem hl
  intro i h1 h2
  have := h i h1
  rw [List.getD_eq_getElem?_getD, List.getD_eq_getElem?_getD, List.getElem?_eq_getElem h1, List.getElem?_eq_getElem h2] at this
  exact this
theorem fold_rev (e : Nat) (ps : List (Fd × Int)) (zs : List Int) (h1 : ∀ p ∈ ps, okP e p) (h2 : ps.Pairwise disP) (h3 : e ≤ zs.length) : ps.reverse.foldl putF2 zs = ps.foldl putF2 zs := by
  obtain ⟨a1, a2, a3⟩ := fold_get e ps zs h1 h2 h3
  obtain ⟨b1, b2, b3⟩ := fold_get e ps.reverse zs (fun p hp => h1 p (List.mem_reverse.1 hp)) (dis_rev ps h2) h3
  refine list_ext0 _ _ (b1.trans a1.symm) (fun k _ => ?_)
  by_cases hc : ∃ p ∈ ps, cov p k
  · obtain ⟨p, hp, hc⟩ := hc
    rw [a2 p hp k hc, b2 p (List.mem_reverse.2 hp) k hc]
  · have hc' : ∀ p ∈ ps, ¬ cov p k := fun p hp h => hc ⟨p, hp, h⟩
    rw [a3 k hc', b3 k (fun p hp => hc' p (List.mem_reverse.1 hp))]
theorem getN_congr (zs ys : List Int) (a : Nat) : ∀ n, (∀ i, i < n → zs.getD (a + i) 0 = ys.getD (a + i) 0) → getN zs a n = getN ys a n := by
  intro n
  induction n with
  | zero => intro _; rfl
  | succ n ih =>
    intro h
    rw [getN, getN, ih (fun i hi => h i (by omega)), h n (by omega)]
theorem get_ok (e : Nat) (A : List Int) (p : Fd × Int) (hp : okP e p) (hl : e ≤ A.length) (h : ∀ k, cov p k → A.getD k 0 = bitN p.2 (p.1.n.toNat - 1 - (k - p.1.a.toNat))) : errT A p.1.a p.1.n p.1.u p.1.c = 0 ∧ getR A p.1.a p.1.n p.1.g p.1.u p.1.c = fldV p := by
  obtain ⟨hf, g1, g2, g3, _⟩ := hp
  have hf' := hf
  obtain ⟨f1, f2, f3, f4, f5, f6⟩ := hf'
  have hE : errT A p.1.a p.1.n p.1.u p.1.c = 0 := by
    unfold errT
    rw [errF_ok hf, if_pos rfl, if_neg (by omega), if_pos ((oksP_iff _ _ _).2 (fun i hi => by
      rw [h _ ⟨by omega, by omega⟩]; exact bitN_01 _ _))]
  refine ⟨hE, ?_⟩
  unfold getR
  rw [if_pos hE]
  unfold getV fldV
  have h1 : getN A p.1.a.toNat p.1.n.toNat = p.2 % 2 ^ p.1.n.toNat := by
    rw [← getN_put_all A p.1.a.toNat p.1.n.toNat p.2 (by omega)]
    refine getN_congr _ _ _ _ (fun i hi => ?_)
    rw [putL_get A _ _ _ _ _ (by omega), if_pos ⟨by omega, by omega⟩, h _ ⟨by omega, by omega⟩]
  have h2 := sgnV_put p.1.n.toNat p.1.g p.2 (by omega) (by rw [Int.toNat_of_nonneg (by omega)]; exact g2) (by rw [Int.toNat_of_nonneg (by omega)]; exact g3)
  rw [h1, h2]
theorem unR_ok (A : List Int) : ∀ (ps : List (Fd × Int)) (i : Nat) (out : List Int), (∀ p ∈ ps, errT A p.1.a p.1.n p.1.u p.1.c = 0 ∧ getR A p.1.a p.1.n p.1.g p.1.u p.1.c = fldV p) → unR i A out (ps.map (·.1)) = (out ++ ps.map fldV, (0, 0)) := by
  intro ps
  induction ps with
  | nil => intro i out _; simp [unR]
  | cons p r ih =>
    intro i out h
    have hp := h p (by simp)
    rw [List.map_cons, unR, if_pos hp.1, hp.2, ih _ _ (fun q hq => h q (List.mem_cons_of_mem _ hq)), List.map_cons, List.append_assoc]
    rfl
theorem zip_map2 {α β γ : Type} (l : List α) (f : α → β) (g : α → γ) : (l.map f).zip (l.map g) = l.map (fun a => (f a, g a)) := by
  induction l with
  | nil => rfl
  | cons a l ih => simp [ih]
theorem pack_plain (e : Nat) (ps : List (Fd × Int)) (h1 : ∀ p ∈ ps, okP e p) (h2 : ps.Pairwise disP) (h3 : ps.length ≤ 100) (he : e ≤ 3000) : packR ((e : Int) + 2) (ps.map (·.1)) (ps.map fldV) = (ps.foldl putF2 (List.replicate (e + 2) 0), (0, 0)) := by
  have hok : ∀ p ∈ ps, okP ((e : Int) + 2) p := fun p hp => by
    obtain ⟨a1, a2, a3⟩ := h1 p hp
    exact ⟨a1, by omega, a3⟩
  unfold packR
  rw [if_neg (by omega), layout_ok _ ps hok h2 h3, if_pos rfl, if_pos (by simp), zip_map2, pk_ok e ps 0 _ h1]
  rw [show ((e : Int) + 2).toNat = e + 2 by omega]
theorem orders_plain (e : Nat) (ps : List (Fd × Int)) (h1 : ∀ p ∈ ps, okP e p) (h2 : ps.Pairwise disP) (h3 : ps.length ≤ 100) (he : e ≤ 3000) :
    ∃ A : List Int, A.length = e + 2 ∧ packR ((e : Int) + 2) (ps.map (·.1)) (ps.map fldV) = (A, (0, 0)) ∧ packR ((e : Int) + 2) (ps.reverse.map (·.1)) (ps.reverse.map fldV) = (A, (0, 0)) ∧ unpackR (ps.map (·.1)) A = (ps.map fldV, (0, 0)) ∧
      (∀ p ∈ ps, errT A p.1.a p.1.n p.1.u p.1.c = 0 ∧ getR A p.1.a p.1.n p.1.g p.1.u p.1.c = fldV p) ∧ (∀ k, (∀ p ∈ ps, ¬ cov p k) → A.getD k 0 = 0) := by
  obtain ⟨a1, a2, a3⟩ := fold_get e ps (List.replicate (e + 2) 0) h1 h2 (by simp)
  have hlen : (ps.foldl putF2 (List.replicate (e + 2) 0)).length = e + 2 := by rw [a1]; simp
  have hg : ∀ p ∈ ps, errT (ps.foldl putF2 (List.replicate (e + 2) 0)) p.1.a p.1.n p.1.u p.1.c = 0 ∧ getR (ps.foldl putF2 (List.replicate (e + 2) 0)) p.1.a p.1.n p.1.g p.1.u p.1.c = fldV p := fun p hp => get_ok e _ p (h1 p hp) (by rw [hlen]; omega) (a2 p hp)
  refine ⟨_, hlen, pack_plain e ps h1 h2 h3 he, ?_, ?_, hg, fun k hk => ?_⟩
  · rw [pack_plain e ps.reverse (fun p hp => h1 p (List.mem_reverse.1 hp)) (dis_rev ps h2) (by rw [List.length_reverse]; exact h3) he, fold_rev e ps _ h1 h2 (by simp)]
  · unfold unpackR
    rw [hlen, layout_ok ((e + 2 : Nat) : Int) ps (fun p hp => by obtain ⟨b1, b2, b3⟩ := h1 p hp; exact ⟨b1, by omega, b3⟩) h2 h3, if_pos rfl, unR_ok _ ps 0 [] hg, List.nil_append]
  · rw [a3 k hk, List.getD_eq_getElem?_getD, List.getElem?_replicate]
    split <;> rfl
end Go.Proofs.Sky

namespace Go.Proofs.Sky
open Go Go.RowKit Go.Shelf
set_option maxHeartbeats 2000000
set_option maxRecDepth 4000
/-! chapter 27, plain: a page's frame -/
def atN (i : Nat) : Nat := [0, 6, 26, 42, 62, 82, 96, 108, 128, 142, 154, 174, 188].getD i 0
def nN (i : Nat) : Nat := [6, 20, 16, 20, 20, 14, 12, 20, 14, 12, 20, 14, 12].getD i 0
theorem fdS_eq : ∀ i, i < 13 → atS PGL i = (atN i : Int) ∧ (PGL.getD i (0, false, 0)).1 = (nN i : Int) ∧ (PGL.getD i (0, false, 0)).2.1 = decide (3 < i) := by decide
theorem fdS_at {i : Nat} (hi : i < 13) : fdS PGL i = ⟨(atN i : Int), (nN i : Int), decide (3 < i), 1, 0⟩ := by
  unfold fdS
  obtain ⟨h1, h2, h3⟩ := fdS_eq i hi
  rw [h1, h2, h3]
theorem nN_bd : ∀ i, i < 13 → 1 ≤ nN i ∧ nN i ≤ 20 ∧ atN i + nN i ≤ 200 := by decide
theorem atN_step : ∀ i, i < 13 → atN i + nN i = if i = 12 then 200 else atN (i + 1) := by decide
def ps27 (x : Nat → Int) : List (Fd × Int) := (List.range 13).map fun i => (fdS PGL i, x i)
theorem fs27_eq (x : Nat → Int) : (ps27 x).map (·.1) = fdsS PGL := by
  unfold ps27
  rw [List.map_map]
  rfl
theorem vs27_eq (x : Nat → Int) : (ps27 x).map fldV = (List.range 13).map x := by
  unfold ps27
  rw [List.map_map]
  refine List.map_congr_left (fun i _ => ?_)
  show (0 : Int) + x i * 1 = x i
  omega
theorem errPg_all {x : Nat → Int} (h : errPg x = 0) : ∀ i, i < 13 → lowR (nN i) (decide (3 < i)) ≤ x i ∧ x i ≤ highR (nN i) (decide (3 < i)) := by
  intro i hi
  have h1 : inPg x = true := by
    unfold errPg at h
    split at h
    · next q => exact q.1
    · omega
  have h2 := List.all_eq_true.1 h1 _ (getD_mem PGL i (0, false, 0) hi)
  have h3 := of_decide_eq_true h2
  obtain ⟨_, e2, e3⟩ := fdS_eq i hi
  rw [pgIx i hi, e2, e3] at h3
  exact h3
theorem ps27_ok {x : Nat → Int} (h : errPg x = 0) : ∀ p ∈ ps27 x, okP 204 p := by
  intro p hp
  obtain ⟨i, hi, rfl⟩ := List.mem_map.1 hp
  have hi9 := List.mem_range.1 hi
  have h1 := errPg_all h i hi9
  have h2 := nN_bd i hi9
  rw [fdS_at hi9]
  unfold okP fk
  dsimp only
  refine ⟨by omega, by omega, h1.1, h1.2, by decide, by decide⟩
theorem at_mono : ∀ i, i < 13 → ∀ j, j < 13 → i < j → atN i + nN i ≤ atN j := by decide
theorem ps27_dis (x : Nat → Int) : (ps27 x).Pairwise disP := by
  unfold ps27
  rw [List.pairwise_map]
  have h : (List.range 13).Pairwise (· < ·) := List.pairwise_lt_range
  refine List.Pairwise.imp_of_mem (fun {a b} ha hb hab => ?_) h
  have ha9 := List.mem_range.1 ha
  have hb9 := List.mem_range.1 hb
  left
  rw [fdS_at ha9, fdS_at hb9]
  show (atN a : Int) + (nN a : Int) ≤ (atN b : Int)
  have := at_mono a ha9 b hb9 hab
  omega
def FrQ (x : Nat → Int) : List Int := (packR 206 (fdsS PGL) ((List.range 13).map x)).1
theorem packed27 {x : Nat → Int} (h : errPg x = 0) : (FrQ x).length = 206 ∧ unpackR (fdsS PGL) (FrQ x) = ((List.range 13).map x, (0, 0)) ∧ (∀ p, 200 ≤ p → p < 206 → (FrQ x).getD p 0 = 0) ∧
    ∀ i, i < 13 → ∀ j, j < nN i → (FrQ x).getD (atN i + j) 0 = bitN (x i) (nN i - 1 - j) := by
  obtain ⟨e, he⟩ : ∃ e : Nat, e = 204 := ⟨_, rfl⟩
  have hok : ∀ p ∈ ps27 x, okP e p := by rw [he]; exact ps27_ok h
  have hp := pack_plain e (ps27 x) hok (ps27_dis x) (by simp [ps27]) (by omega)
  obtain ⟨A, a1, a2, _, a4, _, a6⟩ := orders_plain e (ps27 x) hok (ps27_dis x) (by simp [ps27]) (by omega)
  obtain ⟨b1, b2, b3⟩ := fold_get e (ps27 x) (List.replicate (e + 2) 0) hok (ps27_dis x) (by simp)
  have e206 : (e : Int) + 2 = 206 := by omega
  rw [fs27_eq, vs27_eq, e206] at hp a2
  rw [fs27_eq, vs27_eq] at a4
  have eF : A = (ps27 x).foldl putF2 (List.replicate (e + 2) 0) := by
    rw [a2] at hp
    exact (Prod.mk.inj hp).1
  have a1' : A.length = 206 := by omega
  have eA : FrQ x = A := by unfold FrQ; rw [a2]
  rw [eA]
  refine ⟨a1', a4, ?_, ?_⟩
  · intro p hp1 hp2
    exact a6 p (fun q hq => by
      obtain ⟨i, hi, rfl⟩ := List.mem_map.1 hq
      have hi9 := List.mem_range.1 hi
      have h9 := nN_bd i hi9
      rw [fdS_at hi9]
      unfold cov
      dsimp only
      omega)
  · intro i hi j hj
    rw [eF]
    have h9 := b2 (fdS PGL i, x i) (List.mem_map.2 ⟨i, List.mem_range.2 hi, rfl⟩) (atN i + j) (by
      rw [fdS_at hi]
      unfold cov
      dsimp only
      omega)
    rw [fdS_at hi] at h9
    dsimp only at h9
    rw [h9, show (((nN i : Nat) : Int)).toNat - 1 - (atN i + j - (((atN i : Nat) : Int)).toNat) = nN i - 1 - j by omega]
theorem take_next (L : List Int) (p : Nat) (h : p < L.length) : L.take (p + 1) = L.take p ++ [L.getD p 0] := by
  rw [List.take_add_one, List.getElem?_eq_getElem h, List.getD_eq_getElem?_getD, List.getElem?_eq_getElem h]
  rfl
end Go.Proofs.Sky

namespace Go.Proofs.Sky
open Go Go.RowKit Go.Shelf
set_option maxHeartbeats 4000000
set_option maxRecDepth 8000
/-! chapter 27: the reference's numbers, Frame -/
def NumQ (x : Nat → Int) (e : Ending) (w' : World) : Prop := ∃ b1 o1 c1 b2 o2 c2, e = .returned (.tuple #[.slice (some ⟨b1, o1, none⟩) 13 c1, .slice (some ⟨b2, o2, none⟩) 13 c2]) ∧ (∀ i, i < 13 → w'.cell? ⟨b1, o1 + i, none⟩ = some (.int .i64 (x i))) ∧ (∀ i, i < 13 → w'.cell? ⟨b2, o2 + i, none⟩ = some (.int .i64 (nN i : Int)))
theorem rnumbers27_any (x : Nat → Int) (w : World) : Calls Tryd.prog 44 #[.agg (pgV x)] w fun e w' => NumQ x e w' ∧ Bw w w' := by
  have KX := Lib.hid (Blk.new w 27 (pgV x))
  have HW := Lib.hid (Bw.alloc (Bw.refl w) (.cells (pgV x) 27))
  have HAT := Lib.hid (fun k (h : k < 13) => pgV_at x k h)
  obtain ⟨A, hA⟩ : ∃ A, A = pgV x := ⟨_, rfl⟩
  rw [← hA] at KX HW HAT ⊢
  clear hA
  obtain ⟨g, hg⟩ : ∃ g, w.heap.size = g := ⟨_, rfl⟩
  rw [hg] at KX
  go_enter Tryd.func44, Tryd.ntmps44
  go_upto_region 1 with fail
  obtain ⟨W0, hW0⟩ : ∃ W0, w.alloc (.cells A 27) = W0 := ⟨_, rfl⟩
  rw [hW0] at KX HW ⊢
  clear hW0 hg
  have k0 : W0.cell? ⟨g, 0, none⟩ = some (.int .i64 (x 0)) := KX.out.cell (HAT.out 0 (by omega))
  have k1 : W0.cell? ⟨g, 1, none⟩ = some (.int .i64 (x 1)) := KX.out.cell (HAT.out 1 (by omega))
  have k2 : W0.cell? ⟨g, 2, none⟩ = some (.int .i64 (x 2)) := KX.out.cell (HAT.out 2 (by omega))
  have k3 : W0.cell? ⟨g, 3, none⟩ = some (.int .i64 (x 3)) := KX.out.cell (HAT.out 3 (by omega))
  have k4 : W0.cell? ⟨g, 4, none⟩ = some (.int .i64 (x 4)) := KX.out.cell (HAT.out 4 (by omega))
  have k5 : W0.cell? ⟨g, 5, none⟩ = some (.int .i64 (x 5)) := KX.out.cell (HAT.out 5 (by omega))
  have k6 : W0.cell? ⟨g, 6, none⟩ = some (.int .i64 (x 6)) := KX.out.cell (HAT.out 6 (by omega))
  have k7 : W0.cell? ⟨g, 7, none⟩ = some (.int .i64 (x 7)) := KX.out.cell (HAT.out 7 (by omega))
  have k8 : W0.cell? ⟨g, 8, none⟩ = some (.int .i64 (x 8)) := KX.out.cell (HAT.out 8 (by omega))
  have k9 : W0.cell? ⟨g, 9, none⟩ = some (.int .i64 (x 9)) := KX.out.cell (HAT.out 9 (by omega))
  have k10 : W0.cell? ⟨g, 10, none⟩ = some (.int .i64 (x 10)) := KX.out.cell (HAT.out 10 (by omega))
  have k11 : W0.cell? ⟨g, 11, none⟩ = some (.int .i64 (x 11)) := KX.out.cell (HAT.out 11 (by omega))
  have k12 : W0.cell? ⟨g, 12, none⟩ = some (.int .i64 (x 12)) := KX.out.cell (HAT.out 12 (by omega))
  go_wp2
  have N1 := (Blk.new W0 3 #[.int .i64 (x 0), .int .i64 (x 1), .int .i64 (x 2), .int .i64 (x 3), .int .i64 (x 4), .int .i64 (x 5), .int .i64 (x 6), .int .i64 (x 7), .int .i64 (x 8), .int .i64 (x 9), .int .i64 (x 10), .int .i64 (x 11), .int .i64 (x 12)]).alloc (.cells #[.int .i64 6, .int .i64 20, .int .i64 16, .int .i64 20, .int .i64 20, .int .i64 14, .int .i64 12, .int .i64 20, .int .i64 14, .int .i64 12, .int .i64 20, .int .i64 14, .int .i64 12] 3)
  have N2 := Blk.new (W0.alloc (.cells #[.int .i64 (x 0), .int .i64 (x 1), .int .i64 (x 2), .int .i64 (x 3), .int .i64 (x 4), .int .i64 (x 5), .int .i64 (x 6), .int .i64 (x 7), .int .i64 (x 8), .int .i64 (x 9), .int .i64 (x 10), .int .i64 (x 11), .int .i64 (x 12)] 3)) 3 #[.int .i64 6, .int .i64 20, .int .i64 16, .int .i64 20, .int .i64 20, .int .i64 14, .int .i64 12, .int .i64 20, .int .i64 14, .int .i64 12, .int .i64 20, .int .i64 14, .int .i64 12]
  refine bodyPost_ret (v := .tuple #[.slice (some ⟨W0.heap.size, 0, none⟩) 13 13, .slice (some ⟨(W0.alloc (.cells #[.int .i64 (x 0), .int .i64 (x 1), .int .i64 (x 2), .int .i64 (x 3), .int .i64 (x 4), .int .i64 (x 5), .int .i64 (x 6), .int .i64 (x 7), .int .i64 (x 8), .int .i64 (x 9), .int .i64 (x 10), .int .i64 (x 11), .int .i64 (x 12)] 3)).heap.size, 0, none⟩) 13 13]) ?_ rfl ⟨⟨_, _, _, _, _, _, rfl, fun i hi => ?_, fun i hi => ?_⟩, (HW.out.alloc _).alloc _⟩
  · simp [results, Tryd.results44, go_sem]
  · rw [Nat.zero_add]
    exact N1.cell (pgV_at x i hi)
  · rw [Nat.zero_add]
    refine N2.cell ?_
    match i, hi with
    | 0, _ => rfl
    | 1, _ => rfl
    | 2, _ => rfl
    | 3, _ => rfl
    | 4, _ => rfl
    | 5, _ => rfl
    | 6, _ => rfl
    | 7, _ => rfl
    | 8, _ => rfl
    | 9, _ => rfl
    | 10, _ => rfl
    | 11, _ => rfl
    | 12, _ => rfl
theorem RFrame27_bad (x : Nat → Int) (tow : Int) (w : World) (h : errPg x ≠ 0) :
    Calls Tryd.prog 17 #[.agg (pgV x), .int .i64 tow] w fun e w' => FrP w.heap.size 0 0 [] (errPg x) e w' ∧ Bw w w' := by
  have CK := Lib.hid (fun W => rPgCheck_any x W)
  have HBW := Lib.hid (Bw.alloc (Bw.alloc (Bw.refl w) (.cells (pgV x) 27)) (.cells #[.int .i64 0, .int .i64 0, .slice none 0 0] 40))
  have KX := Lib.hid ((Blk.new w 27 (pgV x)).alloc (.cells #[.int .i64 0, .int .i64 0, .slice none 0 0] 40))
  have FX : Hid (Blk ((w.alloc (.cells (pgV x) 27)).alloc (.cells #[.int .i64 0, .int .i64 0, .slice none 0 0] 40)) (w.heap.size + 1) 40 #[.int .i64 0, .int .i64 0, .slice none 0 0]) := Lib.hid (by have h9 := Blk.new (w.alloc (.cells (pgV x) 27)) 40 #[.int .i64 0, .int .i64 0, .slice none 0 0]; simp only [World.size_alloc] at h9; exact h9)
  have HSZ : Hid ((Tryd.prog.info? 27).map (·.size) = some (pgV x).size) := Lib.hid (by kernel_rfl)
  have HN := Lib.hid h
  clear h
  generalize errPg x = er at *
  obtain ⟨A, hA⟩ : ∃ A, A = pgV x := ⟨_, rfl⟩
  rw [← hA] at CK HBW KX FX HSZ ⊢
  clear hA
  obtain ⟨g, hg⟩ : ∃ g, w.heap.size = g := ⟨_, rfl⟩
  rw [hg] at KX FX
  have HG := Lib.hid hg
  go_enter Tryd.func17, Tryd.ntmps17
  go_upto_region 1 with fail
  obtain ⟨W0, hW0⟩ : ∃ W0, (w.alloc (.cells A 27)).alloc (.cells #[.int .i64 0, .int .i64 0, .slice none 0 0] 40) = W0 := ⟨_, rfl⟩
  rw [hW0] at HBW KX FX ⊢
  clear hW0 hg
  go_upto_region 2 with (first | ((with_reducible refine at_load 27 (.tmp 2) ?_); refine wpList_load_row rfl 27 _ rfl g rfl 27 A (0, 0) _ KX.out Tryd.underlying27 rfl HSZ.out ?_) | (go_at_call 23; (with_reducible refine Calls.mono (CK.out _) ?_); rintro e1 w1 ⟨rfl, hb1⟩; replace KX := Lib.hid (KX.out.bw hb1); replace FX := Lib.hid (FX.out.bw hb1); replace HBW := Lib.hid (HBW.out.trans hb1); clear hb1))
  have c1z : (er != 0) = true := by simpa using HN.out
  go_wp2_with ((with_reducible refine at_store 40 (.tmp 4) (.tmp 16) ?_); refine wpList_store_row rfl 40 (.tmp 4) (.tmp 16) rfl (g + 1) #[.int .i64 0, .int .i64 0, .slice none 0 0] rfl rfl 40 _ FX.out (by kernel_rfl) rfl (by simp [Value.oneCell']) ?_)
  have F9 := FX.out.row #[.int .i64 0, .int .i64 0, .slice none 0 0]
  have B9 := Bw.setRow HBW.out (show w.heap.size ≤ g + 1 by have := HG.out; omega) #[.int .i64 0, .int .i64 0, .slice none 0 0]
  refine bodyPost_ret (v := .tuple #[.agg #[.int .i64 0, .int .i64 0, .slice none 0 0], .int .i64 er]) ?_ rfl ⟨frP_nil _ _ _, B9⟩
  exact results_two_row (p := 4) (u := 5) rfl _ _ (g + 1) _ rfl (run_loadVar_row _ (g + 1) 40 40 #[.int .i64 0, .int .i64 0, .slice none 0 0] (0, 0) _ F9 Tryd.underlying40 rfl (by kernel_rfl))
theorem RFrame27_range (x : Nat → Int) (tow : Int) (w : World) (h : errPg x = 0) (hr : tow < 0 ∨ 131072 ≤ tow) :
    Calls Tryd.prog 17 #[.agg (pgV x), .int .i64 tow] w fun e w' => FrP w.heap.size 0 0 [] 2 e w' ∧ Bw w w' := by
  have CK := Lib.hid (fun W => rPgCheck_any x W)
  have HBW := Lib.hid (Bw.alloc (Bw.alloc (Bw.refl w) (.cells (pgV x) 27)) (.cells #[.int .i64 0, .int .i64 0, .slice none 0 0] 40))
  have KX := Lib.hid ((Blk.new w 27 (pgV x)).alloc (.cells #[.int .i64 0, .int .i64 0, .slice none 0 0] 40))
  have FX : Hid (Blk ((w.alloc (.cells (pgV x) 27)).alloc (.cells #[.int .i64 0, .int .i64 0, .slice none 0 0] 40)) (w.heap.size + 1) 40 #[.int .i64 0, .int .i64 0, .slice none 0 0]) := Lib.hid (by have h9 := Blk.new (w.alloc (.cells (pgV x) 27)) 40 #[.int .i64 0, .int .i64 0, .slice none 0 0]; simp only [World.size_alloc] at h9; exact h9)
  have HSZ : Hid ((Tryd.prog.info? 27).map (·.size) = some (pgV x).size) := Lib.hid (by kernel_rfl)
  rw [h] at CK
  have HR := Lib.hid hr
  clear h hr
  obtain ⟨A, hA⟩ : ∃ A, A = pgV x := ⟨_, rfl⟩
  rw [← hA] at CK HBW KX FX HSZ ⊢
  clear hA
  obtain ⟨g, hg⟩ : ∃ g, w.heap.size = g := ⟨_, rfl⟩
  rw [hg] at KX FX
  have HG := Lib.hid hg
  go_enter Tryd.func17, Tryd.ntmps17
  go_upto_region 1 with fail
  obtain ⟨W0, hW0⟩ : ∃ W0, (w.alloc (.cells A 27)).alloc (.cells #[.int .i64 0, .int .i64 0, .slice none 0 0] 40) = W0 := ⟨_, rfl⟩
  rw [hW0] at HBW KX FX ⊢
  clear hW0 hg
  go_upto_region 2 with (first | ((with_reducible refine at_load 27 (.tmp 2) ?_); refine wpList_load_row rfl 27 _ rfl g rfl 27 A (0, 0) _ KX.out Tryd.underlying27 rfl HSZ.out ?_) | (go_at_call 23; (with_reducible refine Calls.mono (CK.out _) ?_); rintro e1 w1 ⟨rfl, hb1⟩; replace KX := Lib.hid (KX.out.bw hb1); replace FX := Lib.hid (FX.out.bw hb1); replace HBW := Lib.hid (HBW.out.trans hb1); clear hb1))
  rcases HR.out with q1 | q2
  · go_wp2_with ((with_reducible refine at_store 40 (.tmp 4) (.tmp 24) ?_); refine wpList_store_row rfl 40 (.tmp 4) (.tmp 24) rfl (g + 1) #[.int .i64 0, .int .i64 0, .slice none 0 0] rfl rfl 40 _ FX.out (by kernel_rfl) rfl (by simp [Value.oneCell']) ?_)
    have F9 := FX.out.row #[.int .i64 0, .int .i64 0, .slice none 0 0]
    have B9 := Bw.setRow HBW.out (show w.heap.size ≤ g + 1 by have := HG.out; omega) #[.int .i64 0, .int .i64 0, .slice none 0 0]
    refine bodyPost_ret (v := .tuple #[.agg #[.int .i64 0, .int .i64 0, .slice none 0 0], .int .i64 2]) ?_ rfl ⟨frP_nil _ _ _, B9⟩
    exact results_two_row (p := 4) (u := 5) rfl _ _ (g + 1) _ rfl (run_loadVar_row _ (g + 1) 40 40 #[.int .i64 0, .int .i64 0, .slice none 0 0] (0, 0) _ F9 Tryd.underlying40 rfl (by kernel_rfl))
  · have q1 : ¬ tow < 0 := by omega
    have q3 : 131071 < tow := by omega
    go_wp2_with ((with_reducible refine at_store 40 (.tmp 4) (.tmp 24) ?_); refine wpList_store_row rfl 40 (.tmp 4) (.tmp 24) rfl (g + 1) #[.int .i64 0, .int .i64 0, .slice none 0 0] rfl rfl 40 _ FX.out (by kernel_rfl) rfl (by simp [Value.oneCell']) ?_)
    have F9 := FX.out.row #[.int .i64 0, .int .i64 0, .slice none 0 0]
    have B9 := Bw.setRow HBW.out (show w.heap.size ≤ g + 1 by have := HG.out; omega) #[.int .i64 0, .int .i64 0, .slice none 0 0]
    refine bodyPost_ret (v := .tuple #[.agg #[.int .i64 0, .int .i64 0, .slice none 0 0], .int .i64 2]) ?_ rfl ⟨frP_nil _ _ _, B9⟩
    exact results_two_row (p := 4) (u := 5) rfl _ _ (g + 1) _ rfl (run_loadVar_row _ (g + 1) 40 40 #[.int .i64 0, .int .i64 0, .slice none 0 0] (0, 0) _ F9 Tryd.underlying40 rfl (by kernel_rfl))
theorem RFrame27_ok (x : Nat → Int) (tow : Int) (w : World) (h : errPg x = 0) (hr : 0 ≤ tow ∧ tow < 131072) :
    Calls Tryd.prog 17 #[.agg (pgV x), .int .i64 tow] w fun e w' => FrP w.heap.size tow 4 (FrQ x) 0 e w' ∧ Bw w w' := by
  have CK := Lib.hid (fun W => rPgCheck_any x W)
  have HBW := Lib.hid (Bw.alloc (Bw.alloc (Bw.refl w) (.cells (pgV x) 27)) (.cells #[.int .i64 0, .int .i64 0, .slice none 0 0] 40))
  have KX := Lib.hid ((Blk.new w 27 (pgV x)).alloc (.cells #[.int .i64 0, .int .i64 0, .slice none 0 0] 40))
  have FX : Hid (Blk ((w.alloc (.cells (pgV x) 27)).alloc (.cells #[.int .i64 0, .int .i64 0, .slice none 0 0] 40)) (w.heap.size + 1) 40 #[.int .i64 0, .int .i64 0, .slice none 0 0]) := Lib.hid (by have h9 := Blk.new (w.alloc (.cells (pgV x) 27)) 40 #[.int .i64 0, .int .i64 0, .slice none 0 0]; simp only [World.size_alloc] at h9; exact h9)
  have HSZ : Hid ((Tryd.prog.info? 27).map (·.size) = some (pgV x).size) := Lib.hid (by kernel_rfl)
  rw [h] at CK
  have NM := Lib.hid (fun W => rnumbers27_any x W)
  unfold NumQ at NM
  obtain ⟨p1, _, p3, p4⟩ := packed27 h
  have HL := Lib.hid p1
  have HGB := Lib.hid p4
  have HZ := Lib.hid p3
  have HTN := Lib.hid (fun p => take_next (FrQ x) p)
  have HTA := Lib.hid (show (FrQ x).take 206 = FrQ x by rw [← p1]; exact List.take_length)
  have HLT := Lib.hid (show ∀ p, p ≤ 206 → ((FrQ x).take p).length = p from fun p hp => by rw [List.length_take]; omega)
  have HAN := Lib.hid atN_step
  have HNB := Lib.hid nN_bd
  obtain ⟨AT, hAT⟩ : ∃ AT : Nat → Nat, AT = fun i => if i = 13 then 200 else atN i := ⟨_, rfl⟩
  have HA0 := Lib.hid (show AT 0 = 0 from by rw [hAT]; rfl)
  have HA13 := Lib.hid (show AT 13 = 200 from by rw [hAT]; rfl)
  have HAI := Lib.hid (show ∀ i, i < 13 → AT i = atN i ∧ AT (i + 1) = atN i + nN i from fun i hi => by
    rw [hAT]
    dsimp only
    rw [if_neg (by omega), atN_step i hi]
    refine ⟨rfl, ?_⟩
    by_cases h12 : i = 12
    · rw [if_pos (by omega), if_pos h12]
    · rw [if_neg (by omega), if_neg h12])
  have q1 : ¬ tow < 0 := by omega
  have q2 : ¬ 131071 < tow := by omega
  clear p1 p3 p4 h hr hAT
  generalize FrQ x = L at *
  obtain ⟨A, hA⟩ : ∃ A, A = pgV x := ⟨_, rfl⟩
  rw [← hA] at CK HBW KX FX HSZ NM ⊢
  clear hA
  obtain ⟨g, hg⟩ : ∃ g, w.heap.size = g := ⟨_, rfl⟩
  rw [hg] at KX FX
  have HG := Lib.hid hg
  go_enter Tryd.func17, Tryd.ntmps17
  go_upto_region 1 with fail
  obtain ⟨W0, hW0⟩ : ∃ W0, (w.alloc (.cells A 27)).alloc (.cells #[.int .i64 0, .int .i64 0, .slice none 0 0] 40) = W0 := ⟨_, rfl⟩
  rw [hW0] at HBW KX FX ⊢
  clear hW0 hg
  go_upto_region 2 with (first | ((with_reducible refine at_load 27 (.tmp 2) ?_); refine wpList_load_row rfl 27 _ rfl g rfl 27 A (0, 0) _ KX.out Tryd.underlying27 rfl HSZ.out ?_) | (go_at_call 23; (with_reducible refine Calls.mono (CK.out _) ?_); rintro e1 w1 ⟨rfl, hb1⟩; replace KX := Lib.hid (KX.out.bw hb1); replace FX := Lib.hid (FX.out.bw hb1); replace HBW := Lib.hid (HBW.out.trans hb1); clear hb1))
  go_upto_region 7 with (first | ((with_reducible refine at_load 27 (.tmp 2) ?_); refine wpList_load_row rfl 27 _ rfl g rfl 27 A (0, 0) _ KX.out Tryd.underlying27 rfl HSZ.out ?_) | (go_at_call 44; (with_reducible refine Calls.mono (NM.out _) ?_); rintro e1 w3 ⟨⟨b1, o1, c1, b2, o2, c2, rfl, hc1, hc2⟩, hb1⟩; have HC1 := Lib.hid hc1; have HC2 := Lib.hid hc2; replace KX := Lib.hid (KX.out.bw hb1); replace FX := Lib.hid (FX.out.bw hb1); replace HBW := Lib.hid (HBW.out.trans hb1); clear hb1 hc1 hc2))
  go_wp2
  obtain ⟨BB, hBB⟩ : ∃ BB, w3.heap.size = BB := ⟨_, rfl⟩
  have HB := Lib.hid hBB
  have HB2 := Lib.hid (show g + 1 < BB by have := FX.out.lt; omega)
  clear hBB
  go_loopg [9, 10] 13 (fun gg s9 s10 wr => ∃ i : Nat, i ≤ 13 ∧ 13 - i ≤ gg ∧ s10 = .int .i64 i ∧ Hid (Bw w3 wr) ∧ Hid (wr.ownsRow BB 3 1 s9 (L.take (AT i)).length ((L.take (AT i)).map (Value.int .i64))))
  case atStart => exact ⟨0, by omega, by omega, rfl, Lib.hid (Bw.refl _), Lib.hid (by rw [HA0.out]; exact World.ownsRow_nil _ _ _ _)⟩
  case round =>
    obtain ⟨i, hi, hgg, rfl, HW, O1⟩ := hrel
    obtain ⟨wa, rfl⟩ : ∃ wa, wa = wr := ⟨_, rfl⟩
    by_cases hlt : i < 13
    · have hiz : (i : Int) < 13 := by omega
      have hi0 : (0 : Int) ≤ i := by omega
      have hn1 := HNB.out i hlt
      have HA := Lib.hid (HAI.out i hlt)
      have HGI := Lib.hid (HGB.out i hlt)
      have d1 := HW.out.cell' (HC1.out i hlt)
      have d2 := HW.out.cell' (HC2.out i hlt)
      have HD1 := Lib.hid (HC1.out i hlt)
      rw [HA.out.1] at O1
      generalize x i = z at d1 HGI HD1
      generalize atN i = AN at O1 HA HGI hn1
      generalize nN i = N at hn1 HA HGI d2
      go_wp2
      clear d1 d2
      go_loopg [9, 11] 21 (fun gg s9 s11 wx => ∃ r : Nat, r ≤ N ∧ r ≤ gg ∧ s11 = .int .i64 ((r : Int) - 1) ∧ Hid (Bw w3 wx) ∧ Hid (wx.ownsRow BB 3 1 s9 (L.take (AN + (N - r))).length ((L.take (AN + (N - r))).map (Value.int .i64))))
      case atStart => exact ⟨N, Nat.le_refl _, by omega, rfl, HW, Lib.hid (by rw [Nat.sub_self, Nat.add_zero]; exact O1.out)⟩
      case round =>
        clear HW O1
        obtain ⟨r, hr9, hgg2, rfl, HW, O1⟩ := hrel
        obtain ⟨wx, rfl⟩ : ∃ wx, wx = wr := ⟨_, rfl⟩
        by_cases hr0 : r = 0
        · subst hr0
          have hneg : ¬ (0 : Int) ≤ ((0 : Nat) : Int) - 1 := by omega
          go_wp2
          go_roundg (13 - (i + 1))
          case measure => omega
          case rel => exact ⟨i + 1, by omega, by omega, by go_num, HW, Lib.hid (by rw [HA.out.2]; exact O1.out)⟩
        · obtain ⟨m, rfl⟩ : ∃ m, r = m + 1 := ⟨r - 1, by omega⟩
          have hmz : ((m + 1 : Nat) : Int) - 1 = (m : Int) := by omega
          rw [hmz]
          clear hmz
          have hm0 : (0 : Int) ≤ m := by omega
          have hm64 : m < 64 := by omega
          have hA1 := and1 (z / 2 ^ m)
          have c2 := HW.out.cell' HD1.out
          have HT := Lib.hid (show L.take (AN + (N - m)) = L.take (AN + (N - (m + 1))) ++ [z / 2 ^ m % 2] by
            have h9 := HGI.out (N - (m + 1)) (by omega)
            rw [show N - 1 - (N - (m + 1)) = m by omega] at h9
            rw [show AN + (N - m) = AN + (N - (m + 1)) + 1 by omega, HTN.out _ (by have := HL.out; omega), h9]
            rfl)
          have HLN := Lib.hid (HLT.out (AN + (N - (m + 1))) (by omega))
          generalize L.take (AN + (N - (m + 1))) = l1 at O1 HT HLN
          go_wp2_with (at_builtin; have hba := Bw.alloc (Bw.refl wx) (.cells #[.int .i64 (z / 2 ^ m % 2)] 3); replace O1 := Lib.hid (own_bw O1.out hba); replace HW := Lib.hid (HW.out.trans hba); clear hba; refine wpList_append_int1 rfl (.tmp 45) (.tmp 54) _ rfl BB 3 Tryd.underlying22 infoInt _ l1 (z / 2 ^ m % 2) rfl O1.out _ rfl (by simp [go_sem]) (by have := HLN.out; omega) (by have := HW.out.size; have := HB.out; simp only [World.size_alloc] at *; omega) ?_; intro v8 w8 hown hgr; replace HW := Lib.hid (bw_grownN HB.out HW.out O1.out hgr); replace O1 := Lib.hid hown; clear hown hgr)
          go_roundg m
          case measure => omega
          case rel => exact ⟨m, by omega, by omega, by go_num, HW, Lib.hid (by rw [HT.out]; exact O1.out)⟩
    · obtain rfl : i = 13 := by omega
      have hiz : ¬ ((13 : Nat) : Int) < 13 := by omega
      rw [HA13.out] at O1
      go_wp2
      go_loopg [9] 6 (fun gg s9 wx => ∃ p : Nat, 200 ≤ p ∧ p ≤ 206 ∧ 206 - p ≤ gg ∧ Hid (Bw w3 wx) ∧ Hid (wx.ownsRow BB 3 1 s9 (L.take p).length ((L.take p).map (Value.int .i64))))
      case atStart => exact ⟨200, by omega, by omega, by omega, HW, O1⟩
      case round =>
        clear HW O1
        obtain ⟨p, hp1, hp2, hgg2, HW, O1⟩ := hrel
        obtain ⟨wx, rfl⟩ : ∃ wx, wx = wr := ⟨_, rfl⟩
        have hlp := HLT.out p hp2
        obtain ⟨a8, c8, hv8⟩ := own_form2 O1.out
        subst hv8
        by_cases hp9 : p < 206
        · have hpz : ((L.take p).length : Int) < 206 := by omega
          have HT := Lib.hid (show L.take (p + 1) = L.take p ++ [0] by rw [HTN.out p (by have := HL.out; omega), HZ.out p hp1 hp9])
          have HLN := Lib.hid hlp
          clear hlp
          generalize L.take p = l1 at O1 HT HLN hpz
          go_wp2_with (at_builtin; have hba := Bw.alloc (Bw.refl wx) (.cells #[.int .i64 0] 3); replace O1 := Lib.hid (own_bw O1.out hba); replace HW := Lib.hid (HW.out.trans hba); clear hba; refine wpList_append_int1 rfl (.tmp 59) (.tmp 60) _ rfl BB 3 Tryd.underlying22 infoInt _ l1 0 rfl O1.out _ rfl (by simp [go_sem]) (by have := HLN.out; omega) (by have := HW.out.size; have := HB.out; simp only [World.size_alloc] at *; omega) ?_; intro v8 w8 hown hgr; replace HW := Lib.hid (bw_grownN HB.out HW.out O1.out hgr); replace O1 := Lib.hid hown; clear hown hgr)
          go_roundg (206 - (p + 1))
          case measure => omega
          case rel => exact ⟨p + 1, by omega, by omega, by omega, HW, Lib.hid (by rw [HT.out]; exact O1.out)⟩
        · obtain rfl : p = 206 := by omega
          rw [HTA.out] at O1 hlp
          have hrd := own_rd O1.out (by omega)
          have hcd := own_capd O1.out
          rw [HTA.out, hlp] at *
          have HRD := Lib.hid (And.intro hrd.1 (And.intro hrd.2 hcd))
          replace HBW := Lib.hid (HBW.out.trans HW.out)
          replace FX := Lib.hid (FX.out.bw HW.out)
          have h206 : ¬ (206 : Int) < 206 := by omega
          clear hrd hcd hlp O1 HW
          go_wp2_with ((with_reducible refine at_store 40 (.tmp 4) (.tmp 64) ?_); refine wpList_store_row rfl 40 (.tmp 4) (.tmp 64) rfl (g + 1) #[.int .i64 tow, .int .i64 4, .slice a8 206 c8] rfl rfl 40 _ FX.out (by kernel_rfl) rfl (by simp [Value.oneCell']) ?_)
          have F9 := FX.out.row #[.int .i64 tow, .int .i64 4, .slice a8 206 c8]
          have B9 := Bw.setRow HBW.out (show w.heap.size ≤ g + 1 by have := HG.out; omega) #[.int .i64 tow, .int .i64 4, .slice a8 206 c8]
          have R9 := HRD.out.1.rowOff (HRD.out.2.1.off HB2.out L) #[.int .i64 tow, .int .i64 4, .slice a8 206 c8]
          refine bodyPost_ret (v := .tuple #[.agg #[.int .i64 tow, .int .i64 4, .slice a8 206 c8], .int .i64 0]) ?_ rfl ⟨⟨_, rfl, R9, HRD.out.2.1.mono (by have := HB2.out; have := HG.out; omega), HRD.out.2.2⟩, B9⟩
          exact results_two_row (p := 4) (u := 5) rfl _ _ (g + 1) _ rfl (run_loadVar_row _ (g + 1) 40 40 #[.int .i64 tow, .int .i64 4, .slice a8 206 c8] (0, 0) _ F9 Tryd.underlying40 rfl (by kernel_rfl))
end Go.Proofs.Sky
