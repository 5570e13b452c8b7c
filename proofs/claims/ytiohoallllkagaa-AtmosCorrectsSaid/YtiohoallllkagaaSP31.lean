/-
  lemmas for the theorems of this claim. No conditions beyond those written in the statements.
-/
import Derived.Test.YtiohoallllkagaaPP25
import Derived.Test.YtiohoallllkagaaU25b
import Derived.Test.YtiohoallllkagaaCF31
import Derived.Test.YtiohoallllkagaaK31
set_option linter.unusedVariables false
set_option linter.unusedSimpArgs false
set_option linter.unnecessarySimpa false
namespace Go.Proofs.Sky
/-! chapter 25, plain: the order of the fields -/
def fldV (p : Fd × Int) : Int := p.1.c + p.2 * p.1.u
def okP (e : Int) (p : Fd × Int) : Prop := fk p.1.a p.1.n p.1.u p.1.c ∧ p.1.a + p.1.n ≤ e ∧ lowR p.1.n p.1.g ≤ p.2 ∧ p.2 ≤ highR p.1.n p.1.g ∧ -1000000 ≤ p.1.c ∧ p.1.c ≤ 1000000
def disP (p p' : Fd × Int) : Prop := p.1.a + p.1.n ≤ p'.1.a ∨ p'.1.a + p'.1.n ≤ p.1.a
theorem lay_ok (b : Int) : ∀ (r pre : List Fd), (∀ f ∈ r, fk f.a f.n f.u f.c ∧ f.a + f.n ≤ b) → r.Pairwise (fun f h => f.a + f.n ≤ h.a ∨ h.a + h.n ≤ f.a) → (∀ f ∈ r, ∀ h ∈ pre, f.a + f.n ≤ h.a ∨ h.a + h.n ≤ f.a) → lay b pre r = (0, 0) := by
  intro r
  induction r with
  | nil => intro pre _ _ _; rfl
  | cons f r ih =>
    intro pre h1 h2 h3
    have hE : layE pre f b = 0 := by
      have := h1 f (by simp)
      unfold layE
      rw [errF_ok this.1, if_pos rfl, if_neg (by omega), if_neg]
      intro hd
      have hn : dbl pre f = false := dbl_no pre f (fun y hy => by
        unfold tk
        rw [List.any_eq_false]
        intro h hh
        have := h3 f (by simp) h hh
        simp only [decide_eq_true_iff]
        omega)
      rw [hn] at hd; cases hd
    rw [lay, if_pos hE]
    rw [List.pairwise_cons] at h2
    exact ih _ (fun g hg => h1 g (List.mem_cons_of_mem _ hg)) h2.2 (fun g hg h hh => by
      rcases List.mem_append.1 hh with hh | hh
      · exact h3 g (List.mem_cons_of_mem _ hg) h hh
      · rw [List.mem_singleton] at hh
        subst hh
        have := h2.1 g hg
        omega)
theorem layout_ok (b : Int) (ps : List (Fd × Int)) (h1 : ∀ p ∈ ps, okP b p) (h2 : ps.Pairwise disP) (h3 : ps.length ≤ 100) : layout (ps.map (·.1)) b = (0, 0) := by
  unfold layout
  rw [if_neg (by rw [List.length_map]; omega)]
  refine lay_ok b _ [] (fun f hf => ?_) ?_ (fun f _ h hh => by cases hh)
  · obtain ⟨p, hp, rfl⟩ := List.mem_map.1 hf
    exact ⟨(h1 p hp).1, (h1 p hp).2.1⟩
  · rw [List.pairwise_map]
    exact h2
def putF2 (zs : List Int) (p : Fd × Int) : List Int := putL zs p.1.a.toNat p.1.n.toNat p.2 p.1.n.toNat
theorem raw_ok (e : Int) (p : Fd × Int) (h : okP e p) : rawB p.1.n p.1.g p.1.u p.1.c (fldV p) = true ∧ rawV p.1.u p.1.c (fldV p) = p.2 := by
  obtain ⟨⟨f1, f2, f3, f4, f5, f6, f7, f8, f9⟩, g1, g2, g3, g4, g5⟩ := h
  have hl := lowR_bd p.1.n p.1.g f3 f4
  have hh := highR_bd p.1.n p.1.g f3 f4
  have hb := mul_bd p.2 p.1.u (by omega) (by omega) (by omega) (by omega)
  have hin : inV (fldV p) = true := (inV_iff _).2 (by unfold fldV; omega)
  have he : fldV p - p.1.c = p.2 * p.1.u := by unfold fldV; omega
  have hr : rawN (fldV p - p.1.c) p.1.u = p.2 := by rw [he]; exact rawN_exact _ _ f6
  refine ⟨?_, ?_⟩
  · unfold rawB; rw [hin, hr]; simp [g2, g3]
  · unfold rawV; rw [hin, hr]; rfl
theorem pk_ok (e : Int) : ∀ (ps : List (Fd × Int)) (i : Nat) (zs : List Int), (∀ p ∈ ps, okP e p) → pk i zs (ps.map (fun p => (p.1, fldV p))) = (ps.foldl putF2 zs, (0, 0)) := by
  intro ps
  induction ps with
  | nil => intro i zs _; rfl
  | cons p r ih =>
    intro i zs h
    have hr := raw_ok e p (h p (by simp))
    rw [List.map_cons, pk, if_pos hr.1, hr.2, ih _ _ (fun q hq => h q (List.mem_cons_of_mem _ hq)), List.foldl_cons]
    rfl
def cov (p : Fd × Int) (k : Nat) : Prop := p.1.a.toNat ≤ k ∧ k < p.1.a.toNat + p.1.n.toNat
theorem fold_get (e : Nat) : ∀ (ps : List (Fd × Int)) (zs : List Int), (∀ p ∈ ps, okP e p) → ps.Pairwise disP → e ≤ zs.length → (ps.foldl putF2 zs).length = zs.length ∧ (∀ p ∈ ps, ∀ k, cov p k → (ps.foldl putF2 zs).getD k 0 = bitN p.2 (p.1.n.toNat - 1 - (k - p.1.a.toNat))) ∧ (∀ k, (∀ p ∈ ps, ¬ cov p k) → (ps.foldl putF2 zs).getD k 0 = zs.getD k 0) := by
  intro ps
  induction ps with
  | nil => intro zs _ _ _; exact ⟨rfl, (fun p hp => by cases hp), fun _ _ => rfl⟩
  | cons p r ih =>
    intro zs h1 h2 h3
    have hp := h1 p (by simp)
    obtain ⟨⟨f1, f2, f3, f4, f5, f6⟩, g1, _⟩ := hp
    rw [List.pairwise_cons] at h2
    have hl : (putF2 zs p).length = zs.length := putL_length _ _ _ _ _
    obtain ⟨a1, a2, a3⟩ := ih (putF2 zs p) (fun q hq => h1 q (List.mem_cons_of_mem _ hq)) h2.2 (by rw [hl]; exact h3)
    have hg := fun k => putL_get zs p.1.a.toNat p.1.n.toNat p.2 p.1.n.toNat k (by omega)
    rw [List.foldl_cons]
    refine ⟨a1.trans hl, fun q hq k hk => ?_, fun k hk => ?_⟩
    · rcases List.mem_cons.1 hq with rfl | hq
      · rw [a3 k (fun q' hq' hc => ?_)]
        · unfold putF2; rw [hg k, if_pos (show _ ∧ _ from hk)]
        · have hd := h2.1 q' hq'
          have ho := h1 q' (List.mem_cons_of_mem _ hq')
          obtain ⟨⟨e1, e2, e3, e4, _⟩, _⟩ := ho
          unfold disP at hd
          unfold cov at hc hk
          omega
      · exact a2 q hq k hk
    · rw [a3 k (fun q hq => hk q (List.mem_cons_of_mem _ hq))]
      unfold putF2; rw [hg k, if_neg (show ¬ (_ ∧ _) from hk p (by simp))]
theorem dis_rev (ps : List (Fd × Int)) (h : ps.Pairwise disP) : ps.reverse.Pairwise disP := by
  rw [List.pairwise_reverse]
  exact h.imp (fun {a b} h => by unfold disP at *; omega)
theorem list_ext0 (l m : List Int) (hl : l.length = m.length) (h : ∀ i, i < l.length → l.getD i 0 = m.getD i 0) : l = m := by
  apply List.ext_getElem hl
  intro i h1 h2
  have := h i h1
  rw [List.getD_eq_getElem?_getD, List.getD_eq_getElem?_getD, List.getElem?_eq_getElem h1, List.getElem?_eq_getElem h2] at this
  exact this
theorem fold_rev (e : Nat) (ps : List (Fd × Int)) (zs : List Int) (h1 : ∀ p ∈ ps, okP e p) (h2 : ps.Pairwise disP) (h3 : e ≤ zs.length) : ps.reverse.foldl putF2 zs = ps.foldl putF2 zs := by
  obtain ⟨a1, a2, a3⟩ := fold_get e ps zs h1 h2 h3
  obtain ⟨b1, b2, b3⟩ := fold_get e ps.reverse zs (fun p hp => h1 p (List.mem_reverse.1 hp)) (dis_rev ps h2) h3
  refine list_ext0 _ _ (b1.trans a1.symm) (fun k _ => ?_)
  by_cases hc : ∃ p ∈ ps, cov p k
  · obtain ⟨p, hp, hc⟩ := hc
    rw [a2 p hp k hc, b2 p (List.mem_reverse.2 hp) k hc]
  · have hc' : ∀ p ∈ ps, ¬ cov p k := fun p hp h => hc ⟨p, hp, h⟩
    rw [a3 k hc', b3 k (fun p hp => hc' p (List.mem_reverse.1 hp))]
theorem getN_congr (zs ys : List Int) (a : Nat) : ∀ n, (∀ i, i < n → zs.getD (a + i) 0 = ys.getD (a + i) 0) → getN zs a n = getN ys a n := by
  intro n
  induction n with
  | zero => intro _; rfl
  | succ n ih =>
    intro h
    rw [getN, getN, ih (fun i hi => h i (by omega)), h n (by omega)]
theorem get_ok (e : Nat) (A : List Int) (p : Fd × Int) (hp : okP e p) (hl : e ≤ A.length) (h : ∀ k, cov p k → A.getD k 0 = bitN p.2 (p.1.n.toNat - 1 - (k - p.1.a.toNat))) : errT A p.1.a p.1.n p.1.u p.1.c = 0 ∧ getR A p.1.a p.1.n p.1.g p.1.u p.1.c = fldV p := by
  obtain ⟨hf, g1, g2, g3, _⟩ := hp
  have hf' := hf
  obtain ⟨f1, f2, f3, f4, f5, f6⟩ := hf'
  have hE : errT A p.1.a p.1.n p.1.u p.1.c = 0 := by
    unfold errT
    rw [errF_ok hf, if_pos rfl, if_neg (by omega), if_pos ((oksP_iff _ _ _).2 (fun i hi => by
      rw [h _ ⟨by omega, by omega⟩]; exact bitN_01 _ _))]
  refine ⟨hE, ?_⟩
  unfold getR
  rw [if_pos hE]
  unfold getV fldV
  have h1 : getN A p.1.a.toNat p.1.n.toNat = p.2 % 2 ^ p.1.n.toNat := by
    rw [← getN_put_all A p.1.a.toNat p.1.n.toNat p.2 (by omega)]
    refine getN_congr _ _ _ _ (fun i hi => ?_)
    rw [putL_get A _ _ _ _ _ (by omega), if_pos ⟨by omega, by omega⟩, h _ ⟨by omega, by omega⟩]
  have h2 := sgnV_put p.1.n.toNat p.1.g p.2 (by omega) (by rw [Int.toNat_of_nonneg (by omega)]; exact g2) (by rw [Int.toNat_of_nonneg (by omega)]; exact g3)
  rw [h1, h2]
theorem unR_ok (A : List Int) : ∀ (ps : List (Fd × Int)) (i : Nat) (out : List Int), (∀ p ∈ ps, errT A p.1.a p.1.n p.1.u p.1.c = 0 ∧ getR A p.1.a p.1.n p.1.g p.1.u p.1.c = fldV p) → unR i A out (ps.map (·.1)) = (out ++ ps.map fldV, (0, 0)) := by
  intro ps
  induction ps with
  | nil => intro i out _; simp [unR]
  | cons p r ih =>
    intro i out h
    have hp := h p (by simp)
    rw [List.map_cons, unR, if_pos hp.1, hp.2, ih _ _ (fun q hq => h q (List.mem_cons_of_mem _ hq)), List.map_cons, List.append_assoc]
    rfl
theorem zip_map2 {α β γ : Type} (l : List α) (f : α → β) (g : α → γ) : (l.map f).zip (l.map g) = l.map (fun a => (f a, g a)) := by
  induction l with
  | nil => rfl
  | cons a l ih => simp [ih]
theorem pack_plain (e : Nat) (ps : List (Fd × Int)) (h1 : ∀ p ∈ ps, okP e p) (h2 : ps.Pairwise disP) (h3 : ps.length ≤ 100) (he : e ≤ 3000) : packR ((e : Int) + 2) (ps.map (·.1)) (ps.map fldV) = (ps.foldl putF2 (List.replicate (e + 2) 0), (0, 0)) := by
  have hok : ∀ p ∈ ps, okP ((e : Int) + 2) p := fun p hp => by
    obtain ⟨a1, a2, a3⟩ := h1 p hp
    exact ⟨a1, by omega, a3⟩
  unfold packR
  rw [if_neg (by omega), layout_ok _ ps hok h2 h3, if_pos rfl, if_pos (by simp), zip_map2, pk_ok e ps 0 _ h1]
  rw [show ((e : Int) + 2).toNat = e + 2 by omega]
theorem orders_plain (e : Nat) (ps : List (Fd × Int)) (h1 : ∀ p ∈ ps, okP e p) (h2 : ps.Pairwise disP) (h3 : ps.length ≤ 100) (he : e ≤ 3000) :
    ∃ A : List Int, A.length = e + 2 ∧ packR ((e : Int) + 2) (ps.map (·.1)) (ps.map fldV) = (A, (0, 0)) ∧ packR ((e : Int) + 2) (ps.reverse.map (·.1)) (ps.reverse.map fldV) = (A, (0, 0)) ∧ unpackR (ps.map (·.1)) A = (ps.map fldV, (0, 0)) ∧
      (∀ p ∈ ps, errT A p.1.a p.1.n p.1.u p.1.c = 0 ∧ getR A p.1.a p.1.n p.1.g p.1.u p.1.c = fldV p) ∧ (∀ k, (∀ p ∈ ps, ¬ cov p k) → A.getD k 0 = 0) := by
  obtain ⟨a1, a2, a3⟩ := fold_get e ps (List.replicate (e + 2) 0) h1 h2 (by simp)
  have hlen : (ps.foldl putF2 (List.replicate (e + 2) 0)).length = e + 2 := by rw [a1]; simp
  have hg : ∀ p ∈ ps, errT (ps.foldl putF2 (List.replicate (e + 2) 0)) p.1.a p.1.n p.1.u p.1.c = 0 ∧ getR (ps.foldl putF2 (List.replicate (e + 2) 0)) p.1.a p.1.n p.1.g p.1.u p.1.c = fldV p := fun p hp => get_ok e _ p (h1 p hp) (by rw [hlen]; omega) (a2 p hp)
  refine ⟨_, hlen, pack_plain e ps h1 h2 h3 he, ?_, ?_, hg, fun k hk => ?_⟩
  · rw [pack_plain e ps.reverse (fun p hp => h1 p (List.mem_reverse.1 hp)) (dis_rev ps h2) (by rw [List.length_reverse]; exact h3) he, fold_rev e ps _ h1 h2 (by simp)]
  · unfold unpackR
    rw [hlen, layout_ok ((e + 2 : Nat) : Int) ps (fun p hp => by obtain ⟨b1, b2, b3⟩ := h1 p hp; exact ⟨b1, by omega, b3⟩) h2 h3, if_pos rfl, unR_ok _ ps 0 [] hg, List.nil_append]
  · rw [a3 k hk, List.getD_eq_getElem?_getD, List.getElem?_replicate]
    split <;> rfl
end Go.Proofs.Sky

namespace Go.Proofs.Sky
open Go Go.RowKit Go.Shelf
set_option maxHeartbeats 2000000
set_option maxRecDepth 4000
/-! chapter 31: a frame read again -/
def atB (i : Nat) : Nat := if i < 7 then 21 * i else 147 + 20 * (i - 7)
def nB (i : Nat) : Nat := if i < 7 then 21 else 20
def fd9 (i : Nat) : Fd := ⟨(atB i : Int), (nB i : Int), decide (i < 7), 1, 0⟩
def ps31 (x : Nat → Int) : List (Fd × Int) := (List.range 9).map fun i => (fd9 i, x i)
theorem fs31_eq (x : Nat → Int) : (ps31 x).map (·.1) = FS31 := by
  unfold ps31
  rw [List.map_map]
  rfl
theorem vs31_eq (x : Nat → Int) : (ps31 x).map fldV = (List.range 9).map fun i => x i := by
  unfold ps31
  rw [List.map_map]
  refine List.map_congr_left (fun i _ => ?_)
  show (0 : Int) + x i * 1 = x i
  omega
theorem errA_all {x : Nat → Int} (h : errA x = 0) : ∀ i, i < 9 → -1000000 ≤ x i ∧ x i ≤ 1000000 ∧ (i ≤ 6 ∨ 0 ≤ x i) := by
  intro i hi
  cases hq : okA x i with
  | true => exact of_decide_eq_true hq
  | false => rw [errA_bad hi hq] at h; cases h
theorem ps31_ok {x : Nat → Int} (h : errA x = 0) : ∀ p ∈ ps31 x, okP 204 p := by
  intro p hp
  obtain ⟨i, hi, rfl⟩ := List.mem_map.1 hp
  have hi9 := List.mem_range.1 hi
  obtain ⟨h1, h2, h3⟩ := errA_all h i hi9
  unfold okP fd9 fk lowR highR atB nB
  dsimp only
  by_cases h7 : i < 7
  · simp only [h7, if_true, decide_true]
    have e1 : (2 : Int) ^ (((21 : Nat) : Int).toNat - 1) = 1048576 := by decide
    rw [e1]
    omega
  · simp only [h7, if_false, decide_false, Bool.false_eq_true]
    have e1 : (2 : Int) ^ (((20 : Nat) : Int).toNat) = 1048576 := by decide
    rw [e1]
    omega
theorem ps31_dis (x : Nat → Int) : (ps31 x).Pairwise disP := by
  unfold ps31
  rw [List.pairwise_map]
  have h : (List.range 9).Pairwise (· < ·) := List.pairwise_lt_range
  refine List.Pairwise.imp_of_mem (fun {a b} ha hb hab => ?_) h
  have ha9 := List.mem_range.1 ha
  have hb9 := List.mem_range.1 hb
  left
  show (atB a : Int) + (nB a : Int) ≤ (atB b : Int)
  unfold atB nB
  split <;> split <;> omega
def FrA (x : Nat → Int) : List Int := (packR 206 FS31 ((List.range 9).map fun i => x i)).1
theorem packed31 {x : Nat → Int} (h : errA x = 0) : (FrA x).length = 206 ∧ unpackR FS31 (FrA x) = ((List.range 9).map fun i => x i, (0, 0)) ∧ ((FrA x).drop 187).any (fun d => d != 0) = false ∧
    ∀ i, i < 9 → ∀ j, j < nB i → (FrA x).getD (atB i + j) 0 = bitN (x i) (nB i - 1 - j) := by
  obtain ⟨e, he⟩ : ∃ e : Nat, e = 204 := ⟨_, rfl⟩
  have hok : ∀ p ∈ ps31 x, okP e p := by rw [he]; exact ps31_ok h
  have hp := pack_plain e (ps31 x) hok (ps31_dis x) (by simp [ps31]) (by omega)
  obtain ⟨A, a1, a2, _, a4, _, a6⟩ := orders_plain e (ps31 x) hok (ps31_dis x) (by simp [ps31]) (by omega)
  obtain ⟨b1, b2, b3⟩ := fold_get e (ps31 x) (List.replicate (e + 2) 0) hok (ps31_dis x) (by simp)
  have e206 : (e : Int) + 2 = 206 := by omega
  rw [fs31_eq, vs31_eq, e206] at hp a2
  rw [fs31_eq, vs31_eq] at a4
  have eF : A = (ps31 x).foldl putF2 (List.replicate (e + 2) 0) := by
    rw [a2] at hp
    exact (Prod.mk.inj hp).1
  have a1' : A.length = 206 := by omega
  have eA : FrA x = A := by unfold FrA; rw [a2]
  rw [eA]
  refine ⟨a1', a4, ?_, ?_⟩
  · rw [List.any_eq_false]
    intro d hd
    obtain ⟨j, hj, rfl⟩ := List.mem_iff_getElem.1 hd
    rw [List.length_drop] at hj
    rw [List.getElem_drop]
    have h9 := a6 (187 + j) (fun p hp' => by
      obtain ⟨i, hi, rfl⟩ := List.mem_map.1 hp'
      have hi9 := List.mem_range.1 hi
      unfold cov fd9 atB nB
      dsimp only
      split <;> omega)
    rw [List.getD_eq_getElem?_getD, List.getElem?_eq_getElem (by omega), Option.getD_some] at h9
    rw [h9]
    decide
  · intro i hi j hj
    rw [eF]
    have h9 := b2 (fd9 i, x i) (List.mem_map.2 ⟨i, List.mem_range.2 hi, rfl⟩) (atB i + j) (by
      unfold cov fd9
      dsimp only
      omega)
    dsimp only [fd9] at h9
    rw [h9, show (((nB i : Nat) : Int)).toNat - 1 - (atB i + j - (((atB i : Nat) : Int)).toNat) = nB i - 1 - j by omega]
theorem getD_map9 (x : Nat → Int) (i : Nat) (h : i < 9) : ((List.range 9).map fun i => x i).getD i 0 = x i := by
  rw [List.getD_eq_getElem?_getD, List.getElem?_map, List.getElem?_range h]
  rfl
theorem atV_congr {x y : Nat → Int} (h : ∀ i, i < 9 → x i = y i) : atV x = atV y := by
  unfold atV
  rw [h 0 (by omega), h 1 (by omega), h 2 (by omega), h 3 (by omega), h 4 (by omega), h 5 (by omega), h 6 (by omega), h 7 (by omega), h 8 (by omega)]
theorem errA_congr {x y : Nat → Int} (h : ∀ i, i < 9 → x i = y i) : errA x = errA y := by
  have e : (List.range 9).all (okA x) = (List.range 9).all (okA y) := by
    rw [Bool.eq_iff_iff, List.all_eq_true, List.all_eq_true]
    constructor
    · intro h1 i hi
      have := h1 i hi
      unfold okA at this ⊢
      rw [← h i (List.mem_range.1 hi)]; exact this
    · intro h1 i hi
      have := h1 i hi
      unfold okA at this ⊢
      rw [h i (List.mem_range.1 hi)]; exact this
  unfold errA
  rw [e]
theorem Read_back {x : Nat → Int} (h : errA x = 0) (t : Int) (ht : 0 ≤ t) (ht2 : t < 131072) (v : Value) (w : World) (hv : RdI w v (FrA x)) (hc : Capd v) :
    Calls Try.prog 20 #[.agg #[.int .i64 t, .int .i64 5, v]] w fun e w' => e = .returned (.tuple #[.agg (atV x), .int .i64 0]) ∧ Bw w w' := by
  obtain ⟨p1, p2, p3, _⟩ := packed31 h
  obtain ⟨a, c, rfl⟩ := hv.form
  have hcc := hc _ _ _ rfl
  have h9 := Read_main t 5 (FrA x) ((List.range 9).map fun i => x i) 0 0 a c w (fun i => ((List.range 9).map fun i => x i).getD i 0) (fun i => ((List.range 9).map fun i => x i).getD i 0) 0 hv hcc p2 (fun _ => rfl)
    (.inl ⟨⟨rfl, ht, ht2, p1, rfl, by rw [errA_congr (fun i hi => getD_map9 x i hi)]; exact h, p3⟩, rfl, rfl⟩)
  rw [atV_congr (fun i hi => getD_map9 x i hi)] at h9
  exact h9
theorem Read_kind4 (zs : List Int) (t : Int) (v : Value) (w : World) (hv : RdI w v zs) (hc : Capd v) :
    Calls Try.prog 20 #[.agg #[.int .i64 t, .int .i64 4, v]] w fun e w' => e = .returned (.tuple #[.agg (atV (fun _ => 0)), .int .i64 3]) ∧ Bw w w' := by
  obtain ⟨a, c, rfl⟩ := hv.form
  have hcc := hc _ _ _ rfl
  exact Read_main t 4 zs (unpackR FS31 zs).1 (unpackR FS31 zs).2.1 (unpackR FS31 zs).2.2 a c w (fun i => (unpackR FS31 zs).1.getD i 0) (fun _ => 0) 3 hv hcc rfl (fun _ => rfl)
    (.inr ⟨fun h => absurd h.1 (by decide), rfl, rfl⟩)
theorem Frame_any (x : Nat → Int) (tow : Int) (w : World) (h : errA x = 0) (h1 : 0 ≤ tow) (h2 : tow < 131072) :
    Calls Try.prog 18 #[.agg (atV x), .int .i64 tow] w fun e w' => FrP w.heap.size tow 5 (FrA x) 0 e w' ∧ Bw w w' :=
  Frame_ok x tow w h ⟨h1, h2⟩
end Go.Proofs.Sky

namespace Go.Proofs.Sky
/-! chapter 31, plain: delays change by at most the slope -/
theorem rnd_near90 (S : Int) : 2 * (rndH S 90 * 1237940039285380274899124224 - S) ≤ 1237940039285380274899124224 ∧ 2 * (S - rndH S 90 * 1237940039285380274899124224) ≤ 1237940039285380274899124224 := by
  have e1 : (2 : Int) ^ (90 - 1) = 618970019642690137449562112 := by decide
  have e2 : (2 : Int) ^ 90 = 1237940039285380274899124224 := by decide
  unfold rndH
  rw [e1, e2]
  split <;> omega
theorem rnd_near60 (S : Int) : 2 * (rndH S 60 * 1152921504606846976 - S) ≤ 1152921504606846976 ∧ 2 * (S - rndH S 60 * 1152921504606846976) ≤ 1152921504606846976 := by
  have e1 : (2 : Int) ^ (60 - 1) = 576460752303423488 := by decide
  have e2 : (2 : Int) ^ 60 = 1152921504606846976 := by decide
  unfold rndH
  rw [e1, e2]
  split <;> omega
theorem hsum4 (c : Nat → Int) (z : Nat) : hsum c z 4 4 = c 3 * (z * (z * z)) + c 2 * (z * z) * 1073741824 + c 1 * z * 1152921504606846976 + c 0 * 1237940039285380274899124224 := by
  have e0 : (2 : Int) ^ (30 * 0) = 1 := by decide
  have e1 : (2 : Int) ^ (30 * 1) = 1073741824 := by decide
  have e2 : (2 : Int) ^ (30 * 2) = 1152921504606846976 := by decide
  have e3 : (2 : Int) ^ (30 * 3) = 1237940039285380274899124224 := by decide
  simp only [hsum, e0, e1, e2, e3, Nat.sub_zero, show 4 - 1 = 3 from rfl, show 3 - 1 = 2 from rfl, show 3 - 2 = 1 from rfl, show 3 - 3 = 0 from rfl, Int.mul_one, Int.zero_mul, Int.zero_add, Int.add_mul]
  have a1 : c 3 * (z : Int) * z * z = c 3 * (z * (z * z)) := by rw [Int.mul_assoc, Int.mul_assoc]
  have a2 : c 2 * 1073741824 * (z : Int) * z = c 2 * (z * z) * 1073741824 := by rw [Int.mul_assoc (c 2 * 1073741824), Int.mul_right_comm]
  have a3 : c 1 * 1152921504606846976 * (z : Int) = c 1 * z * 1152921504606846976 := Int.mul_right_comm _ _ _
  rw [a1, a2, a3]
theorem hsum3 (c : Nat → Int) (z : Nat) : hsum c z 3 3 = c 2 * (z * z) + c 1 * z * 1073741824 + c 0 * 1152921504606846976 := by
  have e0 : (2 : Int) ^ (30 * 0) = 1 := by decide
  have e1 : (2 : Int) ^ (30 * 1) = 1073741824 := by decide
  have e2 : (2 : Int) ^ (30 * 2) = 1152921504606846976 := by decide
  simp only [hsum, e0, e1, e2, Nat.sub_zero, show 3 - 1 = 2 from rfl, show 2 - 1 = 1 from rfl, show 2 - 2 = 0 from rfl, Int.mul_one, Int.zero_mul, Int.zero_add, Int.add_mul]
  have a1 : c 2 * (z : Int) * z = c 2 * (z * z) := Int.mul_assoc _ _ _
  have a2 : c 1 * 1073741824 * (z : Int) = c 1 * z * 1073741824 := Int.mul_right_comm _ _ _
  rw [a1, a2]
theorem absI (c : Int) : -(c.natAbs : Int) ≤ c ∧ c ≤ (c.natAbs : Int) := by omega
/-- a linear term -/
theorem term1 (c z y D : Int) (hD1 : -D ≤ z - y) (hD2 : z - y ≤ D) : -(c.natAbs * D) ≤ c * z - c * y ∧ c * z - c * y ≤ c.natAbs * D := by
  have h := mul_bd3 c (z - y) c.natAbs D (absI c).1 (absI c).2 hD1 hD2
  rw [Int.mul_sub] at h; exact h
theorem term2 (c z y D : Int) (hz : 0 ≤ z ∧ z ≤ 1073741824) (hy : 0 ≤ y ∧ y ≤ 1073741824) (hD1 : -D ≤ z - y) (hD2 : z - y ≤ D) : -(c.natAbs * D * 2147483648) ≤ c * (z * z) - c * (y * y) ∧ c * (z * z) - c * (y * y) ≤ c.natAbs * D * 2147483648 := by
  have h1 := mul_bd3 (z - y) (z + y) D 2147483648 hD1 hD2 (by omega) (by omega)
  have e : (z - y) * (z + y) = z * z - y * y := by
    rw [Int.sub_mul, Int.mul_add, Int.mul_add, Int.mul_comm y z]; omega
  rw [e] at h1
  have h := mul_bd3 c (z * z - y * y) c.natAbs (D * 2147483648) (absI c).1 (absI c).2 h1.1 h1.2
  rw [Int.mul_sub, ← Int.mul_assoc] at h; exact h
theorem term3 (c z y D : Int) (hz : 0 ≤ z ∧ z ≤ 1073741824) (hy : 0 ≤ y ∧ y ≤ 1073741824) (hD1 : -D ≤ z - y) (hD2 : z - y ≤ D) : -(c.natAbs * D * 3458764513820540928) ≤ c * (z * (z * z)) - c * (y * (y * y)) ∧ c * (z * (z * z)) - c * (y * (y * y)) ≤ c.natAbs * D * 3458764513820540928 := by
  have z1 := mul_bd3 z z 1073741824 1073741824 (by omega) (by omega) (by omega) (by omega)
  have z2 := mul_bd3 z y 1073741824 1073741824 (by omega) (by omega) (by omega) (by omega)
  have z3 := mul_bd3 y y 1073741824 1073741824 (by omega) (by omega) (by omega) (by omega)
  have h1 := mul_bd3 (z - y) (z * z + z * y + y * y) D 3458764513820540928 hD1 hD2 (by omega) (by omega)
  have e : (z - y) * (z * z + z * y + y * y) = z * (z * z) - y * (y * y) := by
    rw [Int.sub_mul, Int.mul_add, Int.mul_add, Int.mul_add, Int.mul_add]
    have a1 : y * (z * z) = z * (z * y) := by rw [Int.mul_left_comm, Int.mul_comm y z]
    have a2 : y * (z * y) = z * (y * y) := Int.mul_left_comm _ _ _
    rw [a1, a2]; omega
  rw [e] at h1
  have h := mul_bd3 c _ c.natAbs (D * 3458764513820540928) (absI c).1 (absI c).2 h1.1 h1.2
  rw [Int.mul_sub, ← Int.mul_assoc] at h; exact h
theorem slope_eq (x : Nat → Int) : slopeN x = (x 1).natAbs + 2 * (x 2).natAbs + 3 * (x 3).natAbs + ((x 5).natAbs + 2 * (x 6).natAbs) := by
  simp only [slopeN, sl, Nat.zero_add, Nat.add_zero, show 4 + 1 = 5 from rfl, show 4 + 2 = 6 from rfl]
  omega
theorem slope_bd {x : Nat → Int} (h : errA x = 0) : 0 ≤ slopeN x ∧ slopeN x ≤ 9000000 := by
  have hb := errA_bd h
  have b1 := hb 1 (by omega)
  have b2 := hb 2 (by omega)
  have b3 := hb 3 (by omega)
  have b5 := hb 5 (by omega)
  have b6 := hb 6 (by omega)
  rw [slope_eq]
  omega
theorem delta {x : Nat → Int} (h : errA x = 0) (a b D : Int) (ha : 0 ≤ a ∧ a ≤ 1073741824) (hb : 0 ≤ b ∧ b ≤ 1073741824) (hD1 : -D ≤ a - b) (hD2 : a - b ≤ D) :
    (ionoD x a + tropoD x a - ionoD x b - tropoD x b) * 1073741824 ≤ 2147483648 + slopeN x * D ∧ -(ionoD x a + tropoD x a - ionoD x b - tropoD x b) * 1073741824 ≤ 2147483648 + slopeN x * D := by
  have ea : ((zD a : Nat) : Int) = 1073741824 - a := by unfold zD; omega
  have eb : ((zD b : Nat) : Int) = 1073741824 - b := by unfold zD; omega
  unfold ionoD tropoD
  rw [if_pos ⟨h, ha⟩, if_pos ⟨h, ha⟩, if_pos ⟨h, hb⟩, if_pos ⟨h, hb⟩]
  have n1 := rnd_near90 (hsum x (zD a) 4 4)
  have n2 := rnd_near90 (hsum x (zD b) 4 4)
  have n3 := rnd_near60 (hsum (fun i => x (4 + i)) (zD a) 3 3)
  have n4 := rnd_near60 (hsum (fun i => x (4 + i)) (zD b) 3 3)
  generalize rndH (hsum x (zD a) 4 4) 90 = p at *
  generalize rndH (hsum x (zD b) 4 4) 90 = r at *
  generalize rndH (hsum (fun i => x (4 + i)) (zD a) 3 3) 60 = q at *
  generalize rndH (hsum (fun i => x (4 + i)) (zD b) 3 3) 60 = s at *
  rw [hsum4] at n1 n2
  rw [hsum3] at n3 n4
  simp only [show 4 + 0 = 4 from rfl, show 4 + 1 = 5 from rfl, show 4 + 2 = 6 from rfl] at n3 n4
  rw [ea] at n1 n3
  rw [eb] at n2 n4
  obtain ⟨z, hz⟩ : ∃ z : Int, z = 1073741824 - a := ⟨_, rfl⟩
  obtain ⟨y, hy⟩ : ∃ y : Int, y = 1073741824 - b := ⟨_, rfl⟩
  rw [← hz] at n1 n3
  rw [← hy] at n2 n4
  have t1 := term1 (x 1) z y D (by omega) (by omega)
  have t2 := term2 (x 2) z y D (by omega) (by omega) (by omega) (by omega)
  have t3 := term3 (x 3) z y D (by omega) (by omega) (by omega) (by omega)
  have t5 := term1 (x 5) z y D (by omega) (by omega)
  have t6 := term2 (x 6) z y D (by omega) (by omega) (by omega) (by omega)
  rw [slope_eq]
  simp only [Int.add_mul, Int.mul_assoc 2, Int.mul_assoc 3]
  clear ea eb hz hy hD1 hD2 h
  generalize ((x 1).natAbs : Int) * D = d1 at *
  generalize ((x 2).natAbs : Int) * D = d2 at *
  generalize ((x 3).natAbs : Int) * D = d3 at *
  generalize ((x 5).natAbs : Int) * D = d5 at *
  generalize ((x 6).natAbs : Int) * D = d6 at *
  generalize x 1 * z = u1 at *
  generalize x 1 * y = v1 at *
  generalize x 2 * (z * z) = u2 at *
  generalize x 2 * (y * y) = v2 at *
  generalize x 3 * (z * (z * z)) = u3 at *
  generalize x 3 * (y * (y * y)) = v3 at *
  generalize x 5 * z = u5 at *
  generalize x 5 * y = v5 at *
  generalize x 6 * (z * z) = u6 at *
  generalize x 6 * (y * y) = v6 at *
  have pr : (p - r) * 1073741824 ≤ 1073741824 + d1 + 2 * d2 + 3 * d3 ∧ -(p - r) * 1073741824 ≤ 1073741824 + d1 + 2 * d2 + 3 * d3 := by
    clear n3 n4 t5 t6
    omega
  have qs : (q - s) * 1073741824 ≤ 1073741824 + d5 + 2 * d6 ∧ -(q - s) * 1073741824 ≤ 1073741824 + d5 + 2 * d6 := by
    clear n1 n2 t1 t2 t3 pr
    omega
  clear n1 n2 n3 n4 t1 t2 t3 t5 t6
  omega
theorem rnd_ex90 (v : Int) : rndH (v * 1237940039285380274899124224) 90 = v := by
  have e1 : (2 : Int) ^ (90 - 1) = 618970019642690137449562112 := by decide
  have e2 : (2 : Int) ^ 90 = 1237940039285380274899124224 := by decide
  unfold rndH
  rw [e1, e2]
  split <;> omega
theorem rnd_ex60 (v : Int) : rndH (v * 1152921504606846976) 60 = v := by
  have e1 : (2 : Int) ^ (60 - 1) = 576460752303423488 := by decide
  have e2 : (2 : Int) ^ 60 = 1152921504606846976 := by decide
  unfold rndH
  rw [e1, e2]
  split <;> omega
theorem zenith {x : Nat → Int} (h : errA x = 0) : ionoD x 1073741824 = x 0 ∧ tropoD x 1073741824 = x 4 ∧ errD x 1073741824 = 0 := by
  unfold ionoD tropoD errD
  rw [if_pos ⟨h, by decide⟩, if_pos ⟨h, by decide⟩, if_pos h, if_pos (by decide), show zD 1073741824 = 0 by decide, hsum4, hsum3]
  refine ⟨?_, ?_, rfl⟩
  · rw [show x 3 * (((0 : Nat) : Int) * (((0 : Nat) : Int) * ((0 : Nat) : Int))) + x 2 * (((0 : Nat) : Int) * ((0 : Nat) : Int)) * 1073741824 + x 1 * ((0 : Nat) : Int) * 1152921504606846976 + x 0 * 1237940039285380274899124224 = x 0 * 1237940039285380274899124224 by simp]
    exact rnd_ex90 _
  · rw [show x (4 + 2) * (((0 : Nat) : Int) * ((0 : Nat) : Int)) + x (4 + 1) * ((0 : Nat) : Int) * 1073741824 + x (4 + 0) * 1152921504606846976 = x 4 * 1152921504606846976 by simp]
    exact rnd_ex60 _
theorem horizon {x : Nat → Int} (h : errA x = 0) : ionoD x 0 = x 0 + x 1 + x 2 + x 3 ∧ tropoD x 0 = x 4 + x 5 + x 6 ∧ errD x 0 = 0 := by
  unfold ionoD tropoD errD
  rw [if_pos ⟨h, by decide⟩, if_pos ⟨h, by decide⟩, if_pos h, if_pos (by decide), show zD 0 = 1073741824 by decide, hsum4, hsum3]
  refine ⟨?_, ?_, rfl⟩
  · rw [show ((1073741824 : Nat) : Int) = 1073741824 from rfl, show x 3 * ((1073741824 : Int) * (1073741824 * 1073741824)) + x 2 * ((1073741824 : Int) * 1073741824) * 1073741824 + x 1 * 1073741824 * 1152921504606846976 + x 0 * 1237940039285380274899124224 = (x 0 + x 1 + x 2 + x 3) * 1237940039285380274899124224 by omega]
    exact rnd_ex90 _
  · rw [show ((1073741824 : Nat) : Int) = 1073741824 from rfl, show x (4 + 2) * ((1073741824 : Int) * 1073741824) + x (4 + 1) * 1073741824 * 1073741824 + x (4 + 0) * 1152921504606846976 = (x 4 + x 5 + x 6) * 1152921504606846976 by show x 6 * _ + x 5 * _ * _ + x 4 * _ = _; omega]
    exact rnd_ex60 _
theorem iono_bd {x : Nat → Int} (h : errA x = 0) (up : Int) (hu : 0 ≤ up ∧ up ≤ 1073741824) : (-4000001 ≤ ionoD x up ∧ ionoD x up ≤ 4000001) ∧ (-4000001 ≤ tropoD x up ∧ tropoD x up ≤ 4000001) := by
  have hxb := errA_bd h
  have hi9 := rnd90 _ (hsum_bd (fun i => if i < 4 then x i else 0) (zD up) 4 (fun i => by by_cases hi : i < 4 <;> simp [hi]; exact hxb i (by omega)) (by unfold zD; omega) 4)
  have ht9 := rnd60 _ (hsum_bd (fun i => if i < 3 then x (4 + i) else 0) (zD up) 3 (fun i => by by_cases hi : i < 3 <;> simp [hi]; exact hxb (4 + i) (by omega)) (by unfold zD; omega) 3)
  rw [show hsum (fun i => if i < 4 then x i else 0) (zD up) 4 4 = hsum x (zD up) 4 4 by simp [hsum]] at hi9
  rw [show hsum (fun i => if i < 3 then x (4 + i) else 0) (zD up) 3 3 = hsum (fun i => x (4 + i)) (zD up) 3 3 by simp [hsum]] at ht9
  unfold ionoD tropoD
  rw [if_pos ⟨h, hu⟩, if_pos ⟨h, hu⟩]
  exact ⟨hi9, ht9⟩
theorem slopes_plain {x : Nat → Int} (h : errA x = 0) (a b M : Int) (ha : 0 ≤ a ∧ a ≤ 1073741824) (hb : 0 ≤ b ∧ b ≤ 1073741824) (hM : M = slopeN x * (max a b - min a b) / 1073741824 + 3) :
    ionoD x a + tropoD x a - ionoD x b - tropoD x b ≤ M ∧ -(ionoD x a + tropoD x a - ionoD x b - tropoD x b) ≤ M := by
  have hd := delta h a b (max a b - min a b) ha hb (by omega) (by omega)
  generalize slopeN x * (max a b - min a b) = P at *
  omega
end Go.Proofs.Sky
