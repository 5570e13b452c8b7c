/-
  lemmas for the theorems of this claim. No conditions beyond those written in the statements.
-/
import Derived.Test.YtmfiiocadhdhaaaG26
import Derived.Test.YtmfiiocadhdhaaaU25b
import Derived.Maps.AppendAt
import Derived.Deep.Cut
set_option linter.unusedVariables false
set_option linter.unusedSimpArgs false
set_option linter.unnecessarySimpa false
namespace Go.Proofs.Sky
open Go Go.RowKit Go.Shelf
set_option maxHeartbeats 4000000
set_option maxRecDepth 4000
/-! chapter 26: rows of frames -/
structure Fr where
  t : Int
  k : Int
  d : Value
  l : List Int
def frc (f : Fr) : List Value := [.int .i64 f.t, .int .i64 f.k, f.d]
def flatR (fs : List Fr) : List Value := fs.flatMap frc
theorem flatR_append (fs gs : List Fr) : flatR (fs ++ gs) = flatR fs ++ flatR gs := by simp [flatR]
theorem flatR_one (f : Fr) : flatR [f] = frc f := by simp [flatR]
theorem flatR_len (fs : List Fr) : (flatR fs).length = fs.length * 3 := by
  induction fs with
  | nil => rfl
  | cons f r ih => rw [show flatR (f :: r) = frc f ++ flatR r from rfl, List.length_append, ih, List.length_cons]; simp [frc]; omega
theorem flatR_at (fs : List Fr) : ∀ (i : Nat) (f : Fr), fs[i]? = some f → ∀ j, j < 3 → (flatR fs)[i * 3 + j]? = (frc f)[j]? := by
  induction fs with
  | nil => intro i f h; simp at h
  | cons g r ih =>
    intro i f h j hj
    rw [show flatR (g :: r) = frc g ++ flatR r from rfl]
    cases i with
    | zero =>
      simp only [List.getElem?_cons_zero, Option.some.injEq] at h
      subst h
      rw [List.getElem?_append_left (by simp [frc]; omega)]
      congr 1; omega
    | succ i =>
      rw [List.getElem?_cons_succ] at h
      rw [List.getElem?_append_right (by simp [frc]; omega)]
      rw [← ih i f h j hj]
      congr 1; simp [frc]; omega
/-- v is a slice of frames -/
def RdFr (w : World) (v : Value) (fs : List Fr) : Prop :=
  fs.length ≤ 9223372036854775807 ∧ (∀ f ∈ fs, RdI w f.d f.l ∧ Capd f.d) ∧ ∃ a cap, v = .slice a fs.length cap ∧ fs.length ≤ cap ∧ cap ≤ 9223372036854775807 ∧ (fs = [] ∨ ∃ b off, a = some ⟨b, off, none⟩ ∧ b < w.heap.size ∧ ∀ i f, fs[i]? = some f →
    w.cell? ⟨b, off + i * 3, none⟩ = some (.int .i64 f.t) ∧ w.cell? ⟨b, off + i * 3 + 1, none⟩ = some (.int .i64 f.k) ∧ w.cell? ⟨b, off + i * 3 + 2, none⟩ = some f.d)
theorem RdFr.mono {w w' : World} {v : Value} {fs : List Fr} (h : RdFr w v fs) (hb : Bw w w') : RdFr w' v fs := by
  obtain ⟨h1, h2, a, cap, h3, h8, h9, h4⟩ := h
  refine ⟨h1, fun f hf => ⟨(h2 f hf).1.mono hb, (h2 f hf).2⟩, a, cap, h3, h8, h9, ?_⟩
  rcases h4 with h4 | ⟨b, off, h5, h6, h7⟩
  · exact .inl h4
  · exact .inr ⟨b, off, h5, Nat.lt_of_lt_of_le h6 hb.size, fun i f hf => ⟨hb.cell' (h7 i f hf).1, hb.cell' (h7 i f hf).2.1, hb.cell' (h7 i f hf).2.2⟩⟩
theorem RdFr.form {w : World} {v : Value} {fs : List Fr} (h : RdFr w v fs) : ∃ a c, v = .slice a fs.length c := by obtain ⟨_, _, a, c, h, _⟩ := h; exact ⟨a, c, h⟩
theorem RdFr.capd {w : World} {v : Value} {fs : List Fr} (h : RdFr w v fs) : Capd v := by
  obtain ⟨_, _, a, c, rfl, h8, h9, _⟩ := h; exact Capd.at ⟨h8, h9⟩
theorem RdFr.nil (w : World) : RdFr w (.slice none 0 0) [] := ⟨by simp, fun f hf => (by cases hf), none, 0, rfl, by simp, by simp, .inl rfl⟩
theorem RdFr.at {w : World} {v : Value} {fs : List Fr} (h : RdFr w v fs) (h0 : 0 < fs.length) : ∃ b off c, v = .slice (some ⟨b, off, none⟩) fs.length c ∧ ∀ i f, fs[i]? = some f →
    w.cell? ⟨b, off + i * 3, none⟩ = some (.int .i64 f.t) ∧ w.cell? ⟨b, off + i * 3 + 1, none⟩ = some (.int .i64 f.k) ∧ w.cell? ⟨b, off + i * 3 + 2, none⟩ = some f.d := by
  obtain ⟨_, _, a, c, hv, _, _, h4⟩ := h
  rcases h4 with h4 | ⟨b, off, h5, h6, h7⟩
  · rw [h4] at h0; simp at h0
  · exact ⟨b, off, c, by rw [hv, h5], h7⟩
/-- frames of the call's own -/
structure OwFr (w : World) (base : Nat) (v : Value) (fs : List Fr) : Prop where
  own : w.ownsRow base 47 3 v fs.length (flatR fs)
  rd : ∀ f ∈ fs, RdI w f.d f.l ∧ Capd f.d ∧ Fresh base f.d ∧ ∀ b, f.d.ownBlock = some b → v.ownBlock ≠ some b ∧ b < w.heap.size
theorem OwFr.bw {w w' : World} {base : Nat} {v : Value} {fs : List Fr} (h : OwFr w base v fs) (hb : Bw w w') : OwFr w' base v fs :=
  ⟨own_bw h.own hb, fun f hf => ⟨(h.rd f hf).1.mono hb, (h.rd f hf).2.1, (h.rd f hf).2.2.1, fun b e => ⟨((h.rd f hf).2.2.2 b e).1, Nat.lt_of_lt_of_le ((h.rd f hf).2.2.2 b e).2 hb.size⟩⟩⟩
theorem OwFr.nil (w : World) (base : Nat) : OwFr w base (.slice none 0 0) [] := ⟨World.ownsRow_nil _ _ _ _, fun f hf => (by cases hf)⟩
theorem rdI_one {w : World} {v : Value} {zs : List Int} (h : RdI w v zs) : v.oneCell' = true := by obtain ⟨a, c, rfl⟩ := h.form; rfl
theorem OwFr.rdFr {w : World} {base : Nat} {v : Value} {fs : List Fr} (h : OwFr w base v fs) (hn : fs.length ≤ 1000) : RdFr w v fs ∧ Fresh base v := by
  have hc := own_capd h.own
  rcases h.own.2 with ⟨rfl, h2⟩ | ⟨g, cap, cur, rfl, hg, hh, hnc, _⟩
  · obtain rfl : fs = [] := List.length_eq_zero_iff.1 h2
    exact ⟨RdFr.nil _, Fresh.nil _ _ _⟩
  · have hcc := hc _ _ _ rfl
    refine ⟨⟨by omega, fun f hf => ⟨(h.rd f hf).1, (h.rd f hf).2.1⟩, some ⟨g, 0, none⟩, cap, rfl, hcc.1, hcc.2, .inr ⟨g, 0, rfl, (Array.getElem?_eq_some_iff.1 hh).1, fun i f hi => ?_⟩⟩, Fresh.at hg⟩
    have hil : i < fs.length := (List.getElem?_eq_some_iff.1 hi).1
    have hcl := fun j (hj : j < 3) => h.own.cellAt (i * 3 + j) (by omega)
    have hf := flatR_at fs i f hi
    rw [Nat.zero_add]
    exact ⟨(hcl 0 (by omega)).trans (hf 0 (by omega)), (hcl 1 (by omega)).trans (hf 1 (by omega)), (hcl 2 (by omega)).trans (hf 2 (by omega))⟩
theorem infoFr : (Try.prog.info? 47).map (fun i => (i.zero.map (fun z => z.cells.size), i.size, i.bytes)) = some (some 3, 3, 40) := by kernel_rfl
theorem frInfo : ∃ i z, Try.prog.info? 47 = some i ∧ i.zero = some z ∧ z.cells.size = 3 ∧ i.size = 3 ∧ i.bytes = 40 := by
  obtain ⟨i, hi, hz⟩ := Option.map_eq_some_iff.1 infoFr
  simp only [Prod.mk.injEq] at hz
  obtain ⟨h1, h2, h3⟩ := hz
  obtain ⟨z, hz1, hz2⟩ := Option.map_eq_some_iff.1 h1
  exact ⟨i, z, hi, hz1, hz2, h2, h3⟩
theorem rdI_grown {w w' : World} {v : Value} {zs : List Int} {row : Option Nat} (h : RdI w v zs) (hg : w.grownBy w' row) (hn : ∀ b, v.ownBlock = some b → row ≠ some b) : RdI w' v zs := by
  obtain ⟨h2, a, cap, rfl, h4⟩ := h
  refine ⟨h2, a, cap, rfl, ?_⟩
  rcases h4 with h4 | ⟨b', off, rfl, h6, h7⟩
  · exact .inl h4
  · refine .inr ⟨b', off, rfl, Nat.lt_of_lt_of_le h6 hg.size, fun i hi => ?_⟩
    rw [World.cell?_of_block (hg.block b' h6 (fun e => hn b' rfl e.symm))]; exact h7 i hi
section
variable {ops : Array Oper} {rest : List Oper} {o : Oper} {a : Act} {w : World} {Q : Exit → Act → World → Prop}
theorem wpList_append_fr (hgd : o.guard = none) (s x : Operand) (t : TypeId)
    (ho : o.op = .call { callee := .builtin .append, args := #[s, x], argTypes := #[t, t] })
    (base : Nat) (ht : Try.prog.underlying t = some (.slice 47))
    (v : Value) (fs : List Fr) (f : Fr) (hs : a.eval s = v) (hown : OwFr w base v fs)
    (b : Nat) (T : TypeId) (hx : a.eval x = .slice (some ⟨b, 0, none⟩) 1 1) (hb : Blk w b T (frc f).toArray)
    (hd : RdI w f.d f.l) (hdc : Capd f.d) (hdf : Fresh base f.d) (hda : ∀ b, f.d.ownBlock = some b → v.ownBlock ≠ some b ∧ b < w.heap.size)
    (hn : fs.length + 1 ≤ 1000000) (hbase : base ≤ w.heap.size)
    (h : ∀ v' w', OwFr w' base v' (fs ++ [f]) → w.grownBy w' v.ownBlock → wpList Try.prog ops Q rest (a.put o.dst v') w') : wpList Try.prog ops Q (o :: rest) a w := by
  obtain ⟨i, z, hi, hz0, hz1, hz2, hz3⟩ := frInfo
  refine wpList_append_own_at w hgd s x t ho base 47 i _ 3 40 ht hi hz0 hz2 hz3 hz1 (by decide) v fs.length (flatR fs) hs hown.own ⟨b, 0, none⟩ 1 1 (frc f) hx rfl (fun j u hu => ?_) (fun u hu => ?_) (by unfold maxLen; omega) (by omega) hbase (fun v' w' h2 h3 _ h5 => h v' w' ⟨?_, fun f' hf' => ?_⟩ h3)
  · have h9 := hb.cell (j := j) (v := u) (by simpa using hu)
    have e : (⟨b, 0, none⟩ : Addr).add j = ⟨b, j, none⟩ := by
      have h1 : ∀ off : Nat, (⟨b, off, none⟩ : Addr).add j = ⟨b, off + j, none⟩ := fun off => by simp [Addr.add]
      rw [h1, Nat.zero_add]
    rw [e]; exact h9
  · simp only [frc, List.mem_cons, List.not_mem_nil, or_false] at hu
    rcases hu with rfl | rfl | rfl
    · rfl
    · rfl
    · exact rdI_one hd
  · rw [flatR_append, flatR_one, List.length_append]; exact h2
  · have hlt : RdI w f'.d f'.l ∧ Capd f'.d ∧ Fresh base f'.d ∧ ∀ b, f'.d.ownBlock = some b → v.ownBlock ≠ some b ∧ b < w.heap.size := by
      rcases List.mem_append.1 hf' with hf' | hf'
      · exact hown.rd f' hf'
      · simp at hf'; subst hf'
        exact ⟨hd, hdc, hdf, hda⟩
    obtain ⟨q1, q2, q3, q4⟩ := hlt
    refine ⟨rdI_grown q1 h3 (fun b hb => (q4 b hb).1), q2, q3, fun b hb => ?_⟩
    have h6 := q4 b hb
    refine ⟨?_, Nat.lt_of_lt_of_le h6.2 h3.size⟩
    rcases h5 with h5 | h5
    · rw [h5]; exact h6.1
    · rw [h5]; intro e; injection e with e; omega
end
end Go.Proofs.Sky

namespace Go.Proofs.Sky
open Go Go.RowKit Go.Shelf
/-! plain: what Put writes Get reads -/
theorem lt_of_mul_near {r b u : Int} (hu : 1 ≤ u) (h : 2 * (r * u - b * u) ≤ u) : r ≤ b := by
  rcases Int.lt_or_le b r with h1 | h1
  · have h2 : (b + 1) * u ≤ r * u := Int.mul_le_mul_of_nonneg_right (by omega) (by omega)
    rw [Int.add_mul] at h2
    omega
  · exact h1
theorem rawN_exact (q u : Int) (hu : 1 ≤ u) : rawN (q * u) u = q := by
  obtain ⟨h1, h2⟩ := rawN_near (q * u) u hu
  have := lt_of_mul_near hu h1
  have := lt_of_mul_near hu h2
  omega
theorem rawN_range (d u lo hi : Int) (hu : 1 ≤ u) (h1 : lo * u ≤ d) (h2 : d ≤ hi * u) : lo ≤ rawN d u ∧ rawN d u ≤ hi := by
  obtain ⟨n1, n2⟩ := rawN_near d u hu
  constructor
  · exact lt_of_mul_near hu (by omega)
  · exact lt_of_mul_near hu (by omega)
theorem low_lt_high (n : Int) (g : Bool) (h1 : 1 ≤ n) : lowR n g + 1 ≤ highR n g := by
  unfold lowR highR
  have hp := pow_pred n h1
  have := pow_pos' (n.toNat - 1)
  cases g
  · simp; omega
  · simp; omega
theorem emod_step (y M : Int) (hM : 0 < M) : y % (2 * M) = 2 * (y / 2 % M) + y % 2 := by
  have h1 := Int.emod_add_mul_ediv y 2
  have h2 := Int.emod_add_mul_ediv (y / 2) M
  have h3 := Int.emod_nonneg (y / 2) (show M ≠ 0 by omega)
  have h4 := Int.emod_lt_of_pos (y / 2) hM
  have h5 := Int.emod_nonneg y (show (2 : Int) ≠ 0 by omega)
  have h6 := Int.emod_lt_of_pos y (show (0 : Int) < 2 by omega)
  have e : y = 2 * (y / 2 % M) + y % 2 + (2 * M) * (y / 2 / M) := by
    have : (2 * M) * (y / 2 / M) = 2 * (M * (y / 2 / M)) := by rw [Int.mul_assoc]
    omega
  generalize y / 2 % M = r at *
  generalize y % 2 = s at *
  rw [e, Int.add_mul_emod_self_left]
  exact Int.emod_eq_of_lt (by omega) (by omega)
theorem getN_put (zs : List Int) (A N : Nat) (x : Int) (h : A + N ≤ zs.length) : ∀ k, k ≤ N → getN (putL zs A N x N) A k = x / 2 ^ (N - k) % 2 ^ k := by
  intro k
  induction k with
  | zero => intro _; simp [getN]
  | succ k ih =>
    intro hk
    have hs : getN (putL zs A N x N) A (k + 1) = 2 * getN (putL zs A N x N) A k + (putL zs A N x N).getD (A + k) 0 := rfl
    rw [hs, ih (by omega), putL_get _ _ _ _ _ _ h, if_pos (by omega), show N - 1 - (A + k - A) = N - (k + 1) by omega]
    unfold bitN
    have e := bitN_step x (N - (k + 1))
    rw [show N - (k + 1) + 1 = N - k by omega] at e
    rw [← e, Int.pow_succ, Int.mul_comm (2 ^ k) 2, emod_step _ _ (pow_pos' k)]
theorem getN_put_all (zs : List Int) (A N : Nat) (x : Int) (h : A + N ≤ zs.length) : getN (putL zs A N x N) A N = x % 2 ^ N := by
  rw [getN_put zs A N x h N (Nat.le_refl _)]; simp
theorem sgnV_put (N : Nat) (g : Bool) (x : Int) (hN : 1 ≤ N) (h1 : lowR N g ≤ x) (h2 : x ≤ highR N g) : sgnV N g (x % 2 ^ N) = x := by
  unfold lowR at h1
  unfold highR at h2
  simp only [Int.toNat_natCast] at h1 h2
  have hp : (2 : Int) ^ N = 2 * 2 ^ (N - 1) := by have := pow_pred N (by omega); simpa using this
  have h0 := pow_pos' (N - 1)
  unfold sgnV sx
  rw [hp] at h2 ⊢
  generalize (2 : Int) ^ (N - 1) = P at *
  cases g
  · simp at h1 h2 ⊢
    exact Int.emod_eq_of_lt h1 (by omega)
  · simp at h1 h2 ⊢
    rcases Int.lt_or_le x 0 with hx | hx
    · have e : x % (2 * P) = x + 2 * P := by
        rw [← Int.add_emod_right]; exact Int.emod_eq_of_lt (by omega) (by omega)
      rw [e, if_pos (by omega)]; omega
    · have e : x % (2 * P) = x := Int.emod_eq_of_lt hx (by omega)
      rw [e, if_neg (by omega)]
theorem putL_twice (zs : List Int) (A N : Nat) (x : Int) (h : A + N ≤ zs.length) : putL (putL zs A N x N) A N x N = putL zs A N x N := by
  apply list_eq_getD (by rw [putL_length])
  intro i hi
  rw [putL_get _ _ _ _ _ _ (by rw [putL_length]; exact h)]
  by_cases hk : A ≤ i ∧ i < A + N
  · rw [if_pos hk, putL_get _ _ _ _ _ _ h, if_pos hk]
  · rw [if_neg hk]
/-- a field, bits that are all 0 or 1, and a value: what Put and Get do -/
theorem back_plain (zs : List Int) (A N : Nat) (g : Bool) (u c v : Int) (hf : fk A N u c) (hz : A + N ≤ zs.length) (hb : ∀ i, zs.getD i 0 = 0 ∨ zs.getD i 0 = 1) (hv : -2000000000000000000 ≤ v ∧ v ≤ 2000000000000000000) :
    (rawB N g u c v = false ∧ errP zs A N g u c v = 5 ∧ putR zs A N g u c v = [] ∧ (v < c + lowR N g * u ∨ c + highR N g * u < v)) ∨
    (∃ q out, errP zs A N g u c v = 0 ∧ putR zs A N g u c v = out ∧ out.length = zs.length ∧ (∀ i, ¬ (A ≤ i ∧ i < A + N) → out.getD i 0 = zs.getD i 0) ∧ errT out A N u c = 0 ∧ getV out A N g u c = c + q * u ∧ errP out A N g u c (c + q * u) = 0 ∧ putR out A N g u c (c + q * u) = out ∧
      lowR N g ≤ q ∧ q ≤ highR N g ∧ 2 * (c + q * u - v) ≤ u ∧ 2 * (v - (c + q * u)) ≤ u ∧ 2 * (c + lowR N g * u - v) ≤ u ∧ 2 * (v - (c + highR N g * u)) ≤ u) := by
  obtain ⟨f1, f2, f3, f4, f5, f6, f7, f8, f9⟩ := hf
  have hfk : fk A N u c := ⟨f1, f2, f3, f4, f5, f6, f7, f8, f9⟩
  have hT : errT zs A N u c = 0 := by
    unfold errT
    rw [if_pos (errF_ok hfk), if_neg (by omega), if_pos ((oksP_iff _ _ _).2 (fun i _ => hb _))]
  have hin := (inV_iff v).2 hv
  have hN : 1 ≤ N := by omega
  cases hB : rawB N g u c v with
  | false =>
    left
    have hB2 := hB
    rw [rawB_in hin, decide_eq_false_iff_not] at hB2
    have he : errP zs A N g u c v = 5 := by unfold errP; rw [if_pos hT, hB, if_neg (by simp)]
    refine ⟨rfl, he, by unfold putR; rw [he, if_neg (by omega)], ?_⟩
    rcases Int.lt_or_le v (c + lowR N g * u) with h | h
    · exact .inl h
    · rcases Int.lt_or_le (c + highR N g * u) v with h' | h'
      · exact .inr h'
      · exact absurd (rawN_range (v - c) u _ _ f6 (by omega) (by omega)) hB2
  | true =>
    right
    have hB2 := hB
    rw [rawB_in hin, decide_eq_true_iff] at hB2
    obtain ⟨q1, q2⟩ := hB2
    have ⟨n1, n2⟩ := rawN_near (v - c) u f6
    have he : errP zs A N g u c v = 0 := by unfold errP; rw [if_pos hT, hB, if_pos rfl]
    have hrV : rawV u c v = rawN (v - c) u := rawV_in hin
    have hput : putR zs A N g u c v = putL zs A N (rawN (v - c) u) N := by unfold putR; rw [if_pos he, hrV]; simp
    generalize rawN (v - c) u = q at *
    have hlen : (putL zs A N q N).length = zs.length := putL_length _ _ _ _ _
    have hbits : ∀ i, i < N → (putL zs A N q N).getD (A + i) 0 = 0 ∨ (putL zs A N q N).getD (A + i) 0 = 1 := fun i hi => by
      rw [putL_get _ _ _ _ _ _ hz, if_pos (by omega)]; exact bitN_01 _ _
    have hT2 : errT (putL zs A N q N) A N u c = 0 := by
      unfold errT
      rw [if_pos (errF_ok hfk), if_neg (by rw [hlen]; omega), if_pos ((oksP_iff _ _ _).2 (by simpa using hbits))]
    have hl := lowR_bd N g (by omega) (by omega)
    have hh := highR_bd N g (by omega) (by omega)
    have hmul := mul_bd q u (by omega) (by omega) f6 f7
    have hin2 : inV (c + q * u) = true := (inV_iff _).2 (by omega)
    have hraw : rawN (c + q * u - c) u = q := by rw [show c + q * u - c = q * u by omega]; exact rawN_exact q u f6
    have hB3 : rawB N g u c (c + q * u) = true := by rw [rawB_in hin2, hraw, decide_eq_true_iff]; exact ⟨q1, q2⟩
    have he2 : errP (putL zs A N q N) A N g u c (c + q * u) = 0 := by unfold errP; rw [if_pos hT2, hB3, if_pos rfl]
    have hput2 : putR (putL zs A N q N) A N g u c (c + q * u) = putL zs A N q N := by
      unfold putR; rw [if_pos he2, rawV_in hin2, hraw]; simp only [Int.toNat_natCast]; exact putL_twice zs A N q hz
    have hm1 : lowR N g * u ≤ q * u := Int.mul_le_mul_of_nonneg_right q1 (by omega)
    have hm2 : q * u ≤ highR N g * u := Int.mul_le_mul_of_nonneg_right q2 (by omega)
    refine ⟨q, _, he, hput, hlen, fun i hi => ?_, hT2, ?_, he2, hput2, q1, q2, by omega, by omega, by omega, by omega⟩
    · rw [putL_get _ _ _ _ _ _ hz, if_neg hi]
    · unfold getV
      rw [getN_put_all _ _ _ _ hz, sgnV_put N g q hN q1 q2]
end Go.Proofs.Sky

namespace Go.Proofs.Sky
open Go Go.RowKit Go.Shelf
set_option maxHeartbeats 2000000
def unR (i : Nat) (zs out : List Int) : List Fd → List Int × (Int × Int)
  | [] => (out, (0, 0))
  | f :: r => if errT zs f.a f.n f.u f.c = 0 then unR (i + 1) zs (out ++ [getR zs f.a f.n f.g f.u f.c]) r else ([], (errT zs f.a f.n f.u f.c, (i : Int)))
def unpackR (fs : List Fd) (zs : List Int) : List Int × (Int × Int) := if (layout fs zs.length).1 = 0 then unR 0 zs [] fs else ([], layout fs zs.length)
theorem un_step (k : Nat) (zs out : List Int) (fs : List Fd) (f : Fd) (h : fs[k]? = some f) : unR k zs out (fs.drop k) = if errT zs f.a f.n f.u f.c = 0 then unR (k + 1) zs (out ++ [getR zs f.a f.n f.g f.u f.c]) (fs.drop (k + 1)) else ([], (errT zs f.a f.n f.u f.c, (k : Int))) := by
  obtain ⟨hk, e⟩ := List.getElem?_eq_some_iff.1 h
  rw [List.drop_eq_getElem_cons hk, e, unR]
theorem PkC.grow {w a b : World} {row : Option Nat} (h : PkC w a) (hg : a.grownBy b row) (hr : ∀ j, row = some j → w.heap.size + 1 ≤ j) : PkC w b := by
  have ne : some w.heap.size ≠ row := fun e => by have := hr _ e.symm; omega
  exact ⟨Below.grown h.bw.out hg h.bw.size (fun k e => by have := hr k e; omega), Nat.le_trans h.sz hg.size, hg.cell h.r0 ne, hg.cell h.r1 ne, (World.frozen?_of_block (hg.block _ (lt_of_cell h.r0) ne)).trans h.f0, (World.frozen?_of_block (hg.block _ (lt_of_cell h.r0) ne)).trans h.f1⟩
theorem unpack_lay (fs : List Fd) (zs : List Int) (vf vv : Value) (w : World) (hf : RdF w vf fs) (hv : RdI w vv zs) (hl : (layout fs zs.length).1 ≠ 0) :
    Calls Try.prog 64 #[vf, vv] w fun e w' => PackP w.heap.size [] (layout fs zs.length).1 (layout fs zs.length).2 e w' ∧ Bw w w' := by
  have HL := Lib.hid (fun W hW => Layout_any fs vf zs.length W hW)
  have HF := Lib.hid hf
  obtain ⟨a1, c1, rfl⟩ := hf.form
  obtain ⟨a2, c2, rfl⟩ := hv.form
  clear hf hv
  unfold LayP at HL
  have hne : ((layout fs zs.length).1 != 0) = true := by simpa using hl
  clear hl
  generalize layout fs zs.length = lay at *
  obtain ⟨l1, l2⟩ := lay
  go_enter Try.func64, Try.ntmps64
  go_wp2_with (go_at_call 57; refine (HL.out _ (HF.out.mono (by repeat (first | exact Bw.refl _ | assumption | refine Bw.alloc ?_ _ | refine Bw.drew ?_ | refine Bw.trans ?_ (by assumption) | refine Bw.setCell ?_ (by simp; try omega) _)))).mono ?_; rintro e w' ⟨rfl, hb⟩; obtain ⟨hcc, hff⟩ := Bw.cells hb; have hsz := Bw.size hb; try (have hz0 : w.heap.size < w'.heap.size := by (try simp at hsz); omega); try (have hz1 : w.heap.size + 1 < w'.heap.size := by (try simp at hsz); omega); try (have hz2 : w.heap.size + 1 + 1 < w'.heap.size := by (try simp at hsz); omega); try (have hz3 : w.heap.size + 1 + 1 + 1 < w'.heap.size := by (try simp at hsz); omega); try (have hz4 : w.heap.size + 1 + 1 + 1 + 1 < w'.heap.size := by (try simp at hsz); omega); try (have hzr : wr.heap.size < w'.heap.size := by (try simp at hsz); omega); try (have hzr1 : wr.heap.size + 1 < w'.heap.size := by (try simp at hsz); omega))
  have hC : PkC w (w'.alloc (Obj.cells #[.int .i64 l1, .int .i64 l2] 72)) := ⟨(by repeat (first | exact Bw.refl _ | assumption | refine Bw.alloc ?_ _ | refine Bw.drew ?_ | refine Bw.trans ?_ (by assumption) | refine Bw.setCell ?_ (by simp; try omega) _)), by simp; omega, by simp [*, go_sem], by simp [*, go_sem], by simp [*, go_sem], by simp [*, go_sem]⟩
  have q0 : (w'.alloc (Obj.cells #[.int .i64 l1, .int .i64 l2] 72)).cell? ⟨w'.heap.size, 0, none⟩ = some (.int .i64 l1) := by simp [go_sem]
  have q1 : (w'.alloc (Obj.cells #[.int .i64 l1, .int .i64 l2] 72)).cell? ⟨w'.heap.size, 1, none⟩ = some (.int .i64 l2) := by simp [go_sem]
  generalize (w'.alloc (Obj.cells #[.int .i64 l1, .int .i64 l2] 72)) = W0 at hC q0 q1 ⊢
  clear hcc hff
  have e0 := fun p : Ext W0 => Ext.cell' q0 p
  have e1 := fun p : Ext W0 => Ext.cell' q1 p
  (refine wp_region_ext_tail 2 (by kernel_rfl) (by kernel_rfl) ?_; simp only [List.take_succ_cons, List.take_zero, List.drop_succ_cons, List.drop_zero]; (repeat (go_big_quiet_step ((fail)))); refine wpQuiet_nil ?_; rintro wq ⟨⟨_, hbq⟩, rfl⟩; obtain ⟨hccq, hffq⟩ := Bw.cells hbq; have hszq := Bw.size hbq)
  have hC2 := hC.mono hbq
  have r0 := hC2.r0
  have r1 := hC2.r1
  have f0 := hC2.f0
  have f1 := hC2.f1
  clear hccq hffq e0 e1
  go_wp2
  have hF := hC2.fault (.int .i64 l1) (.int .i64 l2)
  refine bodyPost_ret (v := .tuple #[.slice none 0 0, .agg #[.int .i64 l1, .int .i64 l2]]) ?_ rfl ⟨?_, ?_⟩
  · simp [results, Try.results64, go_sem, hF.2.1, hF.2.2]
  · exact packP_nil _ _ _ _
  · exact hF.1
theorem unpack_ok (fs : List Fd) (zs : List Int) (vf vv : Value) (w : World) (hf : RdF w vf fs) (hv : RdI w vv zs) (hl : (layout fs zs.length).1 = 0) :
    Calls Try.prog 64 #[vf, vv] w fun e w' => PackP w.heap.size (unR 0 zs [] fs).1 (unR 0 zs [] fs).2.1 (unR 0 zs [] fs).2.2 e w' ∧ Bw w w' := by
  have HL := Lib.hid (fun W hW => Layout_any fs vf zs.length W hW)
  have HGT := Lib.hid (fun a n g u c W hW => Get_any zs vv a n g u c W hW)
  have HF := Lib.hid hf
  have HV := Lib.hid hv
  obtain ⟨hlen, a1, c1, rfl, hz⟩ := hf
  obtain ⟨hl100, hgood⟩ := layout_zero hl
  have HG := Lib.hid hgood; clear hgood
  have HZ := Lib.hid hz; clear hz
  obtain ⟨a2, c2, rfl⟩ := hv.form
  clear hv
  unfold LayP at HL
  unfold GetP at HGT
  rw [hl] at HL
  obtain ⟨m, hm⟩ : ∃ m, fs.length = m := ⟨_, rfl⟩
  have HN := Lib.hid hm
  rw [hm] at hl100 HF HL ⊢
  obtain ⟨R, hR⟩ : ∃ R, unR 0 zs [] fs = R := ⟨_, rfl⟩
  rw [hR]
  have HR := Lib.hid hR
  clear hl hm hR
  go_enter Try.func64, Try.ntmps64
  go_wp2_with (go_at_call 57; refine (HL.out _ (HF.out.mono (by repeat (first | exact Bw.refl _ | assumption | refine Bw.alloc ?_ _ | refine Bw.drew ?_ | refine Bw.trans ?_ (by assumption) | refine Bw.setCell ?_ (by simp; try omega) _)))).mono ?_; rintro e w' ⟨rfl, hb⟩; obtain ⟨hcc, hff⟩ := Bw.cells hb; have hsz := Bw.size hb; try (have hz0 : w.heap.size < w'.heap.size := by (try simp at hsz); omega); try (have hz1 : w.heap.size + 1 < w'.heap.size := by (try simp at hsz); omega); try (have hz2 : w.heap.size + 1 + 1 < w'.heap.size := by (try simp at hsz); omega); try (have hz3 : w.heap.size + 1 + 1 + 1 < w'.heap.size := by (try simp at hsz); omega); try (have hz4 : w.heap.size + 1 + 1 + 1 + 1 < w'.heap.size := by (try simp at hsz); omega); try (have hzr : wr.heap.size < w'.heap.size := by (try simp at hsz); omega); try (have hzr1 : wr.heap.size + 1 < w'.heap.size := by (try simp at hsz); omega))
  have hC : PkC w (w'.alloc (Obj.cells #[.int .i64 0, .int .i64 (layout fs zs.length).2] 72)) := ⟨(by repeat (first | exact Bw.refl _ | assumption | refine Bw.alloc ?_ _ | refine Bw.drew ?_ | refine Bw.trans ?_ (by assumption) | refine Bw.setCell ?_ (by simp; try omega) _)), by simp; omega, by simp [*, go_sem], by simp [*, go_sem], by simp [*, go_sem], by simp [*, go_sem]⟩
  generalize (w'.alloc (Obj.cells #[.int .i64 0, .int .i64 (layout fs zs.length).2] 72)) = W0 at hC ⊢
  clear hcc hff hb hsz
  go_loopw [7, 22] (fun v i wr => ∃ k : Nat, k ≤ m ∧ i = .int .i64 k ∧ PkC w wr ∧ Hid (∃ out : List Int, out.length = k ∧ wr.ownsRow (w.heap.size + 1) 3 1 v out.length (out.map (Value.int .i64)) ∧ unR k zs out (fs.drop k) = R)) (fun _ i _ => m - (intOf i).toNat)
  case atStart => exact ⟨0, Nat.zero_le _, rfl, hC, [], rfl, World.ownsRow_nil _ _ _ _, by simpa using HR.out⟩
  case round =>
    obtain ⟨k, hk, rfl, hCr, HW⟩ := hrel
    obtain ⟨out, hol, hown, hun⟩ := HW.out
    clear HW
    by_cases hlt : k < m
    · have hn2 := HN.out
      obtain ⟨b1, o1, rfl, hb1, hz1⟩ := HZ.out.resolve_left (by intro e; subst e; simp at hn2; omega)
      have hfe : fs[k]? = some fs[k] := List.getElem?_eq_getElem (by omega)
      have hgd := HG.out fs[k] (List.getElem_mem (by omega))
      have hst := un_step k zs out fs _ hfe
      generalize fs[k] = f at hfe hgd hst
      obtain ⟨fa, fn, fg, fu, fc⟩ := f
      obtain ⟨d0, d1, d2, d3, d4⟩ := hz1 k _ hfe
      replace d0 := hCr.bw.cell' d0
      replace d1 := hCr.bw.cell' d1
      replace d2 := hCr.bw.cell' d2
      replace d3 := hCr.bw.cell' d3
      replace d4 := hCr.bw.cell' d4
      dsimp only at d0 d1 d2 d3 d4 hst
      have HST := Lib.hid (hun.symm.trans hst)
      have HGX := Lib.hid (fun W hW => HGT.out fa fn fg fu fc W hW)
      have hki : (k : Int) < m := by omega
      have HO := Lib.hid hown
      have HOL := Lib.hid hol
      clear hz1 hfe hgd hst hn2 hun hown hol
      by_cases he : errT zs fa fn fu fc = 0
      · rw [he] at HGX
        have HSS := Lib.hid (show R = unR (k + 1) zs (out ++ [getR zs fa fn fg fu fc]) (fs.drop (k + 1)) by rw [HST.out, if_pos he])
        clear he HST HGT
        go_wp2_with (first | (go_at_call 70; refine (HGX.out _ (HV.out.mono (by first | exact hCr.bw | exact Bw.alloc hCr.bw _))).mono ?_; rintro e w3 ⟨rfl, hb3⟩; have hb3' : Bw wr w3 := (by first | exact hb3 | exact Bw.trans (Bw.alloc (Bw.refl _) _) hb3); have hC3 := hCr.mono hb3'; have HO3 := Lib.hid (own_bw HO.out hb3')) | (at_builtin; refine wpList_append_int1 rfl _ _ _ rfl (w.heap.size + 1) 3 Try.underlying40 infoInt _ out (getR zs fa fn fg fu fc) rfl (HO3.out.alloc _) w3.heap.size rfl (by simp [go_sem]) (by have := HOL.out; omega) (by have := hC3.sz; simp; omega) ?_))
        intro v' w4 hown4 hgrow4
        have hC4 : PkC w w4 := (hC3.mono (Bw.alloc (Bw.refl _) _)).grow hgrow4 (fun j hj => (HO3.out.lt j hj).1)
        have HO4 := Lib.hid hown4
        clear hown4 hgrow4
        go_wp2
        go_roundw
        case rel => exact ⟨k + 1, by omega, by go_num, hC4, out ++ [getR zs fa fn fg fu fc], by simp [HOL.out], by simpa using HO4.out, HSS.out.symm⟩
        case measure => simp [intOf]; omega
      · have HSS := Lib.hid (show R = ([], (errT zs fa fn fu fc, (k : Int))) by rw [HST.out, if_neg he])
        have hne : (errT zs fa fn fu fc != 0) = true := by simpa using he
        clear he HST HGT
        generalize errT zs fa fn fu fc = er at *
        go_wp2_with ((go_at_call 70; refine (HGX.out _ (HV.out.mono (by first | exact hCr.bw | exact Bw.alloc hCr.bw _))).mono ?_; rintro e w3 ⟨rfl, hb3⟩; have hb3' : Bw wr w3 := (by first | exact hb3 | exact Bw.trans (Bw.alloc (Bw.refl _) _) hb3); have hC3 := hCr.mono hb3'; have r0 := hC3.r0; have r1 := hC3.r1; have f0 := hC3.f0; have f1 := hC3.f1))
        have hF := hC3.fault (.int .i64 er) (.int .i64 k)
        refine bodyPost_ret (v := .tuple #[.slice none 0 0, .agg #[.int .i64 er, .int .i64 k]]) ?_ rfl ⟨?_, ?_⟩
        · simp [results, Try.results64, go_sem, hF.2.1, hF.2.2]
        · rw [HSS.out]; exact packP_nil _ _ _ _
        · exact hF.1
    · obtain rfl : k = m := by omega
      have hd : fs.drop k = [] := by rw [List.drop_eq_nil_iff]; have := HN.out; omega
      rw [hd] at hun
      have HSS := Lib.hid (show R = (out, ((0 : Int), (0 : Int))) from hun.symm)
      have hrd := own_rd hown (by omega)
      have hcd := own_capd hown
      have HRD := Lib.hid hrd
      obtain ⟨ao, co, rfl⟩ := hrd.1.form
      have r0 := hCr.r0
      have r1 := hCr.r1
      have f0 := hCr.f0
      have f1 := hCr.f1
      clear hd hun hown hrd
      go_wp2
      have hF := hCr.fault (.int .i64 0) (.int .i64 0)
      refine bodyPost_ret (v := .tuple #[.slice ao out.length co, .agg #[.int .i64 0, .int .i64 0]]) ?_ rfl ⟨?_, ?_⟩
      · simp [results, Try.results64, go_sem, hF.2.1, hF.2.2]
      · rw [HSS.out]
        exact ⟨_, rfl, ((HRD.out.1.set HRD.out.2 (by omega) _ _).set HRD.out.2 (by omega) _ _), HRD.out.2.mono (by omega), hcd⟩
      · exact hF.1
theorem Unpack_any (fs : List Fd) (zs : List Int) (vf vv : Value) (w : World) (hf : RdF w vf fs) (hv : RdI w vv zs) :
    Calls Try.prog 64 #[vf, vv] w fun e w' => PackP w.heap.size (unpackR fs zs).1 (unpackR fs zs).2.1 (unpackR fs zs).2.2 e w' ∧ Bw w w' := by
  by_cases hl : (layout fs zs.length).1 = 0
  · have e : unpackR fs zs = unR 0 zs [] fs := by unfold unpackR; rw [if_pos hl]
    rw [e]; exact unpack_ok fs zs vf vv w hf hv hl
  · have e : unpackR fs zs = ([], layout fs zs.length) := by unfold unpackR; rw [if_neg hl]
    rw [e]; exact unpack_lay fs zs vf vv w hf hv hl
end Go.Proofs.Sky

namespace Go.Proofs.Sky
/-! chapter 25, plain: the order of the fields -/
def fldV (p : Fd × Int) : Int := p.1.c + p.2 * p.1.u
def okP (e : Int) (p : Fd × Int) : Prop := fk p.1.a p.1.n p.1.u p.1.c ∧ p.1.a + p.1.n ≤ e ∧ lowR p.1.n p.1.g ≤ p.2 ∧ p.2 ≤ highR p.1.n p.1.g ∧ -1000000 ≤ p.1.c ∧ p.1.c ≤ 1000000
def disP (p p' : Fd × Int) : Prop := p.1.a + p.1.n ≤ p'.1.a ∨ p'.1.a + p'.1.n ≤ p.1.a
theorem lay_ok (b : Int) : ∀ (r pre : List Fd), (∀ f ∈ r, fk f.a f.n f.u f.c ∧ f.a + f.n ≤ b) → r.Pairwise (fun f h => f.a + f.n ≤ h.a ∨ h.a + h.n ≤ f.a) → (∀ f ∈ r, ∀ h ∈ pre, f.a + f.n ≤ h.a ∨ h.a + h.n ≤ f.a) → lay b pre r = (0, 0) := by
  intro r
  induction r with
  | nil => intro pre _ _ _; rfl
  | cons f r ih =>
    intro pre h1 h2 h3
    have hE : layE pre f b = 0 := by
      have := h1 f (by simp)
      unfold layE
      rw [errF_ok this.1, if_pos rfl, if_neg (by omega), if_neg]
      intro hd
      have hn : dbl pre f = false := dbl_no pre f (fun y hy => by
        unfold tk
        rw [List.any_eq_false]
        intro h hh
        have := h3 f (by simp) h hh
        simp only [decide_eq_true_iff]
        omega)
      rw [hn] at hd; cases hd
    rw [lay, if_pos hE]
    rw [List.pairwise_cons] at h2
    exact ih _ (fun g hg => h1 g (List.mem_cons_of_mem _ hg)) h2.2 (fun g hg h hh => by
      rcases List.mem_append.1 hh with hh | hh
      · exact h3 g (List.mem_cons_of_mem _ hg) h hh
      · rw [List.mem_singleton] at hh
        subst hh
        have := h2.1 g hg
        omega)
theorem layout_ok (b : Int) (ps : List (Fd × Int)) (h1 : ∀ p ∈ ps, okP b p) (h2 : ps.Pairwise disP) (h3 : ps.length ≤ 100) : layout (ps.map (·.1)) b = (0, 0) := by
  unfold layout
  rw [if_neg (by rw [List.length_map]; omega)]
  refine lay_ok b _ [] (fun f hf => ?_) ?_ (fun f _ h hh => by cases hh)
  · obtain ⟨p, hp, rfl⟩ := List.mem_map.1 hf
    exact ⟨(h1 p hp).1, (h1 p hp).2.1⟩
  · rw [List.pairwise_map]
    exact h2
def putF2 (zs : List Int) (p : Fd × Int) : List Int := putL zs p.1.a.toNat p.1.n.toNat p.2 p.1.n.toNat
theorem raw_ok (e : Int) (p : Fd × Int) (h : okP e p) : rawB p.1.n p.1.g p.1.u p.1.c (fldV p) = true ∧ rawV p.1.u p.1.c (fldV p) = p.2 := by
  obtain ⟨⟨f1, f2, f3, f4, f5, f6, f7, f8, f9⟩, g1, g2, g3, g4, g5⟩ := h
  have hl := lowR_bd p.1.n p.1.g f3 f4
  have hh := highR_bd p.1.n p.1.g f3 f4
  have hb := mul_bd p.2 p.1.u (by omega) (by omega) (by omega) (by omega)
  have hin : inV (fldV p) = true := (inV_iff _).2 (by unfold fldV; omega)
  have he : fldV p - p.1.c = p.2 * p.1.u := by unfold fldV; omega
  have hr : rawN (fldV p - p.1.c) p.1.u = p.2 := by rw [he]; exact rawN_exact _ _ f6
  refine ⟨?_, ?_⟩
  · unfold rawB; rw [hin, hr]; simp [g2, g3]
  · unfold rawV; rw [hin, hr]; rfl
theorem pk_ok (e : Int) : ∀ (ps : List (Fd × Int)) (i : Nat) (zs : List Int), (∀ p ∈ ps, okP e p) → pk i zs (ps.map (fun p => (p.1, fldV p))) = (ps.foldl putF2 zs, (0, 0)) := by
  intro ps
  induction ps with
  | nil => intro i zs _; rfl
  | cons p r ih =>
    intro i zs h
    have hr := raw_ok e p (h p (by simp))
    rw [List.map_cons, pk, if_pos hr.1, hr.2, ih _ _ (fun q hq => h q (List.mem_cons_of_mem _ hq)), List.foldl_cons]
    rfl
def cov (p : Fd × Int) (k : Nat) : Prop := p.1.a.toNat ≤ k ∧ k < p.1.a.toNat + p.1.n.toNat
theorem fold_get (e : Nat) : ∀ (ps : List (Fd × Int)) (zs : List Int), (∀ p ∈ ps, okP e p) → ps.Pairwise disP → e ≤ zs.length → (ps.foldl putF2 zs).length = zs.length ∧ (∀ p ∈ ps, ∀ k, cov p k → (ps.foldl putF2 zs).getD k 0 = bitN p.2 (p.1.n.toNat - 1 - (k - p.1.a.toNat))) ∧ (∀ k, (∀ p ∈ ps, ¬ cov p k) → (ps.foldl putF2 zs).getD k 0 = zs.getD k 0) := by
  intro ps
  induction ps with
  | nil => intro zs _ _ _; exact ⟨rfl, (fun p hp => by cases hp), fun _ _ => rfl⟩
  | cons p r ih =>
    intro zs h1 h2 h3
    have hp := h1 p (by simp)
    obtain ⟨⟨f1, f2, f3, f4, f5, f6⟩, g1, _⟩ := hp
    rw [List.pairwise_cons] at h2
    have hl : (putF2 zs p).length = zs.length := putL_length _ _ _ _ _
    obtain ⟨a1, a2, a3⟩ := ih (putF2 zs p) (fun q hq => h1 q (List.mem_cons_of_mem _ hq)) h2.2 (by rw [hl]; exact h3)
    have hg := fun k => putL_get zs p.1.a.toNat p.1.n.toNat p.2 p.1.n.toNat k (by omega)
    rw [List.foldl_cons]
    refine ⟨a1.trans hl, fun q hq k hk => ?_, fun k hk => ?_⟩
    · rcases List.mem_cons.1 hq with rfl | hq
      · rw [a3 k (fun q' hq' hc => ?_)]
        · unfold putF2; rw [hg k, if_pos (show _ ∧ _ from hk)]
        · have hd := h2.1 q' hq'
          have ho := h1 q' (List.mem_cons_of_mem _ hq')
          obtain ⟨⟨e1, e2, e3, e4, _⟩, _⟩ := ho
          unfold disP at hd
          unfold cov at hc hk
          omega
      · exact a2 q hq k hk
    · rw [a3 k (fun q hq => hk q (List.mem_cons_of_mem _ hq))]
      unfold putF2; rw [hg k, if_neg (show ¬ (_ ∧ _) from hk p (by simp))]
theorem dis_rev (ps : List (Fd × Int)) (h : ps.Pairwise disP) : ps.reverse.Pairwise disP := by
  rw [List.pairwise_reverse]
  exact h.imp (fun {a b} h => by unfold disP at *; omega)
theorem list_ext0 (l m : List Int) (hl : l.length = m.length) (h : ∀ i, i < l.length → l.getD i 0 = m.getD i 0) : l = m := by
  apply List.ext_getElem hl
  intro i h1 h2
  have := h i h1
  rw [List.getD_eq_getElem?_getD, List.getD_eq_getElem?_getD, List.getElem?_eq_getElem h1, List.getElem?_eq_getElem h2] at this
  exact this
theorem fold_rev (e : Nat) (ps : List (Fd × Int)) (zs : List Int) (h1 : ∀ p ∈ ps, okP e p) (h2 : ps.Pairwise disP) (h3 : e ≤ zs.length) : ps.reverse.foldl putF2 zs = ps.foldl putF2 zs := by
  obtain ⟨a1, a2, a3⟩ := fold_get e ps zs h1 h2 h3
  obtain ⟨b1, b2, b3⟩ := fold_get e ps.reverse zs (fun p hp => h1 p (List.mem_reverse.1 hp)) (dis_rev ps h2) h3
  refine list_ext0 _ _ (b1.trans a1.symm) (fun k _ => ?_)
  by_cases hc : ∃ p ∈ ps, cov p k
  · obtain ⟨p, hp, hc⟩ := hc
    rw [a2 p hp k hc, b2 p (List.mem_reverse.2 hp) k hc]
  · have hc' : ∀ p ∈ ps, ¬ cov p k := fun p hp h => hc ⟨p, hp, h⟩
    rw [a3 k hc', b3 k (fun p hp => hc' p (List.mem_reverse.1 hp))]
theorem getN_congr (zs ys : List Int) (a : Nat) : ∀ n, (∀ i, i < n → zs.getD (a + i) 0 = ys.getD (a + i) 0) → getN zs a n = getN ys a n := by
  intro n
  induction n with
  | zero => intro _; rfl
  | succ n ih =>
    intro h
    rw [getN, getN, ih (fun i hi => h i (by omega)), h n (by omega)]
theorem get_ok (e : Nat) (A : List Int) (p : Fd × Int) (hp : okP e p) (hl : e ≤ A.length) (h : ∀ k, cov p k → A.getD k 0 = bitN p.2 (p.1.n.toNat - 1 - (k - p.1.a.toNat))) : errT A p.1.a p.1.n p.1.u p.1.c = 0 ∧ getR A p.1.a p.1.n p.1.g p.1.u p.1.c = fldV p := by
  obtain ⟨hf, g1, g2, g3, _⟩ := hp
  have hf' := hf
  obtain ⟨f1, f2, f3, f4, f5, f6⟩ := hf'
  have hE : errT A p.1.a p.1.n p.1.u p.1.c = 0 := by
    unfold errT
    rw [errF_ok hf, if_pos rfl, if_neg (by omega), if_pos ((oksP_iff _ _ _).2 (fun i hi => by
      rw [h _ ⟨by omega, by omega⟩]; exact bitN_01 _ _))]
  refine ⟨hE, ?_⟩
  unfold getR
  rw [if_pos hE]
  unfold getV fldV
  have h1 : getN A p.1.a.toNat p.1.n.toNat = p.2 % 2 ^ p.1.n.toNat := by
    rw [← getN_put_all A p.1.a.toNat p.1.n.toNat p.2 (by omega)]
    refine getN_congr _ _ _ _ (fun i hi => ?_)
    rw [putL_get A _ _ _ _ _ (by omega), if_pos ⟨by omega, by omega⟩, h _ ⟨by omega, by omega⟩]
  have h2 := sgnV_put p.1.n.toNat p.1.g p.2 (by omega) (by rw [Int.toNat_of_nonneg (by omega)]; exact g2) (by rw [Int.toNat_of_nonneg (by omega)]; exact g3)
  rw [h1, h2]
theorem unR_ok (A : List Int) : ∀ (ps : List (Fd × Int)) (i : Nat) (out : List Int), (∀ p ∈ ps, errT A p.1.a p.1.n p.1.u p.1.c = 0 ∧ getR A p.1.a p.1.n p.1.g p.1.u p.1.c = fldV p) → unR i A out (ps.map (·.1)) = (out ++ ps.map fldV, (0, 0)) := by
  intro ps
  induction ps with
  | nil => intro i out _; simp [unR]
  | cons p r ih =>
    intro i out h
    have hp := h p (by simp)
    rw [List.map_cons, unR, if_pos hp.1, hp.2, ih _ _ (fun q hq => h q (List.mem_cons_of_mem _ hq)), List.map_cons, List.append_assoc]
    rfl
theorem zip_map2 {α β γ : Type} (l : List α) (f : α → β) (g : α → γ) : (l.map f).zip (l.map g) = l.map (fun a => (f a, g a)) := by
  induction l with
  | nil => rfl
  | cons a l ih => simp [ih]
theorem pack_plain (e : Nat) (ps : List (Fd × Int)) (h1 : ∀ p ∈ ps, okP e p) (h2 : ps.Pairwise disP) (h3 : ps.length ≤ 100) (he : e ≤ 3000) : packR ((e : Int) + 2) (ps.map (·.1)) (ps.map fldV) = (ps.foldl putF2 (List.replicate (e + 2) 0), (0, 0)) := by
  have hok : ∀ p ∈ ps, okP ((e : Int) + 2) p := fun p hp => by
    obtain ⟨a1, a2, a3⟩ := h1 p hp
    exact ⟨a1, by omega, a3⟩
  unfold packR
  rw [if_neg (by omega), layout_ok _ ps hok h2 h3, if_pos rfl, if_pos (by simp), zip_map2, pk_ok e ps 0 _ h1]
  rw [show ((e : Int) + 2).toNat = e + 2 by omega]
theorem orders_plain (e : Nat) (ps : List (Fd × Int)) (h1 : ∀ p ∈ ps, okP e p) (h2 : ps.Pairwise disP) (h3 : ps.length ≤ 100) (he : e ≤ 3000) :
    ∃ A : List Int, A.length = e + 2 ∧ packR ((e : Int) + 2) (ps.map (·.1)) (ps.map fldV) = (A, (0, 0)) ∧ packR ((e : Int) + 2) (ps.reverse.map (·.1)) (ps.reverse.map fldV) = (A, (0, 0)) ∧ unpackR (ps.map (·.1)) A = (ps.map fldV, (0, 0)) ∧
      (∀ p ∈ ps, errT A p.1.a p.1.n p.1.u p.1.c = 0 ∧ getR A p.1.a p.1.n p.1.g p.1.u p.1.c = fldV p) ∧ (∀ k, (∀ p ∈ ps, ¬ cov p k) → A.getD k 0 = 0) := by
  obtain ⟨a1, a2, a3⟩ := fold_get e ps (List.replicate (e + 2) 0) h1 h2 (by simp)
  have hlen : (ps.foldl putF2 (List.replicate (e + 2) 0)).length = e + 2 := by rw [a1]; simp
  have hg : ∀ p ∈ ps, errT (ps.foldl putF2 (List.replicate (e + 2) 0)) p.1.a p.1.n p.1.u p.1.c = 0 ∧ getR (ps.foldl putF2 (List.replicate (e + 2) 0)) p.1.a p.1.n p.1.g p.1.u p.1.c = fldV p := fun p hp => get_ok e _ p (h1 p hp) (by rw [hlen]; omega) (a2 p hp)
  refine ⟨_, hlen, pack_plain e ps h1 h2 h3 he, ?_, ?_, hg, fun k hk => ?_⟩
  · rw [pack_plain e ps.reverse (fun p hp => h1 p (List.mem_reverse.1 hp)) (dis_rev ps h2) (by rw [List.length_reverse]; exact h3) he, fold_rev e ps _ h1 h2 (by simp)]
  · unfold unpackR
    rw [hlen, layout_ok ((e + 2 : Nat) : Int) ps (fun p hp => by obtain ⟨b1, b2, b3⟩ := h1 p hp; exact ⟨b1, by omega, b3⟩) h2 h3, if_pos rfl, unR_ok _ ps 0 [] hg, List.nil_append]
  · rw [a3 k hk, List.getD_eq_getElem?_getD, List.getElem?_replicate]
    split <;> rfl
end Go.Proofs.Sky

namespace Go.Proofs.Sky
open Go Go.RowKit Go.Shelf
set_option maxRecDepth 4000
/-! chapter 26, plain: a frame's numbers -/
def valsE (x : Nat → Int) (L : List (Int × Bool × Nat)) : List Int := L.map fun t => x t.2.2
def FrE (x : Nat → Int) (k : Nat) : List Int := (packR 206 (fdsS (LS k)) (valsE x (LS k))).1
/-- a field and a value for it -/
def psV (L : List (Int × Bool × Nat)) (v : Nat → Int) : List (Fd × Int) := (List.range L.length).map fun i => (fdS L i, v i)
theorem psV_fst (L : List (Int × Bool × Nat)) (v : Nat → Int) : (psV L v).map (·.1) = fdsS L := by
  unfold psV fdsS
  rw [List.map_map]; rfl
theorem psV_val (L : List (Int × Bool × Nat)) (v : Nat → Int) : (psV L v).map fldV = (List.range L.length).map v := by
  unfold psV
  rw [List.map_map]
  refine List.map_congr_left (fun i _ => ?_)
  show (0 : Int) + v i * 1 = v i
  omega
theorem vals_range (x : Nat → Int) (L : List (Int × Bool × Nat)) : valsE x L = (List.range L.length).map fun i => x (L.getD i (0, false, 0)).2.2 := by
  unfold valsE
  apply List.ext_getElem?
  intro i
  rw [List.getElem?_map, List.getElem?_map]
  rcases Nat.lt_or_ge i L.length with h | h
  · rw [List.getElem?_range h, List.getElem?_eq_getElem h]
    simp [List.getD_eq_getElem?_getD, h]
  · rw [List.getElem?_eq_none h, List.getElem?_eq_none (by simpa using h)]; rfl
theorem atS_mono {L : List (Int × Bool × Nat)} (h : okL L) (i : Nat) : ∀ j, i < j → j ≤ L.length → atS L i + (L.getD i (0, false, 0)).1 ≤ atS L j := by
  intro j
  induction j with
  | zero => intro h1; omega
  | succ j ih =>
    intro h1 h2
    rw [atS]
    have h3 := h.2 _ (getD_mem L j (0, false, 0) (by omega))
    rcases Nat.lt_or_ge i j with h4 | h4
    · have := ih h4 (by omega); omega
    · obtain rfl : i = j := by omega
      omega
def okW (L : List (Int × Bool × Nat)) : Prop := okL L ∧ atS L L.length ≤ 200
theorem okW_LS (k : Nat) : okW (LS k) := ⟨(okL_LS k).1, by
  match k with
  | 0 => decide
  | 1 => decide
  | k + 2 => show atS ([(8, false, 1), (6, false, 0), (22, true, 13), (24, true, 14), (32, true, 15), (24, true, 16), (22, true, 17), (24, true, 18)] : List (Int × Bool × Nat)) 8 ≤ 200; decide⟩
theorem psV_ok {L : List (Int × Bool × Nat)} (h : okW L) {v : Nat → Int} (hv : ∀ i, i < L.length → lowR (L.getD i (0, false, 0)).1 (L.getD i (0, false, 0)).2.1 ≤ v i ∧ v i ≤ highR (L.getD i (0, false, 0)).1 (L.getD i (0, false, 0)).2.1) : ∀ p ∈ psV L v, okP 204 p := by
  intro p hp
  obtain ⟨i, hi, rfl⟩ := List.mem_map.1 hp
  have hil := List.mem_range.1 hi
  have h1 := atS_bd h.1 i (by omega)
  have h2 := h.1.2 _ (getD_mem L i (0, false, 0) hil)
  have h3 : atS L i + (L.getD i (0, false, 0)).1 ≤ atS L L.length := atS_mono h.1 i L.length hil (Nat.le_refl _)
  have h4 := h.2
  have h5 := hv i hil
  unfold okP fdS fk
  dsimp only
  omega
theorem psV_dis {L : List (Int × Bool × Nat)} (h : okL L) (v : Nat → Int) : (psV L v).Pairwise disP := by
  unfold psV
  rw [List.pairwise_map]
  have h9 : (List.range L.length).Pairwise (· < ·) := List.pairwise_lt_range
  refine List.Pairwise.imp_of_mem (fun {a b} ha hb hab => ?_) h9
  left
  show atS L a + (L.getD a (0, false, 0)).1 ≤ atS L b
  exact atS_mono h a b hab (by have := List.mem_range.1 hb; omega)
/-- what a frame holds -/
theorem packedV {L : List (Int × Bool × Nat)} (h : okW L) {v : Nat → Int} (hv : ∀ i, i < L.length → lowR (L.getD i (0, false, 0)).1 (L.getD i (0, false, 0)).2.1 ≤ v i ∧ v i ≤ highR (L.getD i (0, false, 0)).1 (L.getD i (0, false, 0)).2.1) :
    ∃ A : List Int, A.length = 206 ∧ packR 206 (fdsS L) ((List.range L.length).map v) = (A, (0, 0)) ∧ unpackR (fdsS L) A = ((List.range L.length).map v, (0, 0)) ∧
      (∀ i, i < L.length → ∀ j, j < (L.getD i (0, false, 0)).1.toNat → A.getD ((atS L i).toNat + j) 0 = bitN (v i) ((L.getD i (0, false, 0)).1.toNat - 1 - j)) ∧
      (∀ q, (atS L L.length).toNat ≤ q → A.getD q 0 = 0) ∧ ∀ q, A.getD q 0 = 0 ∨ A.getD q 0 = 1 := by
  obtain ⟨e, he⟩ : ∃ e : Nat, e = 204 := ⟨_, rfl⟩
  have hok : ∀ p ∈ psV L v, okP e p := by rw [he]; exact psV_ok h hv
  have hdis := psV_dis h.1 v
  have hlen : (psV L v).length ≤ 100 := by unfold psV; rw [List.length_map, List.length_range]; exact h.1.1
  have hp := pack_plain e (psV L v) hok hdis hlen (by omega)
  obtain ⟨A, a1, a2, _, a4, _, a6⟩ := orders_plain e (psV L v) hok hdis hlen (by omega)
  obtain ⟨b1, b2, b3⟩ := fold_get e (psV L v) (List.replicate (e + 2) 0) hok hdis (by simp)
  have e206 : (e : Int) + 2 = 206 := by omega
  rw [psV_fst, psV_val, e206] at hp a2
  rw [psV_fst, psV_val] at a4
  have eF : A = (psV L v).foldl putF2 (List.replicate (e + 2) 0) := by
    rw [a2] at hp
    exact (Prod.mk.inj hp).1
  have hbit : ∀ i, i < L.length → ∀ j, j < (L.getD i (0, false, 0)).1.toNat → A.getD ((atS L i).toNat + j) 0 = bitN (v i) ((L.getD i (0, false, 0)).1.toNat - 1 - j) := by
    intro i hi j hj
    have h1 := atS_bd h.1 i (by omega)
    rw [eF]
    have h9 := b2 (fdS L i, v i) (List.mem_map.2 ⟨i, List.mem_range.2 hi, rfl⟩) ((atS L i).toNat + j) (by
      unfold cov fdS
      dsimp only
      omega)
    dsimp only [fdS] at h9
    rw [h9, show (L.getD i (0, false, 0)).1.toNat - 1 - ((atS L i).toNat + j - (atS L i).toNat) = (L.getD i (0, false, 0)).1.toNat - 1 - j by omega]
  have hzero : ∀ q, (∀ p ∈ psV L v, ¬ cov p q) → A.getD q 0 = 0 := fun q hq => a6 q hq
  refine ⟨A, by omega, a2, a4, hbit, fun q hq => hzero q (fun p hp' => ?_), fun q => ?_⟩
  · obtain ⟨i, hi, rfl⟩ := List.mem_map.1 hp'
    have hil := List.mem_range.1 hi
    have h1 := atS_bd h.1 i (by omega)
    have h2 := h.1.2 _ (getD_mem L i (0, false, 0) hil)
    have h3 : atS L i + (L.getD i (0, false, 0)).1 ≤ atS L L.length := atS_mono h.1 i L.length hil (Nat.le_refl _)
    unfold cov fdS
    dsimp only
    omega
  · by_cases hc : ∃ p ∈ psV L v, cov p q
    · obtain ⟨p, hp', hcv⟩ := hc
      rw [eF, b2 p hp' q hcv]
      exact bitN_01 _ _
    · left
      exact hzero q (fun p hp' hcv => hc ⟨p, hp', hcv⟩)
theorem errE_ok {x : Nat → Int} (h : errE x = 0) (k : Nat) (hk : k < 3) : ∀ i, i < (LS k).length → lowR ((LS k).getD i (0, false, 0)).1 ((LS k).getD i (0, false, 0)).2.1 ≤ x ((LS k).getD i (0, false, 0)).2.2 ∧ x ((LS k).getD i (0, false, 0)).2.2 ≤ highR ((LS k).getD i (0, false, 0)).1 ((LS k).getD i (0, false, 0)).2.1 := by
  intro i hi
  cases hq : okT x ((LS k).getD i (0, false, 0)) with
  | true => exact of_decide_eq_true hq
  | false => rw [errE_bad hk hi hq] at h; cases h
theorem packedE {x : Nat → Int} (h : errE x = 0) (k : Nat) (hk : k < 3) : (FrE x k).length = 206 ∧ packR 206 (fdsS (LS k)) (valsE x (LS k)) = (FrE x k, (0, 0)) ∧ unpackR (fdsS (LS k)) (FrE x k) = (valsE x (LS k), (0, 0)) ∧
      (∀ i, i < (LS k).length → ∀ j, j < ((LS k).getD i (0, false, 0)).1.toNat → (FrE x k).getD ((atS (LS k) i).toNat + j) 0 = bitN (x ((LS k).getD i (0, false, 0)).2.2) (((LS k).getD i (0, false, 0)).1.toNat - 1 - j)) ∧
      (∀ q, (atS (LS k) (LS k).length).toNat ≤ q → (FrE x k).getD q 0 = 0) ∧ ∀ q, (FrE x k).getD q 0 = 0 ∨ (FrE x k).getD q 0 = 1 := by
  obtain ⟨A, h1, h2, h3, h4, h5, h6⟩ := packedV (okW_LS k) (v := fun i => x ((LS k).getD i (0, false, 0)).2.2) (errE_ok h k hk)
  rw [← vals_range] at h2 h3
  have e : FrE x k = A := by unfold FrE; rw [h2]
  rw [e]
  exact ⟨h1, h2, h3, h4, h5, h6⟩
end Go.Proofs.Sky
