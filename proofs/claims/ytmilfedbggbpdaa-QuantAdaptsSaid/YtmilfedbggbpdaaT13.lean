/-
  lemmas for the theorems of this claim. No conditions beyond those written in the statements.
-/
import Derived.Test.YtmilfedbggbpdaaS13
import Derived.Deep.Cut
set_option linter.unusedVariables false
set_option linter.unusedSimpArgs false
set_option linter.unnecessarySimpa false
namespace Go.Proofs.Sky
open Go Go.RowKit
set_option maxHeartbeats 1000000
def bump (l : List Int) (i : Int) : List Int := l.set i.toNat (l.getD i.toNat 0 + 1)
def cntTo (q : Int) (l : List (Int × Int)) : List Int := l.foldl (fun acc p => bump (bump acc (p.1 + q)) (p.2 + q)) (List.replicate (2 * q + 1).toNat 0)
theorem bump_len (l : List Int) (i : Int) : (bump l i).length = l.length := by simp [bump]
theorem getD_set' (l : List Int) (i j : Nat) (u : Int) : (l.set i u).getD j 0 = if i = j ∧ i < l.length then u else l.getD j 0 := by
  rw [List.getD_eq_getElem?_getD, List.getD_eq_getElem?_getD, List.getElem?_set]
  by_cases h : i = j
  · subst h
    by_cases h2 : i < l.length
    · simp [h2]
    · simp [h2]
  · simp [h]
theorem bump_bd (l : List Int) (i : Int) (m : Int) (h : ∀ j, 0 ≤ l.getD j 0 ∧ l.getD j 0 ≤ m) : ∀ j, 0 ≤ (bump l i).getD j 0 ∧ (bump l i).getD j 0 ≤ m + 1 := by
  intro j
  unfold bump
  rw [getD_set']
  have h1 := h j
  have h2 := h i.toNat
  split <;> omega
theorem cntTo_len (q : Int) (l : List (Int × Int)) : (cntTo q l).length = (2 * q + 1).toNat := by
  unfold cntTo
  have : ∀ (l : List (Int × Int)) (acc : List Int), (l.foldl (fun acc p => bump (bump acc (p.1 + q)) (p.2 + q)) acc).length = acc.length := by
    intro l
    induction l with
    | nil => intro acc; rfl
    | cons p l ih => intro acc; rw [List.foldl_cons, ih, bump_len, bump_len]
  rw [this]; simp
theorem cntTo_snoc (q : Int) (l : List (Int × Int)) (p : Int × Int) : cntTo q (l ++ [p]) = bump (bump (cntTo q l) (p.1 + q)) (p.2 + q) := by unfold cntTo; rw [List.foldl_append]; rfl
theorem cntTo_bd (q : Int) (l : List (Int × Int)) : ∀ j, 0 ≤ (cntTo q l).getD j 0 ∧ (cntTo q l).getD j 0 ≤ 2 * l.length := by
  have : ∀ (l : List (Int × Int)) (acc : List Int) (m : Int), (∀ j, 0 ≤ acc.getD j 0 ∧ acc.getD j 0 ≤ m) → ∀ j, 0 ≤ (l.foldl (fun acc p => bump (bump acc (p.1 + q)) (p.2 + q)) acc).getD j 0 ∧ (l.foldl (fun acc p => bump (bump acc (p.1 + q)) (p.2 + q)) acc).getD j 0 ≤ m + 2 * l.length := by
    intro l
    induction l with
    | nil => intro acc m h j; have := h j; simp at this ⊢; omega
    | cons p l ih =>
      intro acc m h j
      have := ih _ (m + 1 + 1) (bump_bd _ (p.2 + q) _ (bump_bd acc (p.1 + q) m h)) j
      rw [List.foldl_cons]
      simp only [List.length_cons] at this ⊢
      omega
  intro j
  have h := this l (List.replicate (2 * q + 1).toNat 0) 0 (fun j => by
    rw [List.getD_eq_getElem?_getD]
    by_cases hj : j < (2 * q + 1).toNat
    · simp [hj]
    · simp [hj]) j
  unfold cntTo
  omega
theorem map_bump (l : List Int) (i : Int) : (l.map (Value.int .i64)).set i.toNat (.int .i64 (l.getD i.toNat 0 + 1)) = (bump l i).map (Value.int .i64) := by unfold bump; rw [List.map_set]
def cntL (b s : Int) (ps : List (Int × Int)) : List Int := if errQ b s ps = 0 then cntTo (gq b) (lvS b s ps) else []
def CntS (base : Nat) (b s : Int) (ps : List (Int × Int)) (e : Ending) (w' : World) : Prop := ∃ v, e = .returned (.tuple #[v, .int .i64 (errQ b s ps)]) ∧ RdI w' v (cntL b s ps) ∧ Fresh base v
theorem Try.info3 : (Try.prog.info? 3).map (fun i => (i.zero, i.size, i.bytes)) = some (some (.int .i64 0), 1, 8) := by kernel_rfl
theorem make39 (x : Int) (N : Nat) (h : x = N) (hn : N ≤ 1048576) (w : World) : (Instr.makeSlice 39 (.int .i64 x) (.int .i64 x)).run Try.prog w = .ok (.slice (some ⟨w.heap.size, 0, none⟩) N N) (w.alloc (.cells (madeCells #[.int .i64 0] N) 3)) := by
  subst h
  obtain ⟨i, hi, hzz⟩ := Option.map_eq_some_iff.1 Try.info3
  simp only [Prod.mk.injEq] at hzz
  obtain ⟨hz, hs, hb⟩ := hzz
  have h := run_make (P := Try.prog) w 39 3 i _ Try.underlying39 hi hz .i64 .i64 N N (by omega) (by omega) (by rw [hb]; omega) (by omega)
  simpa [hs, Value.cells] using h
theorem clampI_bd (r q : Int) (h : 0 ≤ q) : -q ≤ clampI r q ∧ clampI r q ≤ q := by unfold clampI; omega
theorem lvS_bd (b s : Int) (h : 2 ≤ b) (h' : b ≤ 8) (ps : List (Int × Int)) : ∀ p ∈ lvS b s ps, (-gq b ≤ p.1 ∧ p.1 ≤ gq b) ∧ -gq b ≤ p.2 ∧ p.2 ≤ gq b := by
  intro p hp
  have ⟨q1, q2⟩ := gq_bd b h h'
  simp only [lvS, List.mem_map] at hp
  obtain ⟨x, _, rfl⟩ := hp
  exact ⟨clampI_bd _ _ (by omega), clampI_bd _ _ (by omega)⟩
theorem RCounts_any (b s : Int) (ps : List (Int × Int)) (v : Value) (w : World) (hv : RdS w v ps) :
    Calls Try.prog 22 #[v, .agg #[.int .i64 b, .int .i64 s]] w fun e w' => CntS w.heap.size b s ps e w' ∧ Bw w w' := by
  have HQ := Lib.hid (fun w v hv => RQuantise_any b s ps v w hv)
  have HV := Lib.hid hv
  obtain ⟨a0, c0, rfl⟩ := hv.form
  clear hv
  by_cases he : errQ b s ps = 0
  · obtain ⟨q1, q2⟩ := q_ok he
    have hG : 2 ≤ b ∧ b ≤ 8 ∧ 0 ≤ s ∧ s ≤ 30 := by
      by_cases h : 2 ≤ b ∧ b ≤ 8 ∧ 0 ≤ s ∧ s ≤ 30
      · exact h
      · rw [errQ_bad ps h] at he; cases he
    have hl := (errS_zero ((errQ_good ps hG).symm.trans he)).1
    have HE := Lib.hid (show errQ b s ps = 0 ∧ cntL b s ps = cntTo (gq b) (lvS b s ps) from ⟨he, by unfold cntL; rw [if_pos he]⟩)
    have ⟨g1, g2⟩ := gq_bd b hG.1 hG.2.1
    have HB := Lib.hid (lvS_bd b s hG.1 hG.2.1 ps)
    have hlen := lvS_len b s ps
    unfold QuantS at HQ
    rw [he, q1, q2] at HQ
    clear he q1 q2
    obtain ⟨h1, h2, h3, h4⟩ := hG
    obtain ⟨N, hN⟩ : ∃ N : Nat, 2 * gq b + 1 = N := ⟨(2 * gq b + 1).toNat, by omega⟩
    have hmk := make39 _ N hN (by omega)
    have hN1 : 2 * gq b + 1 ≤ N := by omega
    have hN2 : (N : Int) ≤ 2 * gq b + 1 := by omega
    have HNN := Lib.hid hN; clear hN
    generalize lvS b s ps = ls at HQ HE HB hlen
    obtain ⟨n, hn⟩ : ∃ n, n = ls.length := ⟨_, rfl⟩
    have hnb : n ≤ 1048576 := by omega
    clear hlen hl
    go_enter Try.func22, Try.ntmps22
    go_wp2_with (first | (go_at_call 18; refine (HQ.out _ _ (HV.out.mono (by repeat (first | exact Bw.refl _ | assumption | refine Bw.alloc ?_ _ | refine Bw.drew ?_ | refine Bw.trans ?_ (by assumption) | refine Bw.setCell ?_ (by simp; try omega) _)))).mono ?_; rintro e w1 ⟨⟨v', rfl, hr, _⟩, hb⟩; obtain ⟨a1, c1, rfl⟩ := hr.form; have HR := Lib.hid hr; clear hr; obtain ⟨hcc, hff⟩ := Bw.cells hb; have hsz := Bw.size hb; have hz0 : w.heap.size < w1.heap.size := by (try simp at hsz); omega) | (go_at_call 40; refine (rgreatest_any b s h1 h2 _).mono ?_; rintro e w2 ⟨rfl, hb2⟩; obtain ⟨hcc2, hff2⟩ := Bw.cells hb2; have hsz2 := Bw.size hb2))
    have hbw2 : Bw w w2 := (by repeat (first | exact Bw.refl _ | assumption | refine Bw.alloc ?_ _ | refine Bw.drew ?_ | refine Bw.trans ?_ (by assumption) | refine Bw.setCell ?_ (by simp; try omega) _))
    have HBW := Lib.hid hbw2; clear hbw2
    have k6 : w2.cell? ⟨w1.heap.size, 0, none⟩ = some (.slice a1 ls.length c1) := by simp [*, go_sem]
    have hz1 : w1.heap.size < w2.heap.size := by simp at hsz2; omega
    have hR2 := HR.out.mono (show Bw w1 w2 from Bw.trans (Bw.alloc (Bw.refl _) _) hb2)
    have HR2 := Lib.hid hR2; clear hR2 HR
    have HO : Hid ((w2.alloc (.cells (madeCells #[.int .i64 0] N) 3)).ownsRow w.heap.size 3 1 (.slice (some ⟨w2.heap.size, 0, none⟩) N N) N ((cntTo (gq b) (ls.take 0)).map (Value.int .i64))) := by
      refine Lib.hid ?_
      have h := (World.ownsRow_lit (base := w.heap.size) (e := 3) (size := 1) w2 (madeCells #[Value.int IntKind.i64 0] N) N (by omega) (by unfold maxLen; omega) (by simp [madeCells]))
      rw [toList_madeCells_one] at h
      simpa [cntTo, HNN.out] using h
    rw [← hn] at k6 HR2 ⊢
    have HN := Lib.hid hn; clear hn
    clear hcc hff hcc2 hff2 hmk HQ HV
    go_loopg [10] n (fun gg s10 wr => ∃ k : Nat, k ≤ n ∧ n - k ≤ gg ∧ s10 = .int .i64 k ∧ Hid (Bw w wr) ∧ Hid (Bw w2 wr) ∧ w2.heap.size < wr.heap.size ∧ Hid (wr.ownsRow w.heap.size 3 1 (.slice (some ⟨w2.heap.size, 0, none⟩) N N) N ((cntTo (gq b) (ls.take k)).map (Value.int .i64))))
    case atStart => exact ⟨0, Nat.zero_le _, by omega, rfl, Bw.alloc HBW.out _, Bw.alloc (Bw.refl _) _, by simp, HO.out⟩
    case round =>
      obtain ⟨k, hk, hg, rfl, hbw, hbw2, hsr, hown⟩ := hrel
      have k7 : wr.cell? ⟨w1.heap.size, 0, none⟩ = some (.slice a1 n c1) := (hbw2.out.cells.1 _ _ hz1).trans k6
      by_cases hlt : k < n
      · have hltz : (k : Int) < (n : Int) := by omega
        have hq := HN.out
        obtain ⟨_, a2, c2, ha, hr4⟩ := HR2.out
        simp only [Value.slice.injEq] at ha
        obtain ⟨rfl, hz9, rfl⟩ := ha
        clear hz9
        obtain ⟨bb, off, rfl, hbb, hc⟩ := hr4.resolve_left (by intro h; rw [h] at hq; simp at hq; omega)
        obtain ⟨d1, d2⟩ := hc k (by omega)
        rw [← hbw2.out.cells.1 _ _ hbb] at d1 d2
        have hm := HB.out _ (getD_mem ls k (0, 0) (by omega))
        have HS := Lib.hid (congrArg (cntTo (gq b)) (take_snoc' ls k (0, 0) (by omega)))
        generalize hx : ls.getD k (0, 0) = x at d1 d2 hm HS
        clear hx hc hr4 hq
        obtain ⟨x1, x2⟩ := x
        obtain ⟨⟨i1, i2⟩, i3, i4⟩ := hm
        have hs := HS.out
        rw [cntTo_snoc] at hs
        have HS2 := Lib.hid hs; clear hs HS
        have hb0 := cntTo_bd (gq b) (ls.take k)
        have hl0 := cntTo_len (gq b) (ls.take k)
        have htk : ((ls.take k).length : Int) ≤ k := by have := List.length_take_le k ls; omega
        have hown' := hown.out
        generalize cntTo (gq b) (ls.take k) = c0 at hown' hb0 hl0 HS2
        have hb1 := bump_bd c0 (x1 + gq b) _ hb0
        have ⟨u1, u2⟩ := hb0 (x1 + gq b).toNat
        have ⟨u3, u4⟩ := hb1 (x2 + gq b).toNat
        have s1 : wr.cell? ⟨w2.heap.size, (x1 + gq b).toNat, none⟩ = some (.int .i64 (c0.getD (x1 + gq b).toNat 0)) := by
          rw [hown'.cellAt _ (by omega), List.getElem?_map, List.getElem?_eq_getElem (by omega), List.getD_eq_getElem?_getD, List.getElem?_eq_getElem (by omega)]; rfl
        have y1 := hown'.frozenAt (x1 + gq b).toNat
        have o1 := (hown'.stored (x1 + gq b).toNat (.int .i64 (c0.getD (x1 + gq b).toNat 0 + 1))).1
        rw [map_bump] at o1
        have s2 : (wr.setCell ⟨w2.heap.size, (x1 + gq b).toNat, none⟩ (.int .i64 (c0.getD (x1 + gq b).toNat 0 + 1))).cell? ⟨w2.heap.size, (x2 + gq b).toNat, none⟩ = some (.int .i64 ((bump c0 (x1 + gq b)).getD (x2 + gq b).toNat 0)) := by
          have hl1 := bump_len c0 (x1 + gq b)
          rw [o1.cellAt _ (by omega), List.getElem?_map, List.getElem?_eq_getElem (by omega), List.getD_eq_getElem?_getD, List.getElem?_eq_getElem (by omega)]; rfl
        have y2 := o1.frozenAt (x2 + gq b).toNat
        have o2 := (o1.stored (x2 + gq b).toNat (.int .i64 ((bump c0 (x1 + gq b)).getD (x2 + gq b).toNat 0 + 1))).1
        rw [map_bump, ← HS2.out] at o2
        have O2 := Lib.hid o2; clear o2 o1 hown'
        generalize c0.getD (x1 + gq b).toNat 0 = z1 at s1 s2 y2 u1 u2 O2
        generalize (bump c0 (x1 + gq b)).getD (x2 + gq b).toNat 0 = z2 at s2 u3 u4 O2
        have k8 : (wr.setCell ⟨w2.heap.size, (x1 + gq b).toNat, none⟩ (.int .i64 (z1 + 1))).cell? ⟨w1.heap.size, 0, none⟩ = some (.slice (some ⟨bb, off, none⟩) n c1) := by rw [cell_set_ne _ _ _ _ _ _ (by omega)]; exact k7
        have d3 : (wr.setCell ⟨w2.heap.size, (x1 + gq b).toNat, none⟩ (.int .i64 (z1 + 1))).cell? ⟨bb, off + k * 2 + 1, none⟩ = some (.int .i64 x2) := by rw [cell_set_ne _ _ _ _ _ _ (by omega)]; exact d2
        have S2 := Lib.hid (And.intro s2 (And.intro y2 (And.intro k8 d3))); clear s2 y2 k8 d3 hb0 hb1
        go_upto_region 10 with (fail)
        obtain ⟨s2, y2, k8, d3⟩ := S2.out
        clear S2 s1 y1 k7 d1 d2
        have hszx : (wr.setCell ⟨w2.heap.size, (x1 + gq b).toNat, none⟩ (.int .i64 (z1 + 1))).heap.size = wr.heap.size := by simp
        generalize hwx : wr.setCell ⟨w2.heap.size, (x1 + gq b).toNat, none⟩ (.int .i64 (z1 + 1)) = wx at s2 y2 k8 d3 O2 hszx ⊢
        have bx : Bw w wx := by rw [← hwx]; have := hbw.out; exact (by repeat (first | exact Bw.refl _ | assumption | refine Bw.alloc ?_ _ | refine Bw.drew ?_ | refine Bw.trans ?_ (by assumption) | refine Bw.setCell ?_ (by simp; try omega) _))
        have bx2 : Bw w2 wx := by rw [← hwx]; have := hbw2.out; exact (by repeat (first | exact Bw.refl _ | assumption | refine Bw.alloc ?_ _ | refine Bw.drew ?_ | refine Bw.trans ?_ (by assumption) | refine Bw.setCell ?_ (by simp; try omega) _))
        clear hwx
        have hsx : w2.heap.size < wx.heap.size := by omega
        clear hszx
        go_wp2
        go_roundg (n - (k + 1))
        case measure => omega
        case rel => exact ⟨k + 1, by omega, by omega, by go_num, (by repeat (first | exact Bw.refl _ | assumption | refine Bw.alloc ?_ _ | refine Bw.drew ?_ | refine Bw.trans ?_ (by assumption) | refine Bw.setCell ?_ (by simp; try omega) _)), (by repeat (first | exact Bw.refl _ | assumption | refine Bw.alloc ?_ _ | refine Bw.drew ?_ | refine Bw.trans ?_ (by assumption) | refine Bw.setCell ?_ (by simp; try omega) _)), by simp; omega, O2.out⟩
      · have hltz : ¬ (k : Int) < (n : Int) := by omega
        have : k = n := by omega
        subst this
        go_wp2
        go_ret2
        have ho := hown.out
        rw [List.take_of_length_le (by have := HN.out; omega)] at ho
        have hl0 := cntTo_len (gq b) ls
        have hN' : N = (cntTo (gq b) ls).length := by omega
        subst hN'
        exact ⟨⟨_, by rw [HE.out.1]; rfl, by rw [HE.out.2]; exact own_rdI ho (by omega), Fresh.at (by omega)⟩, hbw.out⟩
  · have HE := Lib.hid (show cntL b s ps = [] by unfold cntL; rw [if_neg he])
    have hne : (errQ b s ps != 0) = true := by simpa using he
    obtain ⟨q1, q2⟩ := q_err he
    unfold QuantS at HQ
    rw [q1, q2] at HQ
    clear he q1 q2
    go_enter Try.func22, Try.ntmps22
    go_wp2_with (go_at_call 18; refine (HQ.out _ _ (HV.out.mono (by repeat (first | exact Bw.refl _ | assumption | refine Bw.alloc ?_ _ | refine Bw.drew ?_ | refine Bw.trans ?_ (by assumption) | refine Bw.setCell ?_ (by simp; try omega) _)))).mono ?_; rintro e w1 ⟨⟨v', rfl, hr, _⟩, hb⟩; obtain ⟨a1, c1, rfl⟩ := hr.form; clear hr; obtain ⟨hcc, hff⟩ := Bw.cells hb; have hsz := Bw.size hb)
    go_ret2
    exact ⟨⟨.slice none 0 0, rfl, by rw [HE.out]; exact RdI.nil _, Fresh.nil _ _ _⟩, (by repeat (first | exact Bw.refl _ | assumption | refine Bw.alloc ?_ _ | refine Bw.drew ?_ | refine Bw.trans ?_ (by assumption) | refine Bw.setCell ?_ (by simp; try omega) _))⟩
end Go.Proofs.Sky
