/-
  lemmas for the theorems of this claim. No conditions beyond those written in the statements.
-/
import Derived.Test.YtiohoallllkagaaProg
import Derived.Test.YtiohoallllkagaaRdAt
import Derived.Test.YtiohoallllkagaaAppP
import Derived.Deep.Cut
import Derived.Deep.LoopGhost
import Derived.BigRegion
import Derived.Test.YtiohoallllkagaaKit
import Derived.Test.YtiohoallllkagaaHeld
import Derived.BigQuiet
set_option linter.unusedVariables false
set_option linter.unusedSimpArgs false
set_option linter.unnecessarySimpa false
namespace Go.Proofs.Sky
open Go Go.RowKit Go.Shelf
set_option maxHeartbeats 2000000
set_option maxRecDepth 4000
/-! chapter 31: the numbers of a model, by pointers -/
theorem infoPtr : (Try.prog.info? 67).map (fun i => (i.zero, i.size, i.bytes)) = some (some (.pointer none), 1, 8) := by kernel_rfl
theorem bw_grownN {a b c : World} {e : TypeId} {k : Nat} {v : Value} {m n : Nat} {xs : List Value} (hn : a.heap.size = n) (h : Bw a b) (ho : b.ownsRow n e k v m xs) (hg : b.grownBy c v.ownBlock) : Bw a c := by
  subst hn; exact h.grown ho hg
theorem wpList_append_vals {ops : Array Oper} {rest : List Oper} {o : Oper} {a : Act} {w : World} {Q : Exit → Act → World → Prop} (hgd : o.guard = none) (s x : Operand) (t : TypeId)
    (ho : o.op = .call { callee := .builtin .append, args := #[s, x], argTypes := #[t, t] })
    (base : Nat) (e : TypeId) (z : Value) (ht : Try.prog.underlying t = some (.slice e)) (hi : (Try.prog.info? e).map (fun i => (i.zero, i.size, i.bytes)) = some (some z, 1, 8)) (hz : z.cells.size = 1)
    (v : Value) (n : Nat) (xs : List Value) (hs : a.eval s = v) (hown : w.ownsRow base e 1 v n xs)
    (b c m : Nat) (news : List Value) (hx : a.eval x = .slice (some ⟨b, 0, none⟩) m c) (hm : news.length = m) (hb : ∀ j u, news[j]? = some u → w.cell? ⟨b, j, none⟩ = some u) (h1 : ∀ u ∈ news, u.oneCell' = true)
    (hn : n + m ≤ 1000000) (hbase : base ≤ w.heap.size)
    (h : ∀ v' w', w'.ownsRow base e 1 v' (n + m) (xs ++ news) → w.grownBy w' v.ownBlock → wpList Try.prog ops Q rest (a.put o.dst v') w') : wpList Try.prog ops Q (o :: rest) a w := by
  obtain ⟨i, hi, hzz⟩ := Option.map_eq_some_iff.1 hi
  simp only [Prod.mk.injEq] at hzz
  obtain ⟨hz0, hz1, hz2⟩ := hzz
  refine wpList_append_own w hgd s x t ho base e i _ 1 8 ht hi hz0 hz1 hz2 hz (by decide) v n xs hs hown ⟨b, 0, none⟩ m c news hx (by rw [hm, Nat.mul_one]) (fun j u hu => ?_) h1 (by unfold maxLen; omega) (by omega) hbase (fun v' w' h2 h3 _ => h v' w' h2 h3)
  have e1 : (⟨b, 0, none⟩ : Addr).add j = ⟨b, j, none⟩ := by
    have h1 : ∀ off : Nat, (⟨b, off, none⟩ : Addr).add j = ⟨b, off + j, none⟩ := fun off => by simp [Addr.add]
    rw [h1, Nat.zero_add]
  rw [e1]; exact hb j u hu
def ptrs (g : Nat) (n : Nat) : List Value := (List.range n).map fun k => .pointer (some ⟨g, k, none⟩)
theorem ptrs_succ (g n : Nat) : ptrs g (n + 1) = ptrs g n ++ [.pointer (some ⟨g, n, none⟩)] := by unfold ptrs; rw [List.range_succ, List.map_append]; rfl
/-- a slice of pointers to the nine numbers of the model at g -/
def RdP (w : World) (v : Value) (g : Nat) : Prop := ∃ b c, v = .slice (some ⟨b, 0, none⟩) 9 c ∧ b < w.heap.size ∧ ∀ k, k < 9 → w.cell? ⟨b, k, none⟩ = some (.pointer (some ⟨g, k, none⟩))
theorem RdP.mono {w w' : World} {v : Value} {g : Nat} (h : RdP w v g) (hb : Bw w w') : RdP w' v g := by
  obtain ⟨b, c, h1, h2, h3⟩ := h
  exact ⟨b, c, h1, Nat.lt_of_lt_of_le h2 hb.size, fun k hk => hb.cell' (h3 k hk)⟩
theorem ptr_row {w : World} {base : Nat} {e : TypeId} {v : Value} {g : Nat} (h : w.ownsRow base e 1 v 9 (ptrs g 9)) : RdP w v g := by
  rcases h.2 with ⟨_, h2⟩ | ⟨b, cap, cur, rfl, hb, hh, _⟩
  · cases h2
  · refine ⟨b, cap, rfl, (Array.getElem?_eq_some_iff.1 hh).1, fun k hk => ?_⟩
    have hc := h.cellAt k (by omega)
    rw [hc]
    unfold ptrs
    rw [List.getElem?_map, List.getElem?_range hk]
    rfl
theorem own_freshP {w : World} {base : Nat} {e : TypeId} {k : Nat} {v : Value} {n : Nat} {xs : List Value} (h : w.ownsRow base e k v n xs) : Fresh base v := by
  rcases h.2 with ⟨rfl, _⟩ | ⟨g, cap, cur, rfl, hg, _⟩
  · exact Fresh.nil _ _ _
  · exact Fresh.at hg
def NumP (base g : Nat) (e : Ending) (w' : World) : Prop := ∃ v', e = .returned v' ∧ RdP w' v' g ∧ Fresh base v'
theorem numbers_any (g : Nat) (w : World) (hg : g < w.heap.size) :
    Calls Try.prog 37 #[.pointer (some ⟨g, 0, none⟩)] w fun e w' => NumP w.heap.size g e w' ∧ Bw w w' := by
  obtain ⟨BB, hBB⟩ : ∃ BB, w.heap.size = BB := ⟨_, rfl⟩
  have HB := Lib.hid hBB
  rw [hBB]
  clear hBB hg
  go_enter Try.func37, Try.ntmps37
  go_wp2
  go_loopg [3, 6] 4 (fun gg s3 s6 wr => ∃ k : Nat, k ≤ 4 ∧ 4 - k ≤ gg ∧ s6 = .int .i64 k ∧ Hid (Bw w wr) ∧ Hid (wr.ownsRow BB 67 1 s3 k (ptrs g k)))
  case atStart => exact ⟨0, by omega, by omega, rfl, Lib.hid (Bw.refl _), Lib.hid (World.ownsRow_nil _ _ _ _)⟩
  case round =>
    obtain ⟨k, hk, hgg, rfl, HW, O1⟩ := hrel
    by_cases hlt : k < 4
    · have hkz : (k : Int) < 4 := by omega
      have hk0 : (0 : Int) ≤ k := by omega
      go_wp2_with (at_builtin; have hba := Bw.alloc (Bw.refl wr) (.cells #[.pointer (some ⟨g, k, none⟩)] 67); have NB := Lib.hid (Blk.new wr 67 #[.pointer (some ⟨g, k, none⟩)]); replace O1 := Lib.hid (own_bw O1.out hba); replace HW := Lib.hid (HW.out.trans hba); clear hba; refine wpList_append_vals rfl (.tmp 9) (.tmp 15) _ rfl BB 67 (.pointer none) Try.underlying64 infoPtr rfl _ k (ptrs g k) rfl O1.out _ _ 1 [.pointer (some ⟨g, k, none⟩)] rfl rfl (fun j u hu => NB.out.cell (by simpa using hu)) (fun u hu => by simp at hu; subst hu; rfl) (by omega) (by have := HW.out.size; have := HB.out; omega) ?_; intro v7 w7 hown hgr; rw [← ptrs_succ] at hown; replace HW := Lib.hid (bw_grownN HB.out HW.out O1.out hgr); replace O1 := Lib.hid hown; clear hown hgr NB)
      go_roundg (4 - (k + 1))
      case measure => omega
      case rel => exact ⟨k + 1, by omega, by omega, by go_num, HW, O1⟩
    · obtain rfl : k = 4 := by omega
      go_wp2
      go_loopg [3, 18] 3 (fun gg s3 s18 wr => ∃ k : Nat, k ≤ 3 ∧ 3 - k ≤ gg ∧ s18 = .int .i64 k ∧ Hid (Bw w wr) ∧ Hid (wr.ownsRow BB 67 1 s3 (4 + k) (ptrs g (4 + k))))
      case atStart => exact ⟨0, by omega, by omega, rfl, HW, O1⟩
      case round =>
        clear HW O1
        obtain ⟨k, hk, hgg, rfl, HW, O1⟩ := hrel
        by_cases hlt : k < 3
        · have hkz : (k : Int) < 3 := by omega
          have hk0 : (0 : Int) ≤ k := by omega
          go_wp2_with (at_builtin; have hba := Bw.alloc (Bw.refl wr) (.cells #[.pointer (some ⟨g, 4 + k, none⟩)] 67); have NB := Lib.hid (Blk.new wr 67 #[.pointer (some ⟨g, 4 + k, none⟩)]); replace O1 := Lib.hid (own_bw O1.out hba); replace HW := Lib.hid (HW.out.trans hba); clear hba; refine wpList_append_vals rfl (.tmp 21) (.tmp 27) _ rfl BB 67 (.pointer none) Try.underlying64 infoPtr rfl _ (4 + k) (ptrs g (4 + k)) rfl O1.out _ _ 1 [.pointer (some ⟨g, 4 + k, none⟩)] rfl rfl (fun j u hu => NB.out.cell (by simpa using hu)) (fun u hu => by simp at hu; subst hu; rfl) (by omega) (by have := HW.out.size; have := HB.out; omega) ?_; intro v7 w7 hown hgr; rw [← ptrs_succ] at hown; replace HW := Lib.hid (bw_grownN HB.out HW.out O1.out hgr); replace O1 := Lib.hid hown; clear hown hgr NB)
          go_roundg (3 - (k + 1))
          case measure => omega
          case rel => exact ⟨k + 1, by omega, by omega, by go_num, HW, O1⟩
        · obtain rfl : k = 3 := by omega
          go_upto_region 12 with fail
          (refine wp_region_ext_float 7 _ rfl rfl (by kernel_rfl) (by kernel_rfl) (fun _ _ _ _ h => h) ?_; simp only [Nat.reduceSub, List.take_succ_cons, List.take_zero, List.drop_succ_cons, List.drop_zero]; go_frame; (repeat (go_big_quiet_step ((fail)))); refine wpQuiet_nil ?_; rintro wq ⟨⟨_, hbq⟩, rfl⟩; obtain ⟨hccq, hffq⟩ := Bw.cells hbq; have hszq := Bw.size hbq)
          replace O1 := Lib.hid (own_bw O1.out hbq)
          replace HW := Lib.hid (HW.out.trans hbq)
          clear hbq hccq hffq hszq
          go_wp2_with (at_builtin; have hba := Bw.alloc (Bw.refl wq) (.cells #[.pointer (some ⟨g, 7, none⟩), .pointer (some ⟨g, 8, none⟩)] 67); have NB := Lib.hid (Blk.new wq 67 #[.pointer (some ⟨g, 7, none⟩), .pointer (some ⟨g, 8, none⟩)]); replace O1 := Lib.hid (own_bw O1.out hba); replace HW := Lib.hid (HW.out.trans hba); clear hba; refine wpList_append_vals rfl (.tmp 30) (.tmp 37) _ rfl BB 67 (.pointer none) Try.underlying64 infoPtr rfl _ (4 + 3) (ptrs g (4 + 3)) rfl O1.out _ _ 2 [.pointer (some ⟨g, 7, none⟩), .pointer (some ⟨g, 8, none⟩)] rfl rfl (fun j u hu => NB.out.cell (by simpa using hu)) (fun u hu => by simp at hu; rcases hu with rfl | rfl <;> rfl) (by omega) (by have := HW.out.size; have := HB.out; omega) ?_; intro v7 w7 hown hgr; replace HW := Lib.hid (bw_grownN HB.out HW.out O1.out hgr); replace O1 := Lib.hid (show w7.ownsRow BB 67 1 v7 9 (ptrs g 9) from hown); clear hown hgr NB)
          go_ret
          exact ⟨⟨_, rfl, ptr_row O1.out, own_freshP O1.out⟩, HW.out⟩
end Go.Proofs.Sky

namespace Go.Proofs.Sky
open Go Go.RowKit Go.Shelf
set_option maxHeartbeats 2000000
set_option maxRecDepth 4000
def okA (x : Nat → Int) (i : Nat) : Bool := decide (-1000000 ≤ x i ∧ x i ≤ 1000000 ∧ (i ≤ 6 ∨ 0 ≤ x i))
def errA (x : Nat → Int) : Int := if (List.range 9).all (okA x) then 0 else 2
theorem errA_bad {x : Nat → Int} {i : Nat} (hi : i < 9) (h : okA x i = false) : errA x = 2 := by
  unfold errA; rw [if_neg]
  intro h2
  have := List.all_eq_true.1 h2 i (List.mem_range.2 hi)
  rw [h] at this; cases this
theorem errA_ok {x : Nat → Int} (h : ∀ i, i < 9 → okA x i = true) : errA x = 0 := by
  unfold errA; rw [if_pos (List.all_eq_true.2 (fun i hi => h i (List.mem_range.1 hi)))]
def atV (x : Nat → Int) : Array Value := #[.int .i64 (x 0), .int .i64 (x 1), .int .i64 (x 2), .int .i64 (x 3), .int .i64 (x 4), .int .i64 (x 5), .int .i64 (x 6), .int .i64 (x 7), .int .i64 (x 8)]
theorem atV_at (x : Nat → Int) (i : Nat) (h : i < 9) : (atV x)[i]? = some (.int .i64 (x i)) := by
  match i, h with
  | 0, _ => rfl
  | 1, _ => rfl
  | 2, _ => rfl
  | 3, _ => rfl
  | 4, _ => rfl
  | 5, _ => rfl
  | 6, _ => rfl
  | 7, _ => rfl
  | 8, _ => rfl
theorem ACheck_any (x : Nat → Int) (w : World) :
    Calls Try.prog 13 #[.agg #[.int .i64 (x 0), .int .i64 (x 1), .int .i64 (x 2), .int .i64 (x 3), .int .i64 (x 4), .int .i64 (x 5), .int .i64 (x 6), .int .i64 (x 7), .int .i64 (x 8)]] w fun e w' => e = .returned (.int .i64 (errA x)) ∧ Bw w w' := by
  have HBW := Lib.hid (Bw.alloc (Bw.refl w) (.cells (atV x) 25))
  have KX := Lib.hid (Blk.new w 25 (atV x))
  have NM := Lib.hid (fun W (h : w.heap.size < W.heap.size) => numbers_any w.heap.size W h)
  unfold NumP at NM
  unfold atV at HBW KX
  obtain ⟨EE, hEE⟩ : ∃ EE, EE = errA x := ⟨_, rfl⟩
  rw [← hEE]
  have HE := Lib.hid hEE
  clear hEE
  go_enter Try.func13, Try.ntmps13
  go_upto_region 1 with fail
  obtain ⟨W0, hW0⟩ : ∃ W0, (w.alloc (.cells #[.int .i64 (x 0), .int .i64 (x 1), .int .i64 (x 2), .int .i64 (x 3), .int .i64 (x 4), .int .i64 (x 5), .int .i64 (x 6), .int .i64 (x 7), .int .i64 (x 8)] 25)) = W0 := ⟨_, rfl⟩
  rw [hW0] at HBW KX ⊢
  clear hW0
  replace KX := Lib.hid (show Blk W0 w.heap.size 25 (atV x) from KX.out)
  go_wp2_with (go_at_call 37; (with_reducible refine Calls.mono (NM.out _ KX.out.lt) ?_); rintro e1 w1 ⟨⟨v9, rfl, hr, _⟩, hb9⟩; obtain ⟨bp, cp, rfl, _, hc⟩ := hr; have HP := Lib.hid hc; replace HBW := Lib.hid (HBW.out.trans hb9); replace KX := Lib.hid (KX.out.bw hb9); clear hc hb9)
  go_loopg [7] 9 (fun gg s7 wr => ∃ i : Nat, i ≤ 9 ∧ 9 - i ≤ gg ∧ s7 = .int .i64 i ∧ wr = w1 ∧ Hid (∀ k, k < i → okA x k = true))
  case atStart => exact ⟨0, by omega, by omega, rfl, rfl, Lib.hid (fun k hk => absurd hk (Nat.not_lt_zero _))⟩
  case round =>
    obtain ⟨i, hi, hgg, rfl, hwr, HA⟩ := hrel
    replace hwr := hwr.symm
    subst hwr
    by_cases hlt : i < 9
    · have hiz : (i : Int) < 9 := by omega
      have k0 := HP.out i hlt
      have k1 : w1.cell? ⟨w.heap.size, i, none⟩ = some (.int .i64 (x i)) := KX.out.cell (atV_at x i hlt)
      have HBAD := Lib.hid (fun (h : okA x i = false) => (HE.out.trans (errA_bad hlt h) : EE = 2))
      have HNX := Lib.hid (fun (h : okA x i = true) k (hk : k < i + 1) => (by
        rcases Nat.lt_succ_iff_lt_or_eq.1 hk with h9 | rfl
        · exact HA.out k h9
        · exact h : okA x k = true))
      unfold okA at HBAD HNX
      generalize x i = z at k1 HBAD HNX
      by_cases z1 : 1000000 < z
      · have HB2 := Lib.hid (HBAD.out (decide_eq_false (by omega)))
        clear HBAD HNX
        go_wp2
        go_ret
        exact ⟨ret_int HB2.out.symm, HBW.out⟩
      by_cases z2 : z < -1000000
      · have HB2 := Lib.hid (HBAD.out (decide_eq_false (by omega)))
        clear HBAD HNX
        go_wp2
        go_ret
        exact ⟨ret_int HB2.out.symm, HBW.out⟩
      by_cases z3 : i ≤ 6
      · have HN2 := Lib.hid (HNX.out (decide_eq_true (by omega)))
        have hi6 : ¬ (6 : Int) < i := by omega
        clear HBAD HNX
        go_wp2
        go_roundg (9 - (i + 1))
        case measure => omega
        case rel => exact ⟨i + 1, by omega, by omega, by go_num, rfl, Lib.hid HN2.out⟩
      have hi6 : (6 : Int) < i := by omega
      by_cases z4 : z < 0
      · have HB2 := Lib.hid (HBAD.out (decide_eq_false (by omega)))
        clear HBAD HNX
        go_wp2
        go_ret
        exact ⟨ret_int HB2.out.symm, HBW.out⟩
      · have HN2 := Lib.hid (HNX.out (decide_eq_true (by omega)))
        clear HBAD HNX
        go_wp2
        go_roundg (9 - (i + 1))
        case measure => omega
        case rel => exact ⟨i + 1, by omega, by omega, by go_num, rfl, Lib.hid HN2.out⟩
    · obtain rfl : i = 9 := by omega
      have HG := Lib.hid (HE.out.trans (errA_ok HA.out))
      go_wp2
      go_ret
      exact ⟨ret_int HG.out.symm, HBW.out⟩
end Go.Proofs.Sky

namespace Go.Proofs.Sky
open Go Go.RowKit Go.Shelf
set_option maxHeartbeats 4000000
set_option maxRecDepth 4000
theorem Below_any (n k : Int) (w : World) (h : 1 ≤ k) (h2 : k ≤ 4611686018427387904) : Calls Try.prog 27 #[.int .i64 n, .int .i64 k] w fun e w' => e = .returned (.int .i64 (bel n k)) ∧ Bw w w' := by
  obtain ⟨r, t1, r1, r2, ways⟩ := tmod_way n k h
  have hk0 : (k == 0) = false := by simp; omega
  rcases ways with ⟨y1, yR⟩ | ⟨y1, yR⟩
  all_goals
    have HB := Lib.hid (show bel n k = n % k by unfold bel; rw [if_neg (by omega)])
    rw [yR] at HB
    clear yR
    go_enter Try.func27, Try.ntmps27
    go_wp2
    go_ret
    exact ⟨ret_int (by rw [HB.out]), (by repeat (first | exact Bw.refl _ | assumption | refine Bw.alloc ?_ _ | refine Bw.drew ?_ | refine Bw.trans ?_ (by assumption) | refine Bw.setCell ?_ (by simp; try omega) _))⟩
theorem Nth_any (zs : List Int) (v : Value) (i : Int) (w : World) (hv : RdI w v zs) : Calls Try.prog 28 #[v, .int .i64 i] w fun e w' => e = .returned (.int .i64 (nth zs i)) ∧ Bw w w' := by
  obtain ⟨hlen, ad, cap, rfl, hz⟩ := hv
  by_cases h : i < 0 ∨ (zs.length : Int) ≤ i
  · have HN := Lib.hid (show nth zs i = 0 by unfold nth; rw [if_pos h])
    clear hz
    rcases h with h | h
    all_goals
      go_enter Try.func28, Try.ntmps28
      go_wp2
      all_goals (go_ret; exact ⟨ret_int HN.out.symm, (by repeat (first | exact Bw.refl _ | assumption | refine Bw.alloc ?_ _ | refine Bw.drew ?_ | refine Bw.trans ?_ (by assumption) | refine Bw.setCell ?_ (by simp; try omega) _))⟩)
  · have HN := Lib.hid (show nth zs i = zs.getD i.toNat 0 by unfold nth; rw [if_neg h])
    obtain ⟨j, rfl⟩ := Int.eq_ofNat_of_zero_le (show 0 ≤ i by omega)
    obtain ⟨b, off, rfl, hb, hz⟩ := hz.resolve_left (by intro e; subst e; simp at h)
    have hc := hz j (by omega)
    rw [show ((j : Int)).toNat = j by omega] at HN
    have hj : (j : Int) < zs.length := by omega
    clear hz h
    generalize zs.getD j 0 = z at hc HN
    go_enter Try.func28, Try.ntmps28
    go_wp2
    go_ret
    exact ⟨ret_int HN.out.symm, (by repeat (first | exact Bw.refl _ | assumption | refine Bw.alloc ?_ _ | refine Bw.drew ?_ | refine Bw.trans ?_ (by assumption) | refine Bw.setCell ?_ (by simp; try omega) _))⟩
/-! chapter 31: a model by numbers -/
theorem part_any (zs : List Int) (v : Value) (i : Int) (w : World) (hv : RdI w v zs) : Calls Try.prog 45 #[v, .int .i64 i] w fun e w' => e = .returned (.int .i64 (bel (nth zs i) 2000001 - 1000000)) ∧ Bw w w' := by
  have HV := Lib.hid hv
  obtain ⟨ad, cap, rfl⟩ := hv.form
  clear hv
  have HN := Lib.hid (fun W hW => Nth_any zs (.slice ad zs.length cap) i W hW)
  have HB := Lib.hid (fun n W => Below_any n 2000001 W (by decide) (by decide))
  have hb := bel_bd (nth zs i) 2000001 (by decide)
  go_enter Try.func45, Try.ntmps45
  go_wp2_with (first | (go_at_call 28; refine (HN.out _ (HV.out.mono (by repeat (first | exact Bw.refl _ | assumption | refine Bw.alloc ?_ _ | refine Bw.drew ?_ | refine Bw.trans ?_ (by assumption) | refine Bw.setCell ?_ (by simp; try omega) _)))).mono ?_; rintro e w' ⟨rfl, hb⟩; obtain ⟨hcc, hff⟩ := Bw.cells hb; have hsz := Bw.size hb; try (have hz0 : w.heap.size < w'.heap.size := by (try simp at hsz); omega); try (have hz1 : w.heap.size + 1 < w'.heap.size := by (try simp at hsz); omega); try (have hz2 : w.heap.size + 1 + 1 < w'.heap.size := by (try simp at hsz); omega); try (have hz3 : w.heap.size + 1 + 1 + 1 < w'.heap.size := by (try simp at hsz); omega); try (have hz4 : w.heap.size + 1 + 1 + 1 + 1 < w'.heap.size := by (try simp at hsz); omega); try (have hzr : wr.heap.size < w'.heap.size := by (try simp at hsz); omega); try (have hzr1 : wr.heap.size + 1 < w'.heap.size := by (try simp at hsz); omega)) | (go_at_call 27; refine (HB.out _ _).mono ?_; rintro e w' ⟨rfl, hb⟩; obtain ⟨hcc, hff⟩ := Bw.cells hb; have hsz := Bw.size hb; try (have hz0 : w.heap.size < w'.heap.size := by (try simp at hsz); omega); try (have hz1 : w.heap.size + 1 < w'.heap.size := by (try simp at hsz); omega); try (have hz2 : w.heap.size + 1 + 1 < w'.heap.size := by (try simp at hsz); omega); try (have hz3 : w.heap.size + 1 + 1 + 1 < w'.heap.size := by (try simp at hsz); omega); try (have hz4 : w.heap.size + 1 + 1 + 1 + 1 < w'.heap.size := by (try simp at hsz); omega); try (have hzr : wr.heap.size < w'.heap.size := by (try simp at hsz); omega); try (have hzr1 : wr.heap.size + 1 < w'.heap.size := by (try simp at hsz); omega)))
  go_ret
  exact ⟨rfl, (by repeat (first | exact Bw.refl _ | assumption | refine Bw.alloc ?_ _ | refine Bw.drew ?_ | refine Bw.trans ?_ (by assumption) | refine Bw.setCell ?_ (by simp; try omega) _))⟩
def ofX (zs : List Int) : Nat → Int := fun i => if i < 7 then bel (nth zs i) 2000001 - 1000000 else bel (nth zs i) 1000001
theorem ofX_ok (zs : List Int) : errA (ofX zs) = 0 := errA_ok (fun i hi => by
  unfold okA ofX
  have h1 := bel_bd (nth zs i) 2000001 (by decide)
  have h2 := bel_bd (nth zs i) 1000001 (by decide)
  rw [decide_eq_true_iff]
  by_cases h7 : i < 7
  · rw [if_pos h7]; omega
  · rw [if_neg h7]; omega)
theorem of_any (zs : List Int) (v : Value) (w : World) (hv : RdI w v zs) : Calls Try.prog 26 #[v] w fun e w' => e = .returned (.agg (atV (ofX zs))) ∧ Bw w w' := by
  have HV := Lib.hid hv
  obtain ⟨ad, cap, rfl⟩ := hv.form
  clear hv
  have HN := Lib.hid (fun i W hW => Nth_any zs (.slice ad zs.length cap) i W hW)
  have HB := Lib.hid (fun n W => Below_any n 1000001 W (by decide) (by decide))
  have HP := Lib.hid (fun i W hW => part_any zs (.slice ad zs.length cap) i W hW)
  obtain ⟨x0, hx0⟩ : ∃ x, x = bel (nth zs 0) 2000001 - 1000000 := ⟨_, rfl⟩
  obtain ⟨x1, hx1⟩ : ∃ x, x = bel (nth zs 1) 2000001 - 1000000 := ⟨_, rfl⟩
  obtain ⟨x2, hx2⟩ : ∃ x, x = bel (nth zs 2) 2000001 - 1000000 := ⟨_, rfl⟩
  obtain ⟨x3, hx3⟩ : ∃ x, x = bel (nth zs 3) 2000001 - 1000000 := ⟨_, rfl⟩
  obtain ⟨x4, hx4⟩ : ∃ x, x = bel (nth zs 4) 2000001 - 1000000 := ⟨_, rfl⟩
  obtain ⟨x5, hx5⟩ : ∃ x, x = bel (nth zs 5) 2000001 - 1000000 := ⟨_, rfl⟩
  obtain ⟨x6, hx6⟩ : ∃ x, x = bel (nth zs 6) 2000001 - 1000000 := ⟨_, rfl⟩
  obtain ⟨x7, hx7⟩ : ∃ x, x = bel (nth zs 7) 1000001 := ⟨_, rfl⟩
  obtain ⟨x8, hx8⟩ : ∃ x, x = bel (nth zs 8) 1000001 := ⟨_, rfl⟩
  have HX := Lib.hid (show atV (ofX zs) = #[.int .i64 x0, .int .i64 x1, .int .i64 x2, .int .i64 x3, .int .i64 x4, .int .i64 x5, .int .i64 x6, .int .i64 x7, .int .i64 x8] from by rw [hx0, hx1, hx2, hx3, hx4, hx5, hx6, hx7, hx8]; rfl)
  have P0 := Lib.hid (fun W hW => by have h := HP.out 0 W hW; rw [← hx0] at h; exact h)
  have P1 := Lib.hid (fun W hW => by have h := HP.out 1 W hW; rw [← hx1] at h; exact h)
  have P2 := Lib.hid (fun W hW => by have h := HP.out 2 W hW; rw [← hx2] at h; exact h)
  have P3 := Lib.hid (fun W hW => by have h := HP.out 3 W hW; rw [← hx3] at h; exact h)
  have P4 := Lib.hid (fun W hW => by have h := HP.out 4 W hW; rw [← hx4] at h; exact h)
  have P5 := Lib.hid (fun W hW => by have h := HP.out 5 W hW; rw [← hx5] at h; exact h)
  have P6 := Lib.hid (fun W hW => by have h := HP.out 6 W hW; rw [← hx6] at h; exact h)
  have P7 := Lib.hid (fun W => by have h := HB.out (nth zs 7) W; rw [← hx7] at h; exact h)
  have P8 := Lib.hid (fun W => by have h := HB.out (nth zs 8) W; rw [← hx8] at h; exact h)
  clear HP HB hx0 hx1 hx2 hx3 hx4 hx5 hx6 hx7 hx8
  have HBW := Lib.hid (Bw.alloc (Bw.refl w) (.cells #[.int .i64 0, .int .i64 0, .int .i64 0, .int .i64 0, .int .i64 0, .int .i64 0, .int .i64 0, .int .i64 0, .int .i64 0] 25))
  have KX := Lib.hid (Blk.new w 25 #[.int .i64 0, .int .i64 0, .int .i64 0, .int .i64 0, .int .i64 0, .int .i64 0, .int .i64 0, .int .i64 0, .int .i64 0])
  go_enter Try.func26, Try.ntmps26
  go_upto_region 1 with fail
  generalize w.alloc _ = u0 at HBW KX ⊢
  go_wp2_with (first | (go_at_call 45; (with_reducible first | refine Calls.mono (P0.out _ (HV.out.mono HBW.out)) ?_ | refine Calls.mono (P1.out _ (HV.out.mono HBW.out)) ?_ | refine Calls.mono (P2.out _ (HV.out.mono HBW.out)) ?_ | refine Calls.mono (P3.out _ (HV.out.mono HBW.out)) ?_ | refine Calls.mono (P4.out _ (HV.out.mono HBW.out)) ?_ | refine Calls.mono (P5.out _ (HV.out.mono HBW.out)) ?_ | refine Calls.mono (P6.out _ (HV.out.mono HBW.out)) ?_); rintro e1 w1 ⟨rfl, hb9⟩; replace HBW := Lib.hid (HBW.out.trans hb9); replace KX := Lib.hid (KX.out.bw hb9); clear hb9) | (go_at_call 28; (with_reducible first | refine Calls.mono (HN.out _ _ (HV.out.mono HBW.out)) ?_); rintro e1 w1 ⟨rfl, hb9⟩; replace HBW := Lib.hid (HBW.out.trans hb9); replace KX := Lib.hid (KX.out.bw hb9); clear hb9) | (go_at_call 27; (with_reducible first | refine Calls.mono (P7.out _) ?_ | refine Calls.mono (P8.out _) ?_); rintro e1 w1 ⟨rfl, hb9⟩; replace HBW := Lib.hid (HBW.out.trans hb9); replace KX := Lib.hid (KX.out.bw hb9); clear hb9) | ((with_reducible refine at_store 25 (.tmp 2) (.tmp 25) ?_); refine wpList_store_row rfl 25 (.tmp 2) (.tmp 25) rfl w.heap.size #[.int .i64 x0, .int .i64 x1, .int .i64 x2, .int .i64 x3, .int .i64 x4, .int .i64 x5, .int .i64 x6, .int .i64 x7, .int .i64 x8] rfl rfl 25 _ KX.out (by kernel_rfl) rfl (by simp [Value.oneCell']) ?_))
  have F3 := KX.out.row #[.int .i64 x0, .int .i64 x1, .int .i64 x2, .int .i64 x3, .int .i64 x4, .int .i64 x5, .int .i64 x6, .int .i64 x7, .int .i64 x8]
  have B3 := Bw.setRow HBW.out (Nat.le_refl w.heap.size) #[.int .i64 x0, .int .i64 x1, .int .i64 x2, .int .i64 x3, .int .i64 x4, .int .i64 x5, .int .i64 x6, .int .i64 x7, .int .i64 x8]
  have m0 := F3.cell (j := 0) (v := .int .i64 x0) rfl
  have m1 := F3.cell (j := 1) (v := .int .i64 x1) rfl
  have m2 := F3.cell (j := 2) (v := .int .i64 x2) rfl
  have m3 := F3.cell (j := 3) (v := .int .i64 x3) rfl
  have m4 := F3.cell (j := 4) (v := .int .i64 x4) rfl
  have m5 := F3.cell (j := 5) (v := .int .i64 x5) rfl
  have m6 := F3.cell (j := 6) (v := .int .i64 x6) rfl
  have m7 := F3.cell (j := 7) (v := .int .i64 x7) rfl
  have m8 := F3.cell (j := 8) (v := .int .i64 x8) rfl
  generalize World.setRow _ _ _ = WF at m0 m1 m2 m3 m4 m5 m6 m7 m8 B3 ⊢
  clear F3
  refine bodyPost_ret (v := .agg #[.int .i64 x0, .int .i64 x1, .int .i64 x2, .int .i64 x3, .int .i64 x4, .int .i64 x5, .int .i64 x6, .int .i64 x7, .int .i64 x8]) ?_ rfl ⟨?_, B3⟩
  · simp [results, Try.results26, go_sem, m0, m1, m2, m3, m4, m5, m6, m7, m8]
  · rw [HX.out]
end Go.Proofs.Sky
