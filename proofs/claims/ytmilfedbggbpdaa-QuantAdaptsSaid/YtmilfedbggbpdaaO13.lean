/-
  lemmas for the theorems of this claim. No conditions beyond those written in the statements.
-/
import Derived.Test.YtmilfedbggbpdaaN13
set_option linter.unusedVariables false
set_option linter.unusedSimpArgs false
set_option linter.unnecessarySimpa false
namespace Go.Proofs.Sky
open Go Go.RowKit
set_option maxHeartbeats 1000000
def sm (z : Int) : Int := turn z 2147483647 - 1073741824 + 1
def mkTo (zs : List Int) (k : Nat) : List (Int × Int) := (List.range k).map fun j => (sm (zs.getD (2 * j) 0), sm (zs.getD (2 * j + 1) 0))
def mkS (zs : List Int) : List (Int × Int) := mkTo zs (zs.length / 2)
theorem mkTo_snoc (zs : List Int) (k : Nat) : mkTo zs (k + 1) = mkTo zs k ++ [(sm (zs.getD (2 * k) 0), sm (zs.getD (2 * k + 1) 0))] := by unfold mkTo; rw [List.range_succ, List.map_append]; rfl
theorem mkTo_len (zs : List Int) (k : Nat) : (mkTo zs k).length = k := by simp [mkTo]
def MkS (base : Nat) (zs : List Int) (e : Ending) (w' : World) : Prop := ∃ v, e = .returned v ∧ RdS w' v (mkS zs) ∧ Fresh base v
theorem Try.info50s : (Try.prog.info? 50).map (fun i => (i.zero, i.size, i.bytes)) = some (some (.agg #[.int .i64 0, .int .i64 0]), 2, 16) := by kernel_rfl
theorem own_rdS2 {w : World} {base : Nat} {e : TypeId} {v : Value} {ps : List (Int × Int)} (h : w.ownsRow base e 2 v ps.length (flat ps)) (hn : ps.length ≤ 9223372036854775807) : RdS w v ps ∧ Fresh base v := by
  have hf : Fresh base v := fun b hb => (h.lt b hb).1
  rcases h.2 with ⟨rfl, h0⟩ | ⟨g, cap, cur, rfl, _⟩
  · have : ps = [] := List.length_eq_zero_iff.1 h0
    subst this
    exact ⟨RdS.nil w, hf⟩
  · exact ⟨own_rdS h hn, hf⟩
theorem samples_any (zs : List Int) (v : Value) (w : World) (hv : RdI w v zs) (hn : zs.length ≤ 1048576) :
    Calls Try.prog 30 #[v] w fun e w' => MkS w.heap.size zs e w' ∧ Bw w w' := by
  obtain ⟨_, a, cap, rfl, h4⟩ := hv
  obtain ⟨n, hnn⟩ : ∃ n, n = zs.length := ⟨_, rfl⟩
  rw [← hnn] at hn ⊢
  obtain ⟨i0, hi, hzz⟩ := Option.map_eq_some_iff.1 Try.info50s
  simp only [Prod.mk.injEq] at hzz
  obtain ⟨hz0, hz1, hz2⟩ := hzz
  have HI := Lib.hid (And.intro hi (And.intro hz0 (And.intro hz1 hz2))); clear hi hz0 hz1 hz2
  have HN := Lib.hid hnn; clear hnn
  have H4 := Lib.hid h4; clear h4
  go_enter Try.func30, Try.ntmps30
  go_wp2
  go_loopg [3, 4] n (fun gg s3 s4 wr => ∃ i k : Nat, Hid (i = 2 * k) ∧ i ≤ n ∧ n - i ≤ gg ∧ s4 = .int .i64 i ∧ Hid (Bw w wr) ∧ Hid (wr.ownsRow w.heap.size 50 2 s3 k (flat (mkTo zs k))))
  case atStart => exact ⟨0, 0, rfl, Nat.zero_le _, by omega, rfl, Bw.refl _, World.ownsRow_nil _ _ _ _⟩
  case round =>
    obtain ⟨i, k, hik, hi, hg, rfl, hbw, hown⟩ := hrel
    by_cases hlt : i + 1 < n
    · have hltz : (i : Int) + 1 < (n : Int) := by omega
      have hq := HN.out
      obtain ⟨b1, o1, rfl, hb1, hc⟩ := H4.out.resolve_left (by intro h; rw [h] at hq; simp at hq; omega)
      have c1 := hc i (by omega)
      have c2 := hc (i + 1) (by omega)
      rw [← hbw.out.cells.1 _ _ (by assumption)] at c1 c2
      have hz := hbw.out.size
      have HX := Lib.hid (mkTo_snoc zs k)
      rw [← hik.out] at HX
      generalize hx : zs.getD i 0 = x at c1 HX
      generalize hy : zs.getD (i + 1) 0 = y at c2 HX
      clear hx hy hq hc H4
      have ⟨t1, t2⟩ := turn_bd x 2147483647 (by omega)
      have ⟨t3, t4⟩ := turn_bd y 2147483647 (by omega)
      have e1 := fun p : Ext wr => Ext.cell (by omega) c1 p
      have e2 := fun p : Ext wr => Ext.cell (by omega) c2 p
      go_wp2
      (refine wp_region_ext_float 17 _ rfl rfl (by kernel_rfl) (by kernel_rfl) (fun _ _ _ _ h => h) ?_; simp only [Nat.reduceSub, List.take_succ_cons, List.take_zero, List.drop_succ_cons, List.drop_zero]; go_frame; (repeat (go_big_quiet_step ((go_at_call 29; refine Calls.ext_of (turn_any _ _ (by omega) (by omega) _))))); refine wpQuiet_nil ?_; rintro wa ⟨⟨_, hbq⟩, rfl⟩; obtain ⟨hccq, hffq⟩ := Bw.cells hbq; have hszq := Bw.size hbq)
      have how := own_bw hown.out hbq
      have hbe := Bw.trans hbw.out hbq
      have hsw := hbe.size
      obtain ⟨hi1, hz0, hz1, hz2⟩ := HI.out
      have hkk : k ≤ n := by have := hik.out; omega
      go_wp2_with (at_builtin; refine wpList_append_own _ rfl _ _ 32 rfl w.heap.size 50 i0 (.agg #[.int .i64 0, .int .i64 0]) 2 16 Try.underlying32 hi1 hz0 hz1 hz2 rfl (by decide) _ _ _ rfl (how.alloc _) ⟨wa.heap.size, 0, none⟩ 1 1 [.int .i64 (turn x 2147483647 - 1073741824 + 1), .int .i64 (turn y 2147483647 - 1073741824 + 1)] rfl rfl ?c1 ?c2 ?c3 ?c4 ?c5 ?_)
      case c1 => exact new_cells wa [.int .i64 (turn x 2147483647 - 1073741824 + 1), .int .i64 (turn y 2147483647 - 1073741824 + 1)] 50 (by simp)
      case c2 => simp [Value.oneCell']
      case c3 => unfold maxLen; omega
      case c4 => omega
      case c5 => simp; omega
      intro v' w1 hown' hgrow _
      have hb1' := Bw.grown (hbe.alloc _) (how.alloc _) hgrow
      have HO := Lib.hid hown'; clear hown' hgrow how HI hi1 hz0 hz1 hz2 hkk
      go_wp2
      go_roundg (n - (i + 2))
      case measure => omega
      case rel => exact ⟨i + 2, k + 1, by have := hik.out; show i + 2 = 2 * (k + 1); omega, by omega, by omega, by go_num, hb1', by rw [HX.out, flat_append]; exact HO.out⟩
    · have hltz : ¬ (i : Int) + 1 < (n : Int) := by omega
      go_wp2
      go_ret
      have hk2 : k = zs.length / 2 := by have := HN.out; have := hik.out; omega
      have HO := hown.out
      rw [show flat (mkTo zs k) = flat (mkS zs) by rw [hk2]; rfl, show k = (mkS zs).length by rw [hk2]; simp [mkS, mkTo]] at HO
      have h3 := own_rdS2 HO (by have := HN.out; simp [mkS, mkTo]; omega)
      exact ⟨⟨_, rfl, h3.1, h3.2⟩, hbw.out⟩
end Go.Proofs.Sky
