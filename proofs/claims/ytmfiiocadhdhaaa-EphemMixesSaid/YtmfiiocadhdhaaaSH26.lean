/-
  lemmas for the theorems of this claim. No conditions beyond those written in the statements.
-/
import Derived.Test.YtmfiiocadhdhaaaSF26
import Derived.Test.YtmfiiocadhdhaaaSG26
import Derived.Test.YtmfiiocadhdhaaaRC26
import Derived.Deep.Cut
set_option linter.unusedVariables false
set_option linter.unusedSimpArgs false
set_option linter.unnecessarySimpa false
namespace Go.Proofs.Sky
open Go Go.RowKit Go.Shelf
set_option maxHeartbeats 4000000
set_option maxRecDepth 8000
/-! chapter 26: the reference's Add -/
/-- a list that an older world holds, or one of the call's own -/
def DatM (w W : World) (B : Nat) (v : Value) (zs : List Int) : Prop := (RdI w v zs ∧ Capd v) ∨ RdN W B v zs
theorem DatM.rd {w W : World} {B : Nat} {v : Value} {zs : List Int} (h : DatM w W B v zs) (hb : Bw w W) : RdI W v zs ∧ Capd v := h.elim (fun h => ⟨h.1.mono hb, h.2⟩) (fun h => ⟨h.1, h.2.1⟩)
theorem DatM.bw {w W W' : World} {B : Nat} {v : Value} {zs : List Int} (h : DatM w W B v zs) (hb : Bw W W') : DatM w W' B v zs := h.elim .inl (fun h => .inr (h.bw hb))
theorem DatM.set {w W : World} {B b : Nat} {v : Value} {zs : List Int} (h : DatM w W B v zs) (hb : b < B) (o : Nat) (u : Value) : DatM w (W.setCell ⟨b, o, none⟩ u) B v zs := h.elim .inl (fun h => .inr (h.set hb o u))
theorem DatM.kx {w W W' : World} {B g : Nat} {v : Value} {zs : List Int} (h : DatM w W B v zs) (hk : Kx g W W') (hg : g < B) : DatM w W' B v zs := h.elim .inl (fun h => .inr (h.kx hk hg))
theorem rd_at {W : World} {b o n c : Nat} {zs : List Int} (h : RdI W (.slice (some ⟨b, o, none⟩) n c) zs) {i : Nat} (hi : i < zs.length) : W.cell? ⟨b, o + i, none⟩ = some (.int .i64 (zs.getD i 0)) := by
  obtain ⟨b2, o2, c2, hv, _, hc⟩ := h.at (by omega)
  injection hv with a1 a2 a3
  injection a1 with a1
  injection a1 with a1 a4 a5
  subst a1 a4
  exact hc i hi
theorem rv_at {zs : List Int} {k : Nat} (hk : k < 3) {W : World} {b o n c : Nat} (h : RdI W (.slice (some ⟨b, o, none⟩) n c) (rvL zs k)) : W.cell? ⟨b, o, none⟩ = some (.int .i64 (rvX zs k 0)) ∧ W.cell? ⟨b, o + 1, none⟩ = some (.int .i64 (rvX zs k 1)) := by
  have hl : (rvL zs k).length = (LS k).length := by unfold rvL; simp
  have h2 := (ls_len k hk).2.1
  have h3 := rd_at h (i := 0) (by omega)
  have h4 := rd_at h (i := 1) (by omega)
  rw [rvL_get zs k 0 (by omega)] at h3
  rw [rvL_get zs k 1 (by omega)] at h4
  exact ⟨h3, h4⟩
section
variable {o : Oper} {a : Act} {w : World} {Q : Exit → Act → World → Prop}
theorem wp_append_ints {P : Program} {K : Act → World → Prop} (s x : Operand) (t : TypeId)
    (ho : o.op = .call { callee := .builtin .append, args := #[s, x], argTypes := #[t, t] }) (dst : Option Tmp) (hd : o.dst = dst)
    (base : Nat) (e : TypeId) (ht : P.underlying t = some (.slice e)) (hi : (P.info? e).map (fun i => (i.zero, i.size, i.bytes)) = some (some (.int .i64 0), 1, 8))
    (v : Value) (xs zs : List Int) (hs : a.eval s = v) (hown : w.ownsRow base e 1 v xs.length (xs.map (Value.int .i64)))
    (ad : Addr) (c : Nat) (hx : a.eval x = .slice (some ad) zs.length c) (hr : RdI w (.slice (some ad) zs.length c) zs)
    (hn : xs.length + zs.length ≤ 17592186044416) (hbase : base ≤ w.heap.size)
    (h : ∀ v' w', w'.ownsRow base e 1 v' (xs ++ zs).length ((xs ++ zs).map (Value.int .i64)) → w.grownBy w' v.ownBlock → K (a.put dst v') w') : o.wp P a w K Q := by
  subst hd
  obtain ⟨i, hi, hzz⟩ := Option.map_eq_some_iff.1 hi
  simp only [Prod.mk.injEq] at hzz
  obtain ⟨hz0, hz1, hz2⟩ := hzz
  refine wp_append_own w s x t ho base e i _ 1 8 ht hi hz0 hz1 hz2 rfl (by decide) v xs.length (xs.map (Value.int .i64)) hs hown ad zs.length c (zs.map (Value.int .i64)) hx (by simp) (fun j u hu => hr.cells j u hu) (int_one zs) (by unfold maxLen; omega) (by omega) hbase (fun v' w' h2 h3 _ => h v' w' ?_ h3)
  rw [List.length_append, List.map_append]; exact h2
end
theorem RAdd26_any (p : Pm) (D : Nat → Value) (t k : Int) (zs : List Int) (v : Value) (w : World) (hD : ∀ j, j < 3 → RdI w (D j) (p.Z j) ∧ Capd (D j)) (hv : RdI w v zs) (hc : Capd v) :
    Calls Try.prog 21 #[.agg (ptV p.h p.is p.pr D), .agg #[.int .i64 t, .int .i64 k, v]] w fun e w' => AddP (addR p t k zs) e w' ∧ Bw w w' := by
  have HV := Lib.hid hv
  have HC := Lib.hid hc
  have HDD := Lib.hid hD
  obtain ⟨a, c, rfl⟩ := hv.form
  clear hv hc
  have SN : Hid (∀ W, Bw w W → Calls Try.prog 43 #[.agg (ptV p.h p.is p.pr D)] W fun e w' => e = .returned (.bool (sndP p)) ∧ Bw W w') := Lib.hid (fun W q => right26_any p D W (fun j hj => ⟨(hD j hj).1.mono q, (hD j hj).2⟩))
  have BE : Hid (∀ W, Bw w W → Calls Try.prog 38 #[.agg #[.int .i64 t, .int .i64 k, .slice a zs.length c]] W fun e w' => PartP W.heap.size t k zs e w' ∧ Bw W w') := Lib.hid (fun W q => part_any t k zs (.slice a zs.length c) W (HV.out.mono q))
  unfold PartP at BE
  clear hD
  have HOD := Lib.hid (one8 p.h p.is p.pr D (fun j hj => by obtain ⟨x, y, e⟩ := (HDD.out j hj).1.form; exact ⟨x, _, y, e⟩))
  have HAR : Hid (∀ r, r = addR p t k zs → ∀ e w', AddP r e w' → AddP (addR p t k zs) e w') := Lib.hid (fun r e _ _ h => e ▸ h)
  have HA1 := Lib.hid (show sndP p = false → (zP, zE, false, (13 : Int)) = addR p t k zs from fun h => by unfold addR; rw [h]; rfl)
  have HA2 := Lib.hid (show sndP p = true → rokP t k zs = false → (zP, zE, false, (3 : Int)) = addR p t k zs from fun h h2 => by unfold addR; rw [h, h2]; rfl)
  obtain ⟨g, hg⟩ : ∃ g, w.heap.size = g := ⟨_, rfl⟩
  have HBW := Lib.hid (Bw.alloc (Bw.alloc (Bw.alloc (Bw.alloc (Bw.refl w) (.cells (ptV p.h p.is p.pr D) 43)) (.cells #[.int .i64 t, .int .i64 k, .slice a zs.length c] 47)) (.cells #[.bool false, .bool false, .bool false, .int .i64 0, .int .i64 0, .slice none 0 0, .slice none 0 0, .slice none 0 0] 43)) (.cells #[.int .i64 0, .int .i64 0, .int .i64 0, .int .i64 0, .int .i64 0, .int .i64 0, .int .i64 0, .int .i64 0, .int .i64 0, .int .i64 0, .int .i64 0, .int .i64 0, .int .i64 0, .int .i64 0, .int .i64 0, .int .i64 0, .int .i64 0, .int .i64 0, .int .i64 0] 25))
  have KP := Lib.hid ((((Blk.new w 43 (ptV p.h p.is p.pr D)).alloc (.cells #[.int .i64 t, .int .i64 k, .slice a zs.length c] 47)).alloc (.cells #[.bool false, .bool false, .bool false, .int .i64 0, .int .i64 0, .slice none 0 0, .slice none 0 0, .slice none 0 0] 43)).alloc (.cells #[.int .i64 0, .int .i64 0, .int .i64 0, .int .i64 0, .int .i64 0, .int .i64 0, .int .i64 0, .int .i64 0, .int .i64 0, .int .i64 0, .int .i64 0, .int .i64 0, .int .i64 0, .int .i64 0, .int .i64 0, .int .i64 0, .int .i64 0, .int .i64 0, .int .i64 0] 25))
  have KF := Lib.hid (((Blk.new (w.alloc (.cells (ptV p.h p.is p.pr D) 43)) 47 #[.int .i64 t, .int .i64 k, .slice a zs.length c]).alloc (.cells #[.bool false, .bool false, .bool false, .int .i64 0, .int .i64 0, .slice none 0 0, .slice none 0 0, .slice none 0 0] 43)).alloc (.cells #[.int .i64 0, .int .i64 0, .int .i64 0, .int .i64 0, .int .i64 0, .int .i64 0, .int .i64 0, .int .i64 0, .int .i64 0, .int .i64 0, .int .i64 0, .int .i64 0, .int .i64 0, .int .i64 0, .int .i64 0, .int .i64 0, .int .i64 0, .int .i64 0, .int .i64 0] 25))
  have KQ := Lib.hid ((Blk.new ((w.alloc (.cells (ptV p.h p.is p.pr D) 43)).alloc (.cells #[.int .i64 t, .int .i64 k, .slice a zs.length c] 47)) 43 #[.bool false, .bool false, .bool false, .int .i64 0, .int .i64 0, .slice none 0 0, .slice none 0 0, .slice none 0 0]).alloc (.cells #[.int .i64 0, .int .i64 0, .int .i64 0, .int .i64 0, .int .i64 0, .int .i64 0, .int .i64 0, .int .i64 0, .int .i64 0, .int .i64 0, .int .i64 0, .int .i64 0, .int .i64 0, .int .i64 0, .int .i64 0, .int .i64 0, .int .i64 0, .int .i64 0, .int .i64 0] 25))
  have KE := Lib.hid (Blk.new (((w.alloc (.cells (ptV p.h p.is p.pr D) 43)).alloc (.cells #[.int .i64 t, .int .i64 k, .slice a zs.length c] 47)).alloc (.cells #[.bool false, .bool false, .bool false, .int .i64 0, .int .i64 0, .slice none 0 0, .slice none 0 0, .slice none 0 0] 43)) 25 #[.int .i64 0, .int .i64 0, .int .i64 0, .int .i64 0, .int .i64 0, .int .i64 0, .int .i64 0, .int .i64 0, .int .i64 0, .int .i64 0, .int .i64 0, .int .i64 0, .int .i64 0, .int .i64 0, .int .i64 0, .int .i64 0, .int .i64 0, .int .i64 0, .int .i64 0])
  simp only [World.size_alloc, hg] at KP KF KQ KE
  go_enter Try.func21, Try.ntmps21
  go_upto_region 1 with fail
  obtain ⟨W0, hW0⟩ : ∃ W0, (((w.alloc (.cells (ptV p.h p.is p.pr D) 43)).alloc (.cells #[.int .i64 t, .int .i64 k, .slice a zs.length c] 47)).alloc (.cells #[.bool false, .bool false, .bool false, .int .i64 0, .int .i64 0, .slice none 0 0, .slice none 0 0, .slice none 0 0] 43)).alloc (.cells #[.int .i64 0, .int .i64 0, .int .i64 0, .int .i64 0, .int .i64 0, .int .i64 0, .int .i64 0, .int .i64 0, .int .i64 0, .int .i64 0, .int .i64 0, .int .i64 0, .int .i64 0, .int .i64 0, .int .i64 0, .int .i64 0, .int .i64 0, .int .i64 0, .int .i64 0] 25) = W0 := ⟨_, rfl⟩
  rw [hW0] at HBW KP KF KQ KE ⊢
  clear hW0
  have HG := Lib.hid hg
  clear hg
  cases hs : sndP p with
  | false =>
    rw [hs] at SN
    have HR := Lib.hid (HA1.out hs)
    go_upto_region 2 with (first | ((with_reducible refine at_load 43 (.tmp 2) ?_); refine wpList_load_row rfl 43 _ rfl g rfl 43 _ (0, 0) _ KP.out Try.underlying43 rfl (by kernel_rfl) ?_) | (go_at_call 43; (with_reducible refine Calls.mono (SN.out _ HBW.out) ?_); rintro e1 w1 ⟨rfl, hb9⟩; replace HBW := Lib.hid (HBW.out.trans hb9); replace KP := Lib.hid (KP.out.bw hb9); replace KF := Lib.hid (KF.out.bw hb9); replace KQ := Lib.hid (KQ.out.bw hb9); replace KE := Lib.hid (KE.out.bw hb9); clear hb9))
    go_wp2_with (first | ((with_reducible refine at_store 43 (.tmp 4) (.tmp 19) ?_); refine wpList_store_row rfl 43 (.tmp 4) (.tmp 19) rfl (g + 1 + 1) #[.bool false, .bool false, .bool false, .int .i64 0, .int .i64 0, .slice none 0 0, .slice none 0 0, .slice none 0 0] rfl rfl 43 _ KQ.out (by kernel_rfl) rfl (by simp [Value.oneCell']) ?_; replace KE := Lib.hid (KE.out.row_other (g' := g + 1 + 1) (by omega) #[.bool false, .bool false, .bool false, .int .i64 0, .int .i64 0, .slice none 0 0, .slice none 0 0, .slice none 0 0]); replace HBW := Lib.hid (Bw.setRow HBW.out (show w.heap.size ≤ g + 1 + 1 by have := HG.out; omega) #[.bool false, .bool false, .bool false, .int .i64 0, .int .i64 0, .slice none 0 0, .slice none 0 0, .slice none 0 0]); replace KQ := Lib.hid (KQ.out.row #[.bool false, .bool false, .bool false, .int .i64 0, .int .i64 0, .slice none 0 0, .slice none 0 0, .slice none 0 0])) | ((with_reducible refine at_store 25 (.tmp 5) (.tmp 20) ?_); refine wpList_store_row rfl 25 (.tmp 5) (.tmp 20) rfl (g + 1 + 1 + 1) (#[.int .i64 0, .int .i64 0, .int .i64 0, .int .i64 0, .int .i64 0, .int .i64 0, .int .i64 0, .int .i64 0, .int .i64 0, .int .i64 0, .int .i64 0, .int .i64 0, .int .i64 0, .int .i64 0, .int .i64 0, .int .i64 0, .int .i64 0, .int .i64 0, .int .i64 0]) rfl rfl 25 _ KE.out (by kernel_rfl) rfl (by simp [Value.oneCell']) ?_; replace KQ := Lib.hid (KQ.out.row_other (g' := g + 1 + 1 + 1) (by omega) (#[.int .i64 0, .int .i64 0, .int .i64 0, .int .i64 0, .int .i64 0, .int .i64 0, .int .i64 0, .int .i64 0, .int .i64 0, .int .i64 0, .int .i64 0, .int .i64 0, .int .i64 0, .int .i64 0, .int .i64 0, .int .i64 0, .int .i64 0, .int .i64 0, .int .i64 0])); replace HBW := Lib.hid (Bw.setRow HBW.out (show w.heap.size ≤ g + 1 + 1 + 1 by have := HG.out; omega) (#[.int .i64 0, .int .i64 0, .int .i64 0, .int .i64 0, .int .i64 0, .int .i64 0, .int .i64 0, .int .i64 0, .int .i64 0, .int .i64 0, .int .i64 0, .int .i64 0, .int .i64 0, .int .i64 0, .int .i64 0, .int .i64 0, .int .i64 0, .int .i64 0, .int .i64 0])); replace KE := Lib.hid (KE.out.row (#[.int .i64 0, .int .i64 0, .int .i64 0, .int .i64 0, .int .i64 0, .int .i64 0, .int .i64 0, .int .i64 0, .int .i64 0, .int .i64 0, .int .i64 0, .int .i64 0, .int .i64 0, .int .i64 0, .int .i64 0, .int .i64 0, .int .i64 0, .int .i64 0, .int .i64 0]))))
    rw [← zE_V] at KE HBW KQ
    refine bodyPost_ret (v := .tuple #[.agg #[.bool false, .bool false, .bool false, .int .i64 0, .int .i64 0, .slice none 0 0, .slice none 0 0, .slice none 0 0], .agg (eV zE), .bool false, .int .i64 13]) ?_ rfl ⟨HAR.out _ HR.out _ _ (AddP.zero _ _ _ _), HBW.out⟩
    exact res_add (p := 4) (q := 5) (u := 6) (v := 7) rfl _ _ _ _ _ rfl _ rfl KQ.out rfl KE.out
  | true =>
    rw [hs] at SN
    have HA2 := Lib.hid (HA2.out hs)
    cases hrk : rokP t k zs with
    | false =>
      rw [hrk] at BE
      have HR := Lib.hid (HA2.out hrk)
      go_upto_region 5 with (first | ((with_reducible refine at_load 43 (.tmp 2) ?_); refine wpList_load_row rfl 43 _ rfl g rfl 43 _ (0, 0) _ KP.out Try.underlying43 rfl (by kernel_rfl) ?_) | ((with_reducible refine at_load 47 (.tmp 3) ?_); refine wpList_load_row rfl 47 _ rfl (g + 1) rfl 47 _ (0, 0) _ KF.out Try.underlying47 rfl (by kernel_rfl) ?_) | (go_at_call 43; (with_reducible refine Calls.mono (SN.out _ HBW.out) ?_); rintro e1 w1 ⟨rfl, hb9⟩; replace HBW := Lib.hid (HBW.out.trans hb9); replace KP := Lib.hid (KP.out.bw hb9); replace KF := Lib.hid (KF.out.bw hb9); replace KQ := Lib.hid (KQ.out.bw hb9); replace KE := Lib.hid (KE.out.bw hb9); clear hb9) | (go_at_call 38; (with_reducible refine Calls.mono (BE.out _ HBW.out) ?_); rintro e1 w2 ⟨⟨vv, rfl, hrv⟩, hb9⟩; have HRV := Lib.hid hrv; have HB1 := Lib.hid (show g + 1 + 1 + 1 < w1.heap.size from KE.out.lt); replace HBW := Lib.hid (HBW.out.trans hb9); replace KP := Lib.hid (KP.out.bw hb9); replace KF := Lib.hid (KF.out.bw hb9); replace KQ := Lib.hid (KQ.out.bw hb9); replace KE := Lib.hid (KE.out.bw hb9); clear hb9 hrv))
      go_wp2_with (first | ((with_reducible refine at_store 43 (.tmp 4) (.tmp 28) ?_); refine wpList_store_row rfl 43 (.tmp 4) (.tmp 28) rfl (g + 1 + 1) #[.bool false, .bool false, .bool false, .int .i64 0, .int .i64 0, .slice none 0 0, .slice none 0 0, .slice none 0 0] rfl rfl 43 _ KQ.out (by kernel_rfl) rfl (by simp [Value.oneCell']) ?_; replace KE := Lib.hid (KE.out.row_other (g' := g + 1 + 1) (by omega) #[.bool false, .bool false, .bool false, .int .i64 0, .int .i64 0, .slice none 0 0, .slice none 0 0, .slice none 0 0]); replace HBW := Lib.hid (Bw.setRow HBW.out (show w.heap.size ≤ g + 1 + 1 by have := HG.out; omega) #[.bool false, .bool false, .bool false, .int .i64 0, .int .i64 0, .slice none 0 0, .slice none 0 0, .slice none 0 0]); replace KQ := Lib.hid (KQ.out.row #[.bool false, .bool false, .bool false, .int .i64 0, .int .i64 0, .slice none 0 0, .slice none 0 0, .slice none 0 0])) | ((with_reducible refine at_store 25 (.tmp 5) (.tmp 29) ?_); refine wpList_store_row rfl 25 (.tmp 5) (.tmp 29) rfl (g + 1 + 1 + 1) (#[.int .i64 0, .int .i64 0, .int .i64 0, .int .i64 0, .int .i64 0, .int .i64 0, .int .i64 0, .int .i64 0, .int .i64 0, .int .i64 0, .int .i64 0, .int .i64 0, .int .i64 0, .int .i64 0, .int .i64 0, .int .i64 0, .int .i64 0, .int .i64 0, .int .i64 0]) rfl rfl 25 _ KE.out (by kernel_rfl) rfl (by simp [Value.oneCell']) ?_; replace KQ := Lib.hid (KQ.out.row_other (g' := g + 1 + 1 + 1) (by omega) (#[.int .i64 0, .int .i64 0, .int .i64 0, .int .i64 0, .int .i64 0, .int .i64 0, .int .i64 0, .int .i64 0, .int .i64 0, .int .i64 0, .int .i64 0, .int .i64 0, .int .i64 0, .int .i64 0, .int .i64 0, .int .i64 0, .int .i64 0, .int .i64 0, .int .i64 0])); replace HBW := Lib.hid (Bw.setRow HBW.out (show w.heap.size ≤ g + 1 + 1 + 1 by have := HG.out; omega) (#[.int .i64 0, .int .i64 0, .int .i64 0, .int .i64 0, .int .i64 0, .int .i64 0, .int .i64 0, .int .i64 0, .int .i64 0, .int .i64 0, .int .i64 0, .int .i64 0, .int .i64 0, .int .i64 0, .int .i64 0, .int .i64 0, .int .i64 0, .int .i64 0, .int .i64 0])); replace KE := Lib.hid (KE.out.row (#[.int .i64 0, .int .i64 0, .int .i64 0, .int .i64 0, .int .i64 0, .int .i64 0, .int .i64 0, .int .i64 0, .int .i64 0, .int .i64 0, .int .i64 0, .int .i64 0, .int .i64 0, .int .i64 0, .int .i64 0, .int .i64 0, .int .i64 0, .int .i64 0, .int .i64 0]))))
      rw [← zE_V] at KE HBW KQ
      refine bodyPost_ret (v := .tuple #[.agg #[.bool false, .bool false, .bool false, .int .i64 0, .int .i64 0, .slice none 0 0, .slice none 0 0, .slice none 0 0], .agg (eV zE), .bool false, .int .i64 3]) ?_ rfl ⟨HAR.out _ HR.out _ _ (AddP.zero _ _ _ _), HBW.out⟩
      exact res_add (p := 4) (q := 5) (u := 6) (v := 7) rfl _ _ _ _ _ rfl _ rfl KQ.out rfl KE.out
    | true =>
      rw [hrk] at BE
      go_upto_region 6 with (first | ((with_reducible refine at_load 43 (.tmp 2) ?_); refine wpList_load_row rfl 43 _ rfl g rfl 43 _ (0, 0) _ KP.out Try.underlying43 rfl (by kernel_rfl) ?_) | ((with_reducible refine at_load 47 (.tmp 3) ?_); refine wpList_load_row rfl 47 _ rfl (g + 1) rfl 47 _ (0, 0) _ KF.out Try.underlying47 rfl (by kernel_rfl) ?_) | (go_at_call 43; (with_reducible refine Calls.mono (SN.out _ HBW.out) ?_); rintro e1 w1 ⟨rfl, hb9⟩; replace HBW := Lib.hid (HBW.out.trans hb9); replace KP := Lib.hid (KP.out.bw hb9); replace KF := Lib.hid (KF.out.bw hb9); replace KQ := Lib.hid (KQ.out.bw hb9); replace KE := Lib.hid (KE.out.bw hb9); clear hb9) | (go_at_call 38; (with_reducible refine Calls.mono (BE.out _ HBW.out) ?_); rintro e1 w2 ⟨⟨vv, rfl, hrv⟩, hb9⟩; have HRV := Lib.hid hrv; have HB1 := Lib.hid (show g + 1 + 1 + 1 < w1.heap.size from KE.out.lt); replace HBW := Lib.hid (HBW.out.trans hb9); replace KP := Lib.hid (KP.out.bw hb9); replace KF := Lib.hid (KF.out.bw hb9); replace KQ := Lib.hid (KQ.out.bw hb9); replace KE := Lib.hid (KE.out.bw hb9); clear hb9 hrv))
      obtain ⟨hr1, _, hr3⟩ := HRV.out trivial
      have hrp := rokP_kind hrk
      have hkd : kdN k < 3 ∧ k = (kdN k : Int) + 1 := ⟨kdN_lt k, by have := kd_sub hrp.1 hrp.2; omega⟩
      have h3 : rokV zs k = true := by unfold rokP at hrk; simp only [Bool.and_eq_true] at hrk; exact hrk.2
      have HA3 : Hid (((nxP p zs (kdN k)).h 0 && ((nxP p zs (kdN k)).h 1 && (nxP p zs (kdN k)).h 2)) = false → (nxP p zs (kdN k), zE, false, (0 : Int)) = addR p t k zs) := Lib.hid (fun h => by
        unfold addR; rw [hs, hrk, if_pos rfl, if_pos rfl, if_neg]
        rw [Bool.and_assoc, h]; decide)
      have HA4 : Hid (((nxP p zs (kdN k)).h 0 && ((nxP p zs (kdN k)).h 1 && (nxP p zs (kdN k)).h 2)) = true → (zP, togE (rvL ((nxP p zs (kdN k)).Z 0) 0) (rvL ((nxP p zs (kdN k)).Z 1) 1) (rvL ((nxP p zs (kdN k)).Z 2) 2), true, (0 : Int)) = addR p t k zs) := Lib.hid (fun h => by
        unfold addR; rw [hs, hrk, if_pos rfl, if_pos rfl, if_pos]
        rw [Bool.and_assoc, h])
      have hzl : zs.length = 206 := (gdF_of (rok_gd hrk).1).len
      have HZL := Lib.hid hzl
      obtain ⟨b0, o0, c0, hv0, _, _⟩ := HV.out.at (by omega)
      injection hv0 with i1 i2 i3
      subst i1
      clear i2 i3 hzl SN BE HA1 HA2 HRV hrp
      have HK0 := Lib.hid hrk
      clear hrk
      obtain ⟨kk, hkk⟩ : ∃ kk, kk = kdN k := ⟨_, rfl⟩
      rw [← hkk] at hkd HA3 HA4 hr1
      clear hkk
      obtain ⟨h1, h2⟩ := hkd
      subst h2
      have HK3 := Lib.hid h3
      clear h3
      obtain ⟨bb, oo, cc, hvv, hll, _, _⟩ := rv_cells h1 hr1
      subst hvv
      have HBB := Lib.hid (show g + 1 + 1 + 1 < bb from Nat.lt_of_lt_of_le HB1.out (hr3 bb rfl))
      have HRL := Lib.hid hr1
      clear hr1 hr3
      obtain ⟨n, hn⟩ : ∃ n, n = (rvL zs kk).length := ⟨_, rfl⟩
      rw [← hn] at HRL hll ⊢
      have hle := HRL.out.1
      rw [← hn] at hle
      clear hn
      have hn0 : (0 : Int) < n := by omega
      have hn1 : (1 : Int) < n := by omega
      have hnn0 : 0 < n := by omega
      have hnn1 : 1 < n := by omega
      obtain ⟨y0, hy0⟩ : ∃ y0, y0 = rvX zs kk 0 := ⟨_, rfl⟩
      obtain ⟨y1, hy1⟩ : ∃ y1, y1 = rvX zs kk 1 := ⟨_, rfl⟩
      have HYA : Hid (∀ W, RdI W (.slice (some ⟨bb, oo, none⟩) n cc) (rvL zs kk) → W.cell? ⟨bb, oo, none⟩ = some (.int .i64 y0) ∧ W.cell? ⟨bb, oo + 1, none⟩ = some (.int .i64 y1)) := Lib.hid (fun W h => by rw [hy0, hy1]; exact rv_at h1 h)
      have HSM : Hid (smP p zs kk = decide (p.is = y0 ∧ p.pr = y1)) := Lib.hid (by rw [hy0, hy1]; rfl)
      have HNX : Hid ((nxP p zs kk).is = y0 ∧ (nxP p zs kk).pr = y1) := Lib.hid ⟨hy0.symm, hy1.symm⟩
      clear hy0 hy1
      generalize rvL zs kk = LV at HRL HYA
      obtain ⟨x0, x1⟩ := HYA.out _ HRL.out
      have x3 := KP.out.cell (ptV_is p.h p.is p.pr D)
      have x4 := KP.out.cell (ptV_pr p.h p.is p.pr D)
      have e0 := fun p' : Ext w2 => Ext.cell' x0 p'
      have e1 := fun p' : Ext w2 => Ext.cell' x1 p'
      have e3 := fun p' : Ext w2 => Ext.cell' x3 p'
      have e4 := fun p' : Ext w2 => Ext.cell' x4 p'
      clear x0 x1 x3 x4
      go_cut [43] from 16 (fun s43 wc => s43 = .bool (smP p zs kk) ∧ Hid (Bw w2 wc))
      case first =>
        by_cases r1 : p.is = y0
        · have r1b : (p.is == y0) = true := by simpa using r1
          have HG2 := Lib.hid (show (p.pr == y1) = smP p zs kk by
            rw [HSM.out]
            by_cases r2 : p.pr = y1
            · rw [decide_eq_true ⟨r1, r2⟩]; simpa using r2
            · rw [decide_eq_false (fun h => r2 h.2)]; simpa using r2)
          clear r1
          (refine wp_region_quiet_ext (by kernel_rfl) (by kernel_rfl) ?_; (repeat (go_big_quiet_step ((fail)))); refine wpQuiet_nil ?_; rintro wq ⟨⟨_, hbq⟩, rfl⟩; obtain ⟨hccq, hffq⟩ := Bw.cells hbq; have hszq := Bw.size hbq)
          go_wp2
          go_meet
          exact ⟨by rw [HG2.out], Lib.hid hbq⟩
        · have r1b : (p.is == y0) = false := by simpa using r1
          have HG2 := Lib.hid (show false = smP p zs kk from (HSM.out.trans (decide_eq_false (fun h => r1 h.1))).symm)
          clear r1
          (refine wp_region_quiet_ext (by kernel_rfl) (by kernel_rfl) ?_; (repeat (go_big_quiet_step ((fail)))); refine wpQuiet_nil ?_; rintro wq ⟨⟨_, hbq⟩, rfl⟩; obtain ⟨hccq, hffq⟩ := Bw.cells hbq; have hszq := Bw.size hbq)
          go_wp2
          go_meet
          exact ⟨by rw [← HG2.out], Lib.hid hbq⟩
      case rest =>
        obtain ⟨rfl, hb9⟩ := hcut
        have hb9 := hb9.out
        replace HRL := Lib.hid (HRL.out.mono hb9)
        replace HBW := Lib.hid (HBW.out.trans hb9)
        replace KP := Lib.hid (KP.out.bw hb9)
        replace KF := Lib.hid (KF.out.bw hb9)
        replace KQ := Lib.hid (KQ.out.bw hb9)
        replace KE := Lib.hid (KE.out.bw hb9)
        clear hb9 e0 e1 e3 e4
        go_upto_if 43 with fail
        go_cut [] from 16 (fun wx => Hid (Bw w wx) ∧ Hid (Blk wx (g + 1) 47 #[.int .i64 t, .int .i64 ((kk : Int) + 1), .slice (some ⟨b0, o0, none⟩) zs.length c]) ∧ Hid (Blk wx (g + 1 + 1 + 1) 25 #[.int .i64 0, .int .i64 0, .int .i64 0, .int .i64 0, .int .i64 0, .int .i64 0, .int .i64 0, .int .i64 0, .int .i64 0, .int .i64 0, .int .i64 0, .int .i64 0, .int .i64 0, .int .i64 0, .int .i64 0, .int .i64 0, .int .i64 0, .int .i64 0, .int .i64 0]) ∧ Hid (RdI wx (.slice (some ⟨bb, oo, none⟩) n cc) LV) ∧ ∃ is' pr' D2, Hid (Blk wx (g + 1 + 1) 43 (ptV (fun j => smP p zs kk && p.h j) is' pr' D2)) ∧ Hid (∀ j, j < 3 → DatM w wx (g + 1 + 1 + 1 + 1) (D2 j) (if smP p zs kk then p.Z j else [])))
        case first =>
          have HFB := Lib.hid (show Fresh (g + 1 + 1 + 1) (.slice (some ⟨bb, oo, none⟩) n cc) from Fresh.at (by have := HBB.out; omega))
          cases hrs : smP p zs kk with
          | true =>
            go_wp2_with (first | ((with_reducible refine at_load 43 (.tmp 2) ?_); refine wpList_load_row rfl 43 _ rfl g rfl 43 _ (0, 0) _ KP.out Try.underlying43 rfl (by kernel_rfl) ?_) | ((with_reducible refine at_store 43 (.tmp 4) (.tmp 44) ?_); refine wpList_store_row rfl 43 (.tmp 4) (.tmp 44) rfl (g + 1 + 1) (ptV p.h p.is p.pr D) rfl rfl 43 _ KQ.out (by kernel_rfl) rfl HOD.out ?_))
            go_meet
            have hkx := Kx.row KQ.out.lt (ptV p.h p.is p.pr D)
            have hbs := Bw.setRow HBW.out (show w.heap.size ≤ g + 1 + 1 by have := HG.out; omega) (ptV p.h p.is p.pr D)
            refine ⟨Lib.hid hbs, Lib.hid (hkx.blk KF.out (by omega)), Lib.hid (hkx.blk KE.out (by omega)), Lib.hid (hkx.rdI HRL.out HFB.out (by omega)), p.is, p.pr, D, Lib.hid ?_, Lib.hid (fun j hj => by rw [hrs]; exact .inl (HDD.out j hj))⟩
            rw [hrs]
            exact KQ.out.row (ptV p.h p.is p.pr D)
          | false =>
            go_wp2
            go_meet
            exact ⟨HBW, KF, KE, HRL, 0, 0, fun _ => .slice none 0 0, by rw [hrs]; exact KQ, Lib.hid (fun j hj => by rw [hrs]; exact .inr (RdN.nil _ _))⟩
        case rest =>
          clear KF KE KQ HBW KP HRL
          obtain ⟨HBW, KF, KE, HRL, is', pr', D2, KQ, HD2⟩ := hcut
          go_upto_region 8 with fail
          refine wp_region_held_drew (S := fun W => Bw w W ∧ RdI W (.slice (some ⟨bb, oo, none⟩) n cc) LV) (by kernel_rfl) ⟨Bw.drew HBW.out, HRL.out.mono (Bw.drew (Bw.refl _))⟩ (fun hS => ?_)
          replace KQ := Lib.hid (KQ.out.bw (Bw.drew (Bw.refl _)))
          replace KF := Lib.hid (KF.out.bw (Bw.drew (Bw.refl _)))
          replace KE := Lib.hid (KE.out.bw (Bw.drew (Bw.refl _)))
          replace HD2 := Lib.hid (fun j hj => (HD2.out j hj).bw (Bw.drew (Bw.refl _)))
          clear HRL HBW
          generalize World.drew _ = wd at hS KQ KF KE HD2 ⊢
          refine take1 (i := 0) (some 45) rfl rfl (by kernel_rfl) (by kernel_rfl) (by kernel_rfl) (fun _ _ _ _ h => h) rfl hS ?_
          apply Exists.intro
          apply And.intro
          · intro W9 hW9; obtain ⟨z0, z1⟩ := HYA.out _ hW9.2; go_simp; try with_reducible rfl
          simp only [Act.put, List.setIfInBounds_toArray, List.set_cons_zero, List.set_cons_succ]
          refine take1 (i := 1) (some 46) rfl rfl (by kernel_rfl) (by kernel_rfl) (by kernel_rfl) (fun _ _ _ _ h => h) rfl hS ?_
          apply Exists.intro
          apply And.intro
          · intro W9 hW9; obtain ⟨z0, z1⟩ := HYA.out _ hW9.2; go_simp; try with_reducible rfl
          simp only [Act.put, List.setIfInBounds_toArray, List.set_cons_zero, List.set_cons_succ]
          refine take1 (i := 2) (some 47) rfl rfl (by kernel_rfl) (by kernel_rfl) (by kernel_rfl) (fun _ _ _ _ h => h) rfl hS ?_
          apply Exists.intro
          apply And.intro
          · intro W9 hW9; obtain ⟨z0, z1⟩ := HYA.out _ hW9.2; go_simp; try with_reducible rfl
          simp only [Act.put, List.setIfInBounds_toArray, List.set_cons_zero, List.set_cons_succ]
          refine take1 (i := 3) (some 48) rfl rfl (by kernel_rfl) (by kernel_rfl) (by kernel_rfl) (fun _ _ _ _ h => h) rfl hS ?_
          apply Exists.intro
          apply And.intro
          · intro W9 hW9; obtain ⟨z0, z1⟩ := HYA.out _ hW9.2; go_simp; try with_reducible rfl
          simp only [Act.put, List.setIfInBounds_toArray, List.set_cons_zero, List.set_cons_succ]
          refine take1 (i := 4) (some 49) rfl rfl (by kernel_rfl) (by kernel_rfl) (by kernel_rfl) (fun _ _ _ _ h => h) rfl hS ?_
          apply Exists.intro
          apply And.intro
          · intro W9 hW9; obtain ⟨z0, z1⟩ := HYA.out _ hW9.2; go_simp; try with_reducible rfl
          simp only [Act.put, List.setIfInBounds_toArray, List.set_cons_zero, List.set_cons_succ]
          refine take1 (i := 5) (some 50) rfl rfl (by kernel_rfl) (by kernel_rfl) (by kernel_rfl) (fun _ _ _ _ h => h) rfl hS ?_
          apply Exists.intro
          apply And.intro
          · intro W9 hW9; obtain ⟨z0, z1⟩ := HYA.out _ hW9.2; go_simp; try with_reducible rfl
          simp only [Act.put, List.setIfInBounds_toArray, List.set_cons_zero, List.set_cons_succ]
          refine take1 (i := 6) (some 51) rfl rfl (by kernel_rfl) (by kernel_rfl) (by kernel_rfl) (fun _ _ _ _ h => h) rfl hS ?_
          apply Exists.intro
          apply And.intro
          · intro W9 hW9; obtain ⟨z0, z1⟩ := HYA.out _ hW9.2; go_simp; try with_reducible rfl
          simp only [Act.put, List.setIfInBounds_toArray, List.set_cons_zero, List.set_cons_succ]
          refine wpAnyH_ready (rs := [7]) (by kernel_rfl) (by simp) ?_
          refine AllReadyH.cons rfl (fun K hK => ?_) ?_
          rw [if_pos (by rfl)]
          refine wp_store_cell0 3 _ _ rfl rfl (g + 1 + 1) (3) (.int .i64 y0) (.inl ⟨_, rfl⟩) rfl rfl (by kernel_rfl) KQ.out (by simp [ptV]) ?_
          replace KQ := Lib.hid (KQ.out.set (3) (.int .i64 y0))
          replace HD2 := Lib.hid (fun j hj => (HD2.out j hj).set (b := g + 1 + 1) (by omega) (3) (.int .i64 y0))
          replace KF := Lib.hid (KF.out.set_other (b := g + 1 + 1) (by omega) (3) (.int .i64 y0))
          replace KE := Lib.hid (KE.out.set_other (b := g + 1 + 1) (by omega) (3) (.int .i64 y0))
          refine hK.out _ _ ⟨Bw.setCell hS.1 (p := ⟨g + 1 + 1, 3, none⟩) (by have := HG.out; simp; omega) (.int .i64 y0), hS.2.set (base := g + 1 + 1 + 1) (Fresh.at (by have := HBB.out; omega)) (by omega) (3) (.int .i64 y0)⟩ (fun hS => ?_)
          clear hK K
          refine take1 (i := 8) (some 52) rfl rfl (by kernel_rfl) (by kernel_rfl) (by kernel_rfl) (fun _ _ _ _ h => h) rfl hS ?_
          apply Exists.intro
          apply And.intro
          · intro W9 hW9; obtain ⟨z0, z1⟩ := HYA.out _ hW9.2; go_simp; try with_reducible rfl
          simp only [Act.put, List.setIfInBounds_toArray, List.set_cons_zero, List.set_cons_succ]
          refine wpAnyH_ready (rs := [9]) (by kernel_rfl) (by simp) ?_
          refine AllReadyH.cons rfl (fun K hK => ?_) ?_
          rw [if_pos (by rfl)]
          refine wp_store_cell0 3 _ _ rfl rfl (g + 1 + 1) (4) (.int .i64 y1) (.inl ⟨_, rfl⟩) rfl rfl (by kernel_rfl) KQ.out (by simp [ptV]) ?_
          replace KQ := Lib.hid (KQ.out.set (4) (.int .i64 y1))
          replace HD2 := Lib.hid (fun j hj => (HD2.out j hj).set (b := g + 1 + 1) (by omega) (4) (.int .i64 y1))
          replace KF := Lib.hid (KF.out.set_other (b := g + 1 + 1) (by omega) (4) (.int .i64 y1))
          replace KE := Lib.hid (KE.out.set_other (b := g + 1 + 1) (by omega) (4) (.int .i64 y1))
          refine hK.out _ _ ⟨Bw.setCell hS.1 (p := ⟨g + 1 + 1, 4, none⟩) (by have := HG.out; simp; omega) (.int .i64 y1), hS.2.set (base := g + 1 + 1 + 1) (Fresh.at (by have := HBB.out; omega)) (by omega) (4) (.int .i64 y1)⟩ (fun hS => ?_)
          clear hK K
          refine wpAnyH_done (by kernel_rfl) ?_ _
          rotate_left
          exact AllReadyH.nil
          exact AllReadyH.nil
          have HBW := Lib.hid hS.1
          have HRL := Lib.hid hS.2
          clear hS
          clear hS
          rw [ptV_setis, ptV_setpr] at KQ
          generalize World.setCell (World.setCell wd _ _) _ _ = we at *
          go_upto_region 9 with fail
          go_cut [] from 16 (fun wx => Hid (Bw w wx) ∧ Hid (Blk wx (g + 1 + 1 + 1) 25 #[.int .i64 0, .int .i64 0, .int .i64 0, .int .i64 0, .int .i64 0, .int .i64 0, .int .i64 0, .int .i64 0, .int .i64 0, .int .i64 0, .int .i64 0, .int .i64 0, .int .i64 0, .int .i64 0, .int .i64 0, .int .i64 0, .int .i64 0, .int .i64 0, .int .i64 0]) ∧ ∃ D3, Hid (Blk wx (g + 1 + 1) 43 (ptV (nxP p zs kk).h (nxP p zs kk).is (nxP p zs kk).pr D3)) ∧ Hid (∀ j, j < 3 → DatM w wx (g + 1 + 1 + 1 + 1) (D3 j) ((nxP p zs kk).Z j)))
          case first =>
            rw [← HNX.out.1, ← HNX.out.2] at KQ
            have hk3 : kk = 0 ∨ kk = 1 ∨ kk = 2 := by omega
            clear HA3 HA4 HK3 HAR HYA HRL HSM HNX HK0
            rcases hk3 with rfl | rfl | rfl
            · skip
              replace KF := Lib.hid (show Blk we (g + 1) 47 #[.int .i64 t, .int .i64 1, .slice (some ⟨b0, o0, none⟩) zs.length c] by simpa using KF.out)
              refine wp_region_held_drew (S := fun W => Bw w W ∧ Blk W (g + 1) 47 #[.int .i64 t, .int .i64 1, .slice (some ⟨b0, o0, none⟩) zs.length c]) (by kernel_rfl) ⟨Bw.drew HBW.out, KF.out.bw (Bw.drew (Bw.refl _))⟩ (fun hS => ?_)
              replace KQ := Lib.hid (KQ.out.bw (Bw.drew (Bw.refl _)))
              replace KE := Lib.hid (KE.out.bw (Bw.drew (Bw.refl _)))
              replace HD2 := Lib.hid (fun j hj => (HD2.out j hj).bw (Bw.drew (Bw.refl _)))
              clear KF HBW
              generalize World.drew _ = wd at hS KQ KE HD2 ⊢
              have HSd := Lib.hid hS
              refine take1 (i := 0) (some 53) rfl rfl (by kernel_rfl) (by kernel_rfl) (by kernel_rfl) (fun _ _ _ _ h => h) rfl hS ?_
              apply Exists.intro
              apply And.intro
              · intro W9 hW9; have y1 := hW9.2.cell (j := 1) rfl; have y2 := hW9.2.cell (j := 2) rfl; go_simp; try with_reducible rfl
              simp only [Act.put, List.setIfInBounds_toArray, List.set_cons_zero, List.set_cons_succ]
              refine take1 (i := 1) (some 54) rfl rfl (by kernel_rfl) (by kernel_rfl) (by kernel_rfl) (fun _ _ _ _ h => h) rfl hS ?_
              apply Exists.intro
              apply And.intro
              · intro W9 hW9; have y1 := hW9.2.cell (j := 1) rfl; have y2 := hW9.2.cell (j := 2) rfl; go_simp; try with_reducible rfl
              simp only [Act.put, List.setIfInBounds_toArray, List.set_cons_zero, List.set_cons_succ]
              refine take1 (i := 2) (some 55) rfl rfl (by kernel_rfl) (by kernel_rfl) (by kernel_rfl) (fun _ _ _ _ h => h) rfl hS ?_
              refine Exists.intro (.int .i64 0) ?_
              apply And.intro
              · intro W9 hW9; have y1 := hW9.2.cell (j := 1) rfl; have y2 := hW9.2.cell (j := 2) rfl; go_simp; (try go_bits); (try with_reducible rfl); (try trivial)
              simp only [Act.put, List.setIfInBounds_toArray, List.set_cons_zero, List.set_cons_succ]
              refine take1 (i := 3) (some 56) rfl rfl (by kernel_rfl) (by kernel_rfl) (by kernel_rfl) (fun _ _ _ _ h => h) rfl hS ?_
              apply Exists.intro
              apply And.intro
              · intro W9 hW9; have y1 := hW9.2.cell (j := 1) rfl; have y2 := hW9.2.cell (j := 2) rfl; go_simp; try with_reducible rfl
              simp only [Act.put, List.setIfInBounds_toArray, List.set_cons_zero, List.set_cons_succ]
              refine take1 (i := 4) (some 57) rfl rfl (by kernel_rfl) (by kernel_rfl) (by kernel_rfl) (fun _ _ _ _ h => h) rfl hS ?_
              apply Exists.intro
              apply And.intro
              · intro W9 hW9; have y1 := hW9.2.cell (j := 1) rfl; have y2 := hW9.2.cell (j := 2) rfl; go_simp; try with_reducible rfl
              simp only [Act.put, List.setIfInBounds_toArray, List.set_cons_zero, List.set_cons_succ]
              refine take1 (i := 5) (some 58) rfl rfl (by kernel_rfl) (by kernel_rfl) (by kernel_rfl) (fun _ _ _ _ h => h) rfl hS ?_
              refine Exists.intro (.int .i64 0) ?_
              apply And.intro
              · intro W9 hW9; have y1 := hW9.2.cell (j := 1) rfl; have y2 := hW9.2.cell (j := 2) rfl; go_simp; (try go_bits); (try with_reducible rfl); (try trivial)
              simp only [Act.put, List.setIfInBounds_toArray, List.set_cons_zero, List.set_cons_succ]
              refine take1 (i := 7) (some 60) rfl rfl (by kernel_rfl) (by kernel_rfl) (by kernel_rfl) (fun _ _ _ _ h => h) rfl hS ?_
              apply Exists.intro
              apply And.intro
              · intro W9 hW9; have y1 := hW9.2.cell (j := 1) rfl; have y2 := hW9.2.cell (j := 2) rfl; go_simp; try with_reducible rfl
              simp only [Act.put, List.setIfInBounds_toArray, List.set_cons_zero, List.set_cons_succ]
              refine take1 (i := 8) (some 61) rfl rfl (by kernel_rfl) (by kernel_rfl) (by kernel_rfl) (fun _ _ _ _ h => h) rfl hS ?_
              apply Exists.intro
              apply And.intro
              · intro W9 hW9; have y1 := hW9.2.cell (j := 1) rfl; have y2 := hW9.2.cell (j := 2) rfl; go_simp; try with_reducible rfl
              simp only [Act.put, List.setIfInBounds_toArray, List.set_cons_zero, List.set_cons_succ]
              refine take1 (i := 10) (some 63) rfl rfl (by kernel_rfl) (by kernel_rfl) (by kernel_rfl) (fun _ _ _ _ h => h) rfl hS ?_
              apply Exists.intro
              apply And.intro
              · intro W9 hW9; have y1 := hW9.2.cell (j := 1) rfl; have y2 := hW9.2.cell (j := 2) rfl; go_simp; try with_reducible rfl
              simp only [Act.put, List.setIfInBounds_toArray, List.set_cons_zero, List.set_cons_succ]
              refine take1 (i := 11) (some 64) rfl rfl (by kernel_rfl) (by kernel_rfl) (by kernel_rfl) (fun _ _ _ _ h => h) rfl hS ?_
              apply Exists.intro
              apply And.intro
              · intro W9 hW9; have y1 := hW9.2.cell (j := 1) rfl; have y2 := hW9.2.cell (j := 2) rfl; go_simp; try with_reducible rfl
              simp only [Act.put, List.setIfInBounds_toArray, List.set_cons_zero, List.set_cons_succ]
              refine take1 (i := 13) (some 65) rfl rfl (by kernel_rfl) (by kernel_rfl) (by kernel_rfl) (fun _ _ _ _ h => h) rfl hS ?_
              apply Exists.intro
              apply And.intro
              · intro W9 hW9; have y1 := hW9.2.cell (j := 1) rfl; have y2 := hW9.2.cell (j := 2) rfl; go_simp; try with_reducible rfl
              simp only [Act.put, List.setIfInBounds_toArray, List.set_cons_zero, List.set_cons_succ]
              refine wpAnyH_ready (rs := [6]) (by kernel_rfl) (by simp) ?_
              refine AllReadyH.cons rfl (fun K hK => ?_) ?_
              go_simp
              have hba := Bw.alloc (Bw.refl wd) (.cells #[] 3)
              refine hK.out _ _ ⟨hS.1.trans hba, hS.2.bw hba⟩ (fun hS => ?_)
              clear hK K
              clear hba
              refine wpAnyH_ready (rs := [9]) (by kernel_rfl) (by simp) ?_
              refine AllReadyH.cons rfl (fun K hK => ?_) ?_
              rw [if_pos (by rfl)]
              refine wp_append_ints (.tmp 59) (.tmp 61) _ rfl (some 62) rfl wd.heap.size 3 Try.underlying40 infoInt _ [] zs rfl (own0 (e := 3) wd wd.heap.size rfl) ⟨b0, o0, none⟩ c rfl (HV.out.mono hS.1) (by have := HZL.out; simp only [List.length_nil]; omega) (by simp) ?_
              intro v0 w7 hown hgr
              simp only [Act.put, List.setIfInBounds_toArray, List.set_cons_zero, List.set_cons_succ]
              have hb10 : Bw wd w7 := Bw.grownN rfl (Bw.alloc (Bw.refl _) _) (own0 (e := 3) wd wd.heap.size rfl) hgr
              simp only [List.nil_append] at hown
              have hrd9 := own_rd hown (by have := HZL.out; omega)
              have HNC := Lib.hid (RdN.of hrd9.1 (own_capd hown) (hrd9.2.mono (show g + 1 + 1 + 1 + 1 ≤ wd.heap.size by have := KE.out.lt; omega)))
              obtain ⟨ac, ccc, rfl⟩ := own_form2 hown
              replace KQ := Lib.hid (KQ.out.bw hb10)
              replace KE := Lib.hid (KE.out.bw hb10)
              replace HD2 := Lib.hid (fun j hj => (HD2.out j hj).bw hb10)
              clear hown hgr hrd9
              refine hK.out _ _ ⟨HSd.out.1.trans hb10, HSd.out.2.bw hb10⟩ (fun hS => ?_)
              clear hK K
              refine wpAnyH_ready (rs := [12]) (by kernel_rfl) (by simp) ?_
              refine AllReadyH.cons rfl (fun K hK => ?_) ?_
              rw [if_pos (by rfl)]
              refine wp_store_cell0 4 _ _ rfl rfl (g + 1 + 1) (0) (.bool true) (.inr (.inl ⟨_, rfl⟩)) rfl rfl (by kernel_rfl) KQ.out (by simp [ptV]) ?_
              replace KQ := Lib.hid (KQ.out.set (0) (.bool true))
              replace HD2 := Lib.hid (fun j hj => (HD2.out j hj).set (b := g + 1 + 1) (by omega) (0) (.bool true))
              replace KE := Lib.hid (KE.out.set_other (b := g + 1 + 1) (by omega) (0) (.bool true))
              replace HNC := Lib.hid (HNC.out.set (b := g + 1 + 1) (by omega) (0) (.bool true))
              refine hK.out _ _ ⟨Bw.setCell hS.1 (p := ⟨g + 1 + 1, 0, none⟩) (by have := HG.out; simp; omega) (.bool true), hS.2.set_other (b := g + 1 + 1) (by omega) (0) (.bool true)⟩ (fun hS => ?_)
              clear hK K
              refine take1 (i := 14) (some 66) rfl rfl (by kernel_rfl) (by kernel_rfl) (by kernel_rfl) (fun _ _ _ _ h => h) rfl hS ?_
              apply Exists.intro
              apply And.intro
              · intro W9 hW9; have y1 := hW9.2.cell (j := 1) rfl; have y2 := hW9.2.cell (j := 2) rfl; go_simp; try with_reducible rfl
              simp only [Act.put, List.setIfInBounds_toArray, List.set_cons_zero, List.set_cons_succ]
              refine wpAnyH_ready (rs := [15]) (by kernel_rfl) (by simp) ?_
              refine AllReadyH.cons rfl (fun K hK => ?_) ?_
              rw [if_pos (by rfl)]
              refine wp_store_cell0 40 _ _ rfl rfl (g + 1 + 1) (5) (.slice ac zs.length ccc) (.inr (.inr ⟨_, _, _, rfl⟩)) rfl rfl (by kernel_rfl) KQ.out (by simp [ptV]) ?_
              replace KQ := Lib.hid (KQ.out.set (5) (.slice ac zs.length ccc))
              replace HD2 := Lib.hid (fun j hj => (HD2.out j hj).set (b := g + 1 + 1) (by omega) (5) (.slice ac zs.length ccc))
              replace KE := Lib.hid (KE.out.set_other (b := g + 1 + 1) (by omega) (5) (.slice ac zs.length ccc))
              replace HNC := Lib.hid (HNC.out.set (b := g + 1 + 1) (by omega) (5) (.slice ac zs.length ccc))
              refine hK.out _ _ ⟨Bw.setCell hS.1 (p := ⟨g + 1 + 1, 5, none⟩) (by have := HG.out; simp; omega) (.slice ac zs.length ccc), hS.2.set_other (b := g + 1 + 1) (by omega) (5) (.slice ac zs.length ccc)⟩ (fun hS => ?_)
              clear hK K
              refine wpAnyH_done (by kernel_rfl) ?_ _
              rotate_left
              exact AllReadyH.nil
              exact AllReadyH.nil
              exact AllReadyH.nil
              exact AllReadyH.nil
              go_wp2
              go_meet
              refine ⟨Lib.hid hS.1, KE, upN D2 0 (.slice ac zs.length ccc), ?_, Lib.hid (fun j hj => ?_)⟩
              · rw [ptV_seth _ _ _ _ 0 (by omega)] at KQ
                rw [show (5 : Nat) = 5 + 0 from rfl, ptV_setD _ _ _ _ 0 (by omega)] at KQ
                exact KQ
              · unfold upN nxP
                dsimp only
                by_cases e : j = 0
                · rw [if_pos e, if_pos e]; exact .inr HNC.out
                · rw [if_neg e, if_neg e]; exact HD2.out j hj
            · skip
              replace KF := Lib.hid (show Blk we (g + 1) 47 #[.int .i64 t, .int .i64 2, .slice (some ⟨b0, o0, none⟩) zs.length c] by simpa using KF.out)
              refine wp_region_held_drew (S := fun W => Bw w W ∧ Blk W (g + 1) 47 #[.int .i64 t, .int .i64 2, .slice (some ⟨b0, o0, none⟩) zs.length c]) (by kernel_rfl) ⟨Bw.drew HBW.out, KF.out.bw (Bw.drew (Bw.refl _))⟩ (fun hS => ?_)
              replace KQ := Lib.hid (KQ.out.bw (Bw.drew (Bw.refl _)))
              replace KE := Lib.hid (KE.out.bw (Bw.drew (Bw.refl _)))
              replace HD2 := Lib.hid (fun j hj => (HD2.out j hj).bw (Bw.drew (Bw.refl _)))
              clear KF HBW
              generalize World.drew _ = wd at hS KQ KE HD2 ⊢
              have HSd := Lib.hid hS
              refine take1 (i := 0) (some 53) rfl rfl (by kernel_rfl) (by kernel_rfl) (by kernel_rfl) (fun _ _ _ _ h => h) rfl hS ?_
              apply Exists.intro
              apply And.intro
              · intro W9 hW9; have y1 := hW9.2.cell (j := 1) rfl; have y2 := hW9.2.cell (j := 2) rfl; go_simp; try with_reducible rfl
              simp only [Act.put, List.setIfInBounds_toArray, List.set_cons_zero, List.set_cons_succ]
              refine take1 (i := 1) (some 54) rfl rfl (by kernel_rfl) (by kernel_rfl) (by kernel_rfl) (fun _ _ _ _ h => h) rfl hS ?_
              apply Exists.intro
              apply And.intro
              · intro W9 hW9; have y1 := hW9.2.cell (j := 1) rfl; have y2 := hW9.2.cell (j := 2) rfl; go_simp; try with_reducible rfl
              simp only [Act.put, List.setIfInBounds_toArray, List.set_cons_zero, List.set_cons_succ]
              refine take1 (i := 2) (some 55) rfl rfl (by kernel_rfl) (by kernel_rfl) (by kernel_rfl) (fun _ _ _ _ h => h) rfl hS ?_
              refine Exists.intro (.int .i64 1) ?_
              apply And.intro
              · intro W9 hW9; have y1 := hW9.2.cell (j := 1) rfl; have y2 := hW9.2.cell (j := 2) rfl; go_simp; (try go_bits); (try with_reducible rfl); (try trivial)
              simp only [Act.put, List.setIfInBounds_toArray, List.set_cons_zero, List.set_cons_succ]
              refine take1 (i := 3) (some 56) rfl rfl (by kernel_rfl) (by kernel_rfl) (by kernel_rfl) (fun _ _ _ _ h => h) rfl hS ?_
              apply Exists.intro
              apply And.intro
              · intro W9 hW9; have y1 := hW9.2.cell (j := 1) rfl; have y2 := hW9.2.cell (j := 2) rfl; go_simp; try with_reducible rfl
              simp only [Act.put, List.setIfInBounds_toArray, List.set_cons_zero, List.set_cons_succ]
              refine take1 (i := 4) (some 57) rfl rfl (by kernel_rfl) (by kernel_rfl) (by kernel_rfl) (fun _ _ _ _ h => h) rfl hS ?_
              apply Exists.intro
              apply And.intro
              · intro W9 hW9; have y1 := hW9.2.cell (j := 1) rfl; have y2 := hW9.2.cell (j := 2) rfl; go_simp; try with_reducible rfl
              simp only [Act.put, List.setIfInBounds_toArray, List.set_cons_zero, List.set_cons_succ]
              refine take1 (i := 5) (some 58) rfl rfl (by kernel_rfl) (by kernel_rfl) (by kernel_rfl) (fun _ _ _ _ h => h) rfl hS ?_
              refine Exists.intro (.int .i64 1) ?_
              apply And.intro
              · intro W9 hW9; have y1 := hW9.2.cell (j := 1) rfl; have y2 := hW9.2.cell (j := 2) rfl; go_simp; (try go_bits); (try with_reducible rfl); (try trivial)
              simp only [Act.put, List.setIfInBounds_toArray, List.set_cons_zero, List.set_cons_succ]
              refine take1 (i := 7) (some 60) rfl rfl (by kernel_rfl) (by kernel_rfl) (by kernel_rfl) (fun _ _ _ _ h => h) rfl hS ?_
              apply Exists.intro
              apply And.intro
              · intro W9 hW9; have y1 := hW9.2.cell (j := 1) rfl; have y2 := hW9.2.cell (j := 2) rfl; go_simp; try with_reducible rfl
              simp only [Act.put, List.setIfInBounds_toArray, List.set_cons_zero, List.set_cons_succ]
              refine take1 (i := 8) (some 61) rfl rfl (by kernel_rfl) (by kernel_rfl) (by kernel_rfl) (fun _ _ _ _ h => h) rfl hS ?_
              apply Exists.intro
              apply And.intro
              · intro W9 hW9; have y1 := hW9.2.cell (j := 1) rfl; have y2 := hW9.2.cell (j := 2) rfl; go_simp; try with_reducible rfl
              simp only [Act.put, List.setIfInBounds_toArray, List.set_cons_zero, List.set_cons_succ]
              refine take1 (i := 10) (some 63) rfl rfl (by kernel_rfl) (by kernel_rfl) (by kernel_rfl) (fun _ _ _ _ h => h) rfl hS ?_
              apply Exists.intro
              apply And.intro
              · intro W9 hW9; have y1 := hW9.2.cell (j := 1) rfl; have y2 := hW9.2.cell (j := 2) rfl; go_simp; try with_reducible rfl
              simp only [Act.put, List.setIfInBounds_toArray, List.set_cons_zero, List.set_cons_succ]
              refine take1 (i := 11) (some 64) rfl rfl (by kernel_rfl) (by kernel_rfl) (by kernel_rfl) (fun _ _ _ _ h => h) rfl hS ?_
              apply Exists.intro
              apply And.intro
              · intro W9 hW9; have y1 := hW9.2.cell (j := 1) rfl; have y2 := hW9.2.cell (j := 2) rfl; go_simp; try with_reducible rfl
              simp only [Act.put, List.setIfInBounds_toArray, List.set_cons_zero, List.set_cons_succ]
              refine take1 (i := 13) (some 65) rfl rfl (by kernel_rfl) (by kernel_rfl) (by kernel_rfl) (fun _ _ _ _ h => h) rfl hS ?_
              apply Exists.intro
              apply And.intro
              · intro W9 hW9; have y1 := hW9.2.cell (j := 1) rfl; have y2 := hW9.2.cell (j := 2) rfl; go_simp; try with_reducible rfl
              simp only [Act.put, List.setIfInBounds_toArray, List.set_cons_zero, List.set_cons_succ]
              refine wpAnyH_ready (rs := [6]) (by kernel_rfl) (by simp) ?_
              refine AllReadyH.cons rfl (fun K hK => ?_) ?_
              go_simp
              have hba := Bw.alloc (Bw.refl wd) (.cells #[] 3)
              refine hK.out _ _ ⟨hS.1.trans hba, hS.2.bw hba⟩ (fun hS => ?_)
              clear hK K
              clear hba
              refine wpAnyH_ready (rs := [9]) (by kernel_rfl) (by simp) ?_
              refine AllReadyH.cons rfl (fun K hK => ?_) ?_
              rw [if_pos (by rfl)]
              refine wp_append_ints (.tmp 59) (.tmp 61) _ rfl (some 62) rfl wd.heap.size 3 Try.underlying40 infoInt _ [] zs rfl (own0 (e := 3) wd wd.heap.size rfl) ⟨b0, o0, none⟩ c rfl (HV.out.mono hS.1) (by have := HZL.out; simp only [List.length_nil]; omega) (by simp) ?_
              intro v0 w7 hown hgr
              simp only [Act.put, List.setIfInBounds_toArray, List.set_cons_zero, List.set_cons_succ]
              have hb10 : Bw wd w7 := Bw.grownN rfl (Bw.alloc (Bw.refl _) _) (own0 (e := 3) wd wd.heap.size rfl) hgr
              simp only [List.nil_append] at hown
              have hrd9 := own_rd hown (by have := HZL.out; omega)
              have HNC := Lib.hid (RdN.of hrd9.1 (own_capd hown) (hrd9.2.mono (show g + 1 + 1 + 1 + 1 ≤ wd.heap.size by have := KE.out.lt; omega)))
              obtain ⟨ac, ccc, rfl⟩ := own_form2 hown
              replace KQ := Lib.hid (KQ.out.bw hb10)
              replace KE := Lib.hid (KE.out.bw hb10)
              replace HD2 := Lib.hid (fun j hj => (HD2.out j hj).bw hb10)
              clear hown hgr hrd9
              refine hK.out _ _ ⟨HSd.out.1.trans hb10, HSd.out.2.bw hb10⟩ (fun hS => ?_)
              clear hK K
              refine wpAnyH_ready (rs := [12]) (by kernel_rfl) (by simp) ?_
              refine AllReadyH.cons rfl (fun K hK => ?_) ?_
              rw [if_pos (by rfl)]
              refine wp_store_cell0 4 _ _ rfl rfl (g + 1 + 1) (1) (.bool true) (.inr (.inl ⟨_, rfl⟩)) rfl rfl (by kernel_rfl) KQ.out (by simp [ptV]) ?_
              replace KQ := Lib.hid (KQ.out.set (1) (.bool true))
              replace HD2 := Lib.hid (fun j hj => (HD2.out j hj).set (b := g + 1 + 1) (by omega) (1) (.bool true))
              replace KE := Lib.hid (KE.out.set_other (b := g + 1 + 1) (by omega) (1) (.bool true))
              replace HNC := Lib.hid (HNC.out.set (b := g + 1 + 1) (by omega) (1) (.bool true))
              refine hK.out _ _ ⟨Bw.setCell hS.1 (p := ⟨g + 1 + 1, 1, none⟩) (by have := HG.out; simp; omega) (.bool true), hS.2.set_other (b := g + 1 + 1) (by omega) (1) (.bool true)⟩ (fun hS => ?_)
              clear hK K
              refine take1 (i := 14) (some 66) rfl rfl (by kernel_rfl) (by kernel_rfl) (by kernel_rfl) (fun _ _ _ _ h => h) rfl hS ?_
              apply Exists.intro
              apply And.intro
              · intro W9 hW9; have y1 := hW9.2.cell (j := 1) rfl; have y2 := hW9.2.cell (j := 2) rfl; go_simp; try with_reducible rfl
              simp only [Act.put, List.setIfInBounds_toArray, List.set_cons_zero, List.set_cons_succ]
              refine wpAnyH_ready (rs := [15]) (by kernel_rfl) (by simp) ?_
              refine AllReadyH.cons rfl (fun K hK => ?_) ?_
              rw [if_pos (by rfl)]
              refine wp_store_cell0 40 _ _ rfl rfl (g + 1 + 1) (6) (.slice ac zs.length ccc) (.inr (.inr ⟨_, _, _, rfl⟩)) rfl rfl (by kernel_rfl) KQ.out (by simp [ptV]) ?_
              replace KQ := Lib.hid (KQ.out.set (6) (.slice ac zs.length ccc))
              replace HD2 := Lib.hid (fun j hj => (HD2.out j hj).set (b := g + 1 + 1) (by omega) (6) (.slice ac zs.length ccc))
              replace KE := Lib.hid (KE.out.set_other (b := g + 1 + 1) (by omega) (6) (.slice ac zs.length ccc))
              replace HNC := Lib.hid (HNC.out.set (b := g + 1 + 1) (by omega) (6) (.slice ac zs.length ccc))
              refine hK.out _ _ ⟨Bw.setCell hS.1 (p := ⟨g + 1 + 1, 6, none⟩) (by have := HG.out; simp; omega) (.slice ac zs.length ccc), hS.2.set_other (b := g + 1 + 1) (by omega) (6) (.slice ac zs.length ccc)⟩ (fun hS => ?_)
              clear hK K
              refine wpAnyH_done (by kernel_rfl) ?_ _
              rotate_left
              exact AllReadyH.nil
              exact AllReadyH.nil
              exact AllReadyH.nil
              exact AllReadyH.nil
              go_wp2
              go_meet
              refine ⟨Lib.hid hS.1, KE, upN D2 1 (.slice ac zs.length ccc), ?_, Lib.hid (fun j hj => ?_)⟩
              · rw [ptV_seth _ _ _ _ 1 (by omega)] at KQ
                rw [show (6 : Nat) = 5 + 1 from rfl, ptV_setD _ _ _ _ 1 (by omega)] at KQ
                exact KQ
              · unfold upN nxP
                dsimp only
                by_cases e : j = 1
                · rw [if_pos e, if_pos e]; exact .inr HNC.out
                · rw [if_neg e, if_neg e]; exact HD2.out j hj
            · skip
              replace KF := Lib.hid (show Blk we (g + 1) 47 #[.int .i64 t, .int .i64 3, .slice (some ⟨b0, o0, none⟩) zs.length c] by simpa using KF.out)
              refine wp_region_held_drew (S := fun W => Bw w W ∧ Blk W (g + 1) 47 #[.int .i64 t, .int .i64 3, .slice (some ⟨b0, o0, none⟩) zs.length c]) (by kernel_rfl) ⟨Bw.drew HBW.out, KF.out.bw (Bw.drew (Bw.refl _))⟩ (fun hS => ?_)
              replace KQ := Lib.hid (KQ.out.bw (Bw.drew (Bw.refl _)))
              replace KE := Lib.hid (KE.out.bw (Bw.drew (Bw.refl _)))
              replace HD2 := Lib.hid (fun j hj => (HD2.out j hj).bw (Bw.drew (Bw.refl _)))
              clear KF HBW
              generalize World.drew _ = wd at hS KQ KE HD2 ⊢
              have HSd := Lib.hid hS
              refine take1 (i := 0) (some 53) rfl rfl (by kernel_rfl) (by kernel_rfl) (by kernel_rfl) (fun _ _ _ _ h => h) rfl hS ?_
              apply Exists.intro
              apply And.intro
              · intro W9 hW9; have y1 := hW9.2.cell (j := 1) rfl; have y2 := hW9.2.cell (j := 2) rfl; go_simp; try with_reducible rfl
              simp only [Act.put, List.setIfInBounds_toArray, List.set_cons_zero, List.set_cons_succ]
              refine take1 (i := 1) (some 54) rfl rfl (by kernel_rfl) (by kernel_rfl) (by kernel_rfl) (fun _ _ _ _ h => h) rfl hS ?_
              apply Exists.intro
              apply And.intro
              · intro W9 hW9; have y1 := hW9.2.cell (j := 1) rfl; have y2 := hW9.2.cell (j := 2) rfl; go_simp; try with_reducible rfl
              simp only [Act.put, List.setIfInBounds_toArray, List.set_cons_zero, List.set_cons_succ]
              refine take1 (i := 2) (some 55) rfl rfl (by kernel_rfl) (by kernel_rfl) (by kernel_rfl) (fun _ _ _ _ h => h) rfl hS ?_
              refine Exists.intro (.int .i64 2) ?_
              apply And.intro
              · intro W9 hW9; have y1 := hW9.2.cell (j := 1) rfl; have y2 := hW9.2.cell (j := 2) rfl; go_simp; (try go_bits); (try with_reducible rfl); (try trivial)
              simp only [Act.put, List.setIfInBounds_toArray, List.set_cons_zero, List.set_cons_succ]
              refine take1 (i := 3) (some 56) rfl rfl (by kernel_rfl) (by kernel_rfl) (by kernel_rfl) (fun _ _ _ _ h => h) rfl hS ?_
              apply Exists.intro
              apply And.intro
              · intro W9 hW9; have y1 := hW9.2.cell (j := 1) rfl; have y2 := hW9.2.cell (j := 2) rfl; go_simp; try with_reducible rfl
              simp only [Act.put, List.setIfInBounds_toArray, List.set_cons_zero, List.set_cons_succ]
              refine take1 (i := 4) (some 57) rfl rfl (by kernel_rfl) (by kernel_rfl) (by kernel_rfl) (fun _ _ _ _ h => h) rfl hS ?_
              apply Exists.intro
              apply And.intro
              · intro W9 hW9; have y1 := hW9.2.cell (j := 1) rfl; have y2 := hW9.2.cell (j := 2) rfl; go_simp; try with_reducible rfl
              simp only [Act.put, List.setIfInBounds_toArray, List.set_cons_zero, List.set_cons_succ]
              refine take1 (i := 5) (some 58) rfl rfl (by kernel_rfl) (by kernel_rfl) (by kernel_rfl) (fun _ _ _ _ h => h) rfl hS ?_
              refine Exists.intro (.int .i64 2) ?_
              apply And.intro
              · intro W9 hW9; have y1 := hW9.2.cell (j := 1) rfl; have y2 := hW9.2.cell (j := 2) rfl; go_simp; (try go_bits); (try with_reducible rfl); (try trivial)
              simp only [Act.put, List.setIfInBounds_toArray, List.set_cons_zero, List.set_cons_succ]
              refine take1 (i := 7) (some 60) rfl rfl (by kernel_rfl) (by kernel_rfl) (by kernel_rfl) (fun _ _ _ _ h => h) rfl hS ?_
              apply Exists.intro
              apply And.intro
              · intro W9 hW9; have y1 := hW9.2.cell (j := 1) rfl; have y2 := hW9.2.cell (j := 2) rfl; go_simp; try with_reducible rfl
              simp only [Act.put, List.setIfInBounds_toArray, List.set_cons_zero, List.set_cons_succ]
              refine take1 (i := 8) (some 61) rfl rfl (by kernel_rfl) (by kernel_rfl) (by kernel_rfl) (fun _ _ _ _ h => h) rfl hS ?_
              apply Exists.intro
              apply And.intro
              · intro W9 hW9; have y1 := hW9.2.cell (j := 1) rfl; have y2 := hW9.2.cell (j := 2) rfl; go_simp; try with_reducible rfl
              simp only [Act.put, List.setIfInBounds_toArray, List.set_cons_zero, List.set_cons_succ]
              refine take1 (i := 10) (some 63) rfl rfl (by kernel_rfl) (by kernel_rfl) (by kernel_rfl) (fun _ _ _ _ h => h) rfl hS ?_
              apply Exists.intro
              apply And.intro
              · intro W9 hW9; have y1 := hW9.2.cell (j := 1) rfl; have y2 := hW9.2.cell (j := 2) rfl; go_simp; try with_reducible rfl
              simp only [Act.put, List.setIfInBounds_toArray, List.set_cons_zero, List.set_cons_succ]
              refine take1 (i := 11) (some 64) rfl rfl (by kernel_rfl) (by kernel_rfl) (by kernel_rfl) (fun _ _ _ _ h => h) rfl hS ?_
              apply Exists.intro
              apply And.intro
              · intro W9 hW9; have y1 := hW9.2.cell (j := 1) rfl; have y2 := hW9.2.cell (j := 2) rfl; go_simp; try with_reducible rfl
              simp only [Act.put, List.setIfInBounds_toArray, List.set_cons_zero, List.set_cons_succ]
              refine take1 (i := 13) (some 65) rfl rfl (by kernel_rfl) (by kernel_rfl) (by kernel_rfl) (fun _ _ _ _ h => h) rfl hS ?_
              apply Exists.intro
              apply And.intro
              · intro W9 hW9; have y1 := hW9.2.cell (j := 1) rfl; have y2 := hW9.2.cell (j := 2) rfl; go_simp; try with_reducible rfl
              simp only [Act.put, List.setIfInBounds_toArray, List.set_cons_zero, List.set_cons_succ]
              refine wpAnyH_ready (rs := [6]) (by kernel_rfl) (by simp) ?_
              refine AllReadyH.cons rfl (fun K hK => ?_) ?_
              go_simp
              have hba := Bw.alloc (Bw.refl wd) (.cells #[] 3)
              refine hK.out _ _ ⟨hS.1.trans hba, hS.2.bw hba⟩ (fun hS => ?_)
              clear hK K
              clear hba
              refine wpAnyH_ready (rs := [9]) (by kernel_rfl) (by simp) ?_
              refine AllReadyH.cons rfl (fun K hK => ?_) ?_
              rw [if_pos (by rfl)]
              refine wp_append_ints (.tmp 59) (.tmp 61) _ rfl (some 62) rfl wd.heap.size 3 Try.underlying40 infoInt _ [] zs rfl (own0 (e := 3) wd wd.heap.size rfl) ⟨b0, o0, none⟩ c rfl (HV.out.mono hS.1) (by have := HZL.out; simp only [List.length_nil]; omega) (by simp) ?_
              intro v0 w7 hown hgr
              simp only [Act.put, List.setIfInBounds_toArray, List.set_cons_zero, List.set_cons_succ]
              have hb10 : Bw wd w7 := Bw.grownN rfl (Bw.alloc (Bw.refl _) _) (own0 (e := 3) wd wd.heap.size rfl) hgr
              simp only [List.nil_append] at hown
              have hrd9 := own_rd hown (by have := HZL.out; omega)
              have HNC := Lib.hid (RdN.of hrd9.1 (own_capd hown) (hrd9.2.mono (show g + 1 + 1 + 1 + 1 ≤ wd.heap.size by have := KE.out.lt; omega)))
              obtain ⟨ac, ccc, rfl⟩ := own_form2 hown
              replace KQ := Lib.hid (KQ.out.bw hb10)
              replace KE := Lib.hid (KE.out.bw hb10)
              replace HD2 := Lib.hid (fun j hj => (HD2.out j hj).bw hb10)
              clear hown hgr hrd9
              refine hK.out _ _ ⟨HSd.out.1.trans hb10, HSd.out.2.bw hb10⟩ (fun hS => ?_)
              clear hK K
              refine wpAnyH_ready (rs := [12]) (by kernel_rfl) (by simp) ?_
              refine AllReadyH.cons rfl (fun K hK => ?_) ?_
              rw [if_pos (by rfl)]
              refine wp_store_cell0 4 _ _ rfl rfl (g + 1 + 1) (2) (.bool true) (.inr (.inl ⟨_, rfl⟩)) rfl rfl (by kernel_rfl) KQ.out (by simp [ptV]) ?_
              replace KQ := Lib.hid (KQ.out.set (2) (.bool true))
              replace HD2 := Lib.hid (fun j hj => (HD2.out j hj).set (b := g + 1 + 1) (by omega) (2) (.bool true))
              replace KE := Lib.hid (KE.out.set_other (b := g + 1 + 1) (by omega) (2) (.bool true))
              replace HNC := Lib.hid (HNC.out.set (b := g + 1 + 1) (by omega) (2) (.bool true))
              refine hK.out _ _ ⟨Bw.setCell hS.1 (p := ⟨g + 1 + 1, 2, none⟩) (by have := HG.out; simp; omega) (.bool true), hS.2.set_other (b := g + 1 + 1) (by omega) (2) (.bool true)⟩ (fun hS => ?_)
              clear hK K
              refine take1 (i := 14) (some 66) rfl rfl (by kernel_rfl) (by kernel_rfl) (by kernel_rfl) (fun _ _ _ _ h => h) rfl hS ?_
              apply Exists.intro
              apply And.intro
              · intro W9 hW9; have y1 := hW9.2.cell (j := 1) rfl; have y2 := hW9.2.cell (j := 2) rfl; go_simp; try with_reducible rfl
              simp only [Act.put, List.setIfInBounds_toArray, List.set_cons_zero, List.set_cons_succ]
              refine wpAnyH_ready (rs := [15]) (by kernel_rfl) (by simp) ?_
              refine AllReadyH.cons rfl (fun K hK => ?_) ?_
              rw [if_pos (by rfl)]
              refine wp_store_cell0 40 _ _ rfl rfl (g + 1 + 1) (7) (.slice ac zs.length ccc) (.inr (.inr ⟨_, _, _, rfl⟩)) rfl rfl (by kernel_rfl) KQ.out (by simp [ptV]) ?_
              replace KQ := Lib.hid (KQ.out.set (7) (.slice ac zs.length ccc))
              replace HD2 := Lib.hid (fun j hj => (HD2.out j hj).set (b := g + 1 + 1) (by omega) (7) (.slice ac zs.length ccc))
              replace KE := Lib.hid (KE.out.set_other (b := g + 1 + 1) (by omega) (7) (.slice ac zs.length ccc))
              replace HNC := Lib.hid (HNC.out.set (b := g + 1 + 1) (by omega) (7) (.slice ac zs.length ccc))
              refine hK.out _ _ ⟨Bw.setCell hS.1 (p := ⟨g + 1 + 1, 7, none⟩) (by have := HG.out; simp; omega) (.slice ac zs.length ccc), hS.2.set_other (b := g + 1 + 1) (by omega) (7) (.slice ac zs.length ccc)⟩ (fun hS => ?_)
              clear hK K
              refine wpAnyH_done (by kernel_rfl) ?_ _
              rotate_left
              exact AllReadyH.nil
              exact AllReadyH.nil
              exact AllReadyH.nil
              exact AllReadyH.nil
              go_wp2
              go_meet
              refine ⟨Lib.hid hS.1, KE, upN D2 2 (.slice ac zs.length ccc), ?_, Lib.hid (fun j hj => ?_)⟩
              · rw [ptV_seth _ _ _ _ 2 (by omega)] at KQ
                rw [show (7 : Nat) = 5 + 2 from rfl, ptV_setD _ _ _ _ 2 (by omega)] at KQ
                exact KQ
              · unfold upN nxP
                dsimp only
                by_cases e : j = 2
                · rw [if_pos e, if_pos e]; exact .inr HNC.out
                · rw [if_neg e, if_neg e]; exact HD2.out j hj
          case rest =>
            clear KF KE KQ HD2 HBW
            obtain ⟨HBW, KE, D3, KQ, HD3⟩ := hcut
            go_upto_region 10 with fail
            have HGD := Lib.hid (fun j (hj : j < 3) => nx_good (p := p) (zs := zs) (kk := kk) hs HK3.out j hj)
            clear hS HRL hb9 HNX HSM HYA HA2 HDD HV HC HK0 HK3
            generalize nxP p zs kk = N at *
            obtain ⟨Nh, Nis, Npr, NZ⟩ := N
            dsimp only at HA3 HA4 KQ HD3 HGD
            have HO3 := Lib.hid (one8 Nh Nis Npr D3 (fun j hj => by obtain ⟨x, y, e⟩ := ((HD3.out j hj).rd HBW.out).1.form; exact ⟨x, _, y, e⟩))
            have q0 := KQ.out.cell (ptV_h Nh Nis Npr D3 0 (by omega))
            have q1 := KQ.out.cell (ptV_h Nh Nis Npr D3 1 (by omega))
            have q2 := KQ.out.cell (ptV_h Nh Nis Npr D3 2 (by omega))
            cases hf : (Nh 0 && (Nh 1 && Nh 2)) with
            | false =>
              have HR := Lib.hid (HA3.out hf)
              clear HA3 HA4 HGD
              cases t0 : Nh 0 with
              | false =>
                rw [t0] at q0
                go_upto_region 11 with fail
                clear q0 q1 q2
                go_wp2_with (first | ((with_reducible refine at_load 43 (.tmp 4) ?_); refine wpList_load_row rfl 43 _ rfl (g + 1 + 1) rfl 43 _ (0, 0) _ KQ.out Try.underlying43 rfl (by kernel_rfl) ?_) | ((with_reducible refine at_store 43 (.tmp 4) (.tmp 83) ?_); refine wpList_store_row rfl 43 (.tmp 4) (.tmp 83) rfl (g + 1 + 1) (ptV Nh Nis Npr D3) rfl rfl 43 _ KQ.out (by kernel_rfl) rfl HO3.out ?_; replace KE := Lib.hid (KE.out.row_other (g' := g + 1 + 1) (by omega) (ptV Nh Nis Npr D3)); replace HBW := Lib.hid (Bw.setRow HBW.out (show w.heap.size ≤ g + 1 + 1 by have := HG.out; omega) (ptV Nh Nis Npr D3)); replace HD3 := Lib.hid (fun j hj => (HD3.out j hj).kx (Kx.row KQ.out.lt (ptV Nh Nis Npr D3)) (by omega)); replace KQ := Lib.hid (KQ.out.row (ptV Nh Nis Npr D3))) | ((with_reducible refine at_store 25 (.tmp 5) (.tmp 84) ?_); refine wpList_store_row rfl 25 (.tmp 5) (.tmp 84) rfl (g + 1 + 1 + 1) (#[.int .i64 0, .int .i64 0, .int .i64 0, .int .i64 0, .int .i64 0, .int .i64 0, .int .i64 0, .int .i64 0, .int .i64 0, .int .i64 0, .int .i64 0, .int .i64 0, .int .i64 0, .int .i64 0, .int .i64 0, .int .i64 0, .int .i64 0, .int .i64 0, .int .i64 0]) rfl rfl 25 _ KE.out (by kernel_rfl) rfl (by simp [Value.oneCell']) ?_; replace KQ := Lib.hid (KQ.out.row_other (g' := g + 1 + 1 + 1) (by omega) (#[.int .i64 0, .int .i64 0, .int .i64 0, .int .i64 0, .int .i64 0, .int .i64 0, .int .i64 0, .int .i64 0, .int .i64 0, .int .i64 0, .int .i64 0, .int .i64 0, .int .i64 0, .int .i64 0, .int .i64 0, .int .i64 0, .int .i64 0, .int .i64 0, .int .i64 0])); replace HBW := Lib.hid (Bw.setRow HBW.out (show w.heap.size ≤ g + 1 + 1 + 1 by have := HG.out; omega) (#[.int .i64 0, .int .i64 0, .int .i64 0, .int .i64 0, .int .i64 0, .int .i64 0, .int .i64 0, .int .i64 0, .int .i64 0, .int .i64 0, .int .i64 0, .int .i64 0, .int .i64 0, .int .i64 0, .int .i64 0, .int .i64 0, .int .i64 0, .int .i64 0, .int .i64 0])); replace HD3 := Lib.hid (fun j hj => (HD3.out j hj).kx (Kx.row KE.out.lt #[.int .i64 0, .int .i64 0, .int .i64 0, .int .i64 0, .int .i64 0, .int .i64 0, .int .i64 0, .int .i64 0, .int .i64 0, .int .i64 0, .int .i64 0, .int .i64 0, .int .i64 0, .int .i64 0, .int .i64 0, .int .i64 0, .int .i64 0, .int .i64 0, .int .i64 0]) (by omega)); replace KE := Lib.hid (KE.out.row (#[.int .i64 0, .int .i64 0, .int .i64 0, .int .i64 0, .int .i64 0, .int .i64 0, .int .i64 0, .int .i64 0, .int .i64 0, .int .i64 0, .int .i64 0, .int .i64 0, .int .i64 0, .int .i64 0, .int .i64 0, .int .i64 0, .int .i64 0, .int .i64 0, .int .i64 0]))))
                rw [← zE_V] at KE HBW KQ HD3
                refine bodyPost_ret (v := .tuple #[.agg (ptV Nh Nis Npr D3), .agg (eV zE), .bool false, .int .i64 0]) ?_ rfl ⟨HAR.out _ HR.out _ _ ⟨D3, rfl, fun j hj => (HD3.out j hj).rd HBW.out⟩, HBW.out⟩
                exact res_add (p := 4) (q := 5) (u := 6) (v := 7) rfl _ _ _ _ _ rfl _ rfl KQ.out rfl KE.out
              | true =>
                rw [t0] at q0
                cases t1 : Nh 1 with
                | false =>
                  rw [t1] at q1
                  go_upto_region 11 with fail
                  clear q0 q1 q2
                  go_wp2_with (first | ((with_reducible refine at_load 43 (.tmp 4) ?_); refine wpList_load_row rfl 43 _ rfl (g + 1 + 1) rfl 43 _ (0, 0) _ KQ.out Try.underlying43 rfl (by kernel_rfl) ?_) | ((with_reducible refine at_store 43 (.tmp 4) (.tmp 83) ?_); refine wpList_store_row rfl 43 (.tmp 4) (.tmp 83) rfl (g + 1 + 1) (ptV Nh Nis Npr D3) rfl rfl 43 _ KQ.out (by kernel_rfl) rfl HO3.out ?_; replace KE := Lib.hid (KE.out.row_other (g' := g + 1 + 1) (by omega) (ptV Nh Nis Npr D3)); replace HBW := Lib.hid (Bw.setRow HBW.out (show w.heap.size ≤ g + 1 + 1 by have := HG.out; omega) (ptV Nh Nis Npr D3)); replace HD3 := Lib.hid (fun j hj => (HD3.out j hj).kx (Kx.row KQ.out.lt (ptV Nh Nis Npr D3)) (by omega)); replace KQ := Lib.hid (KQ.out.row (ptV Nh Nis Npr D3))) | ((with_reducible refine at_store 25 (.tmp 5) (.tmp 84) ?_); refine wpList_store_row rfl 25 (.tmp 5) (.tmp 84) rfl (g + 1 + 1 + 1) (#[.int .i64 0, .int .i64 0, .int .i64 0, .int .i64 0, .int .i64 0, .int .i64 0, .int .i64 0, .int .i64 0, .int .i64 0, .int .i64 0, .int .i64 0, .int .i64 0, .int .i64 0, .int .i64 0, .int .i64 0, .int .i64 0, .int .i64 0, .int .i64 0, .int .i64 0]) rfl rfl 25 _ KE.out (by kernel_rfl) rfl (by simp [Value.oneCell']) ?_; replace KQ := Lib.hid (KQ.out.row_other (g' := g + 1 + 1 + 1) (by omega) (#[.int .i64 0, .int .i64 0, .int .i64 0, .int .i64 0, .int .i64 0, .int .i64 0, .int .i64 0, .int .i64 0, .int .i64 0, .int .i64 0, .int .i64 0, .int .i64 0, .int .i64 0, .int .i64 0, .int .i64 0, .int .i64 0, .int .i64 0, .int .i64 0, .int .i64 0])); replace HBW := Lib.hid (Bw.setRow HBW.out (show w.heap.size ≤ g + 1 + 1 + 1 by have := HG.out; omega) (#[.int .i64 0, .int .i64 0, .int .i64 0, .int .i64 0, .int .i64 0, .int .i64 0, .int .i64 0, .int .i64 0, .int .i64 0, .int .i64 0, .int .i64 0, .int .i64 0, .int .i64 0, .int .i64 0, .int .i64 0, .int .i64 0, .int .i64 0, .int .i64 0, .int .i64 0])); replace HD3 := Lib.hid (fun j hj => (HD3.out j hj).kx (Kx.row KE.out.lt #[.int .i64 0, .int .i64 0, .int .i64 0, .int .i64 0, .int .i64 0, .int .i64 0, .int .i64 0, .int .i64 0, .int .i64 0, .int .i64 0, .int .i64 0, .int .i64 0, .int .i64 0, .int .i64 0, .int .i64 0, .int .i64 0, .int .i64 0, .int .i64 0, .int .i64 0]) (by omega)); replace KE := Lib.hid (KE.out.row (#[.int .i64 0, .int .i64 0, .int .i64 0, .int .i64 0, .int .i64 0, .int .i64 0, .int .i64 0, .int .i64 0, .int .i64 0, .int .i64 0, .int .i64 0, .int .i64 0, .int .i64 0, .int .i64 0, .int .i64 0, .int .i64 0, .int .i64 0, .int .i64 0, .int .i64 0]))))
                  rw [← zE_V] at KE HBW KQ HD3
                  refine bodyPost_ret (v := .tuple #[.agg (ptV Nh Nis Npr D3), .agg (eV zE), .bool false, .int .i64 0]) ?_ rfl ⟨HAR.out _ HR.out _ _ ⟨D3, rfl, fun j hj => (HD3.out j hj).rd HBW.out⟩, HBW.out⟩
                  exact res_add (p := 4) (q := 5) (u := 6) (v := 7) rfl _ _ _ _ _ rfl _ rfl KQ.out rfl KE.out
                | true =>
                  rw [t1] at q1
                  have t2 : Nh 2 = false := by rw [t0, t1] at hf; simpa using hf
                  rw [t2] at q2
                  go_upto_region 11 with fail
                  clear q0 q1 q2
                  go_wp2_with (first | ((with_reducible refine at_load 43 (.tmp 4) ?_); refine wpList_load_row rfl 43 _ rfl (g + 1 + 1) rfl 43 _ (0, 0) _ KQ.out Try.underlying43 rfl (by kernel_rfl) ?_) | ((with_reducible refine at_store 43 (.tmp 4) (.tmp 83) ?_); refine wpList_store_row rfl 43 (.tmp 4) (.tmp 83) rfl (g + 1 + 1) (ptV Nh Nis Npr D3) rfl rfl 43 _ KQ.out (by kernel_rfl) rfl HO3.out ?_; replace KE := Lib.hid (KE.out.row_other (g' := g + 1 + 1) (by omega) (ptV Nh Nis Npr D3)); replace HBW := Lib.hid (Bw.setRow HBW.out (show w.heap.size ≤ g + 1 + 1 by have := HG.out; omega) (ptV Nh Nis Npr D3)); replace HD3 := Lib.hid (fun j hj => (HD3.out j hj).kx (Kx.row KQ.out.lt (ptV Nh Nis Npr D3)) (by omega)); replace KQ := Lib.hid (KQ.out.row (ptV Nh Nis Npr D3))) | ((with_reducible refine at_store 25 (.tmp 5) (.tmp 84) ?_); refine wpList_store_row rfl 25 (.tmp 5) (.tmp 84) rfl (g + 1 + 1 + 1) (#[.int .i64 0, .int .i64 0, .int .i64 0, .int .i64 0, .int .i64 0, .int .i64 0, .int .i64 0, .int .i64 0, .int .i64 0, .int .i64 0, .int .i64 0, .int .i64 0, .int .i64 0, .int .i64 0, .int .i64 0, .int .i64 0, .int .i64 0, .int .i64 0, .int .i64 0]) rfl rfl 25 _ KE.out (by kernel_rfl) rfl (by simp [Value.oneCell']) ?_; replace KQ := Lib.hid (KQ.out.row_other (g' := g + 1 + 1 + 1) (by omega) (#[.int .i64 0, .int .i64 0, .int .i64 0, .int .i64 0, .int .i64 0, .int .i64 0, .int .i64 0, .int .i64 0, .int .i64 0, .int .i64 0, .int .i64 0, .int .i64 0, .int .i64 0, .int .i64 0, .int .i64 0, .int .i64 0, .int .i64 0, .int .i64 0, .int .i64 0])); replace HBW := Lib.hid (Bw.setRow HBW.out (show w.heap.size ≤ g + 1 + 1 + 1 by have := HG.out; omega) (#[.int .i64 0, .int .i64 0, .int .i64 0, .int .i64 0, .int .i64 0, .int .i64 0, .int .i64 0, .int .i64 0, .int .i64 0, .int .i64 0, .int .i64 0, .int .i64 0, .int .i64 0, .int .i64 0, .int .i64 0, .int .i64 0, .int .i64 0, .int .i64 0, .int .i64 0])); replace HD3 := Lib.hid (fun j hj => (HD3.out j hj).kx (Kx.row KE.out.lt #[.int .i64 0, .int .i64 0, .int .i64 0, .int .i64 0, .int .i64 0, .int .i64 0, .int .i64 0, .int .i64 0, .int .i64 0, .int .i64 0, .int .i64 0, .int .i64 0, .int .i64 0, .int .i64 0, .int .i64 0, .int .i64 0, .int .i64 0, .int .i64 0, .int .i64 0]) (by omega)); replace KE := Lib.hid (KE.out.row (#[.int .i64 0, .int .i64 0, .int .i64 0, .int .i64 0, .int .i64 0, .int .i64 0, .int .i64 0, .int .i64 0, .int .i64 0, .int .i64 0, .int .i64 0, .int .i64 0, .int .i64 0, .int .i64 0, .int .i64 0, .int .i64 0, .int .i64 0, .int .i64 0, .int .i64 0]))))
                  rw [← zE_V] at KE HBW KQ HD3
                  refine bodyPost_ret (v := .tuple #[.agg (ptV Nh Nis Npr D3), .agg (eV zE), .bool false, .int .i64 0]) ?_ rfl ⟨HAR.out _ HR.out _ _ ⟨D3, rfl, fun j hj => (HD3.out j hj).rd HBW.out⟩, HBW.out⟩
                  exact res_add (p := 4) (q := 5) (u := 6) (v := 7) rfl _ _ _ _ _ rfl _ rfl KQ.out rfl KE.out
            | true =>
              have HR := Lib.hid (HA4.out hf)
              have hhh : ∀ j, j < 3 → Nh j = true := fun j hj => by
                simp only [Bool.and_eq_true] at hf
                match j, hj with
                | 0, _ => exact hf.1
                | 1, _ => exact hf.2.1
                | 2, _ => exact hf.2.2
              rw [hhh 0 (by omega)] at q0
              rw [hhh 1 (by omega)] at q1
              rw [hhh 2 (by omega)] at q2
              have HG3 := Lib.hid (fun j hj => (HGD.out j hj (hhh j hj)).1)
              clear hhh HGD HA3 HA4 hf
              obtain ⟨m0, r0, v0⟩ := ((HD3.out 0 (by omega)).rd HBW.out).1.form
              obtain ⟨m1, r1, v1⟩ := ((HD3.out 1 (by omega)).rd HBW.out).1.form
              obtain ⟨m2, r2, v2⟩ := ((HD3.out 2 (by omega)).rd HBW.out).1.form
              have V0 : Hid (∀ W, Bw wc W → Calls Try.prog 44 #[.slice m0 (NZ 0).length r0, .int .i64 1] W fun e w' => (∃ v', e = .returned (.tuple #[v', .bool true]) ∧ RdI w' v' (rvL (NZ 0) 0)) ∧ Bw W w') := Lib.hid (fun W q => by
                have h9 := val_rows (NZ 0) 0 (by omega) (.slice m0 (NZ 0).length r0) W (by rw [← v0]; exact ((HD3.out 0 (by omega)).rd HBW.out).1.mono q)
                rw [HG3.out 0 (by omega)] at h9
                exact Calls.mono h9 (fun e w' ⟨⟨v', h1, h2⟩, h3⟩ => ⟨⟨v', h1, (h2 rfl).1⟩, h3⟩))
              have V1 : Hid (∀ W, Bw wc W → Calls Try.prog 44 #[.slice m1 (NZ 1).length r1, .int .i64 2] W fun e w' => (∃ v', e = .returned (.tuple #[v', .bool true]) ∧ RdI w' v' (rvL (NZ 1) 1)) ∧ Bw W w') := Lib.hid (fun W q => by
                have h9 := val_rows (NZ 1) 1 (by omega) (.slice m1 (NZ 1).length r1) W (by rw [← v1]; exact ((HD3.out 1 (by omega)).rd HBW.out).1.mono q)
                rw [HG3.out 1 (by omega)] at h9
                exact Calls.mono h9 (fun e w' ⟨⟨v', h1, h2⟩, h3⟩ => ⟨⟨v', h1, (h2 rfl).1⟩, h3⟩))
              have V2 : Hid (∀ W, Bw wc W → Calls Try.prog 44 #[.slice m2 (NZ 2).length r2, .int .i64 3] W fun e w' => (∃ v', e = .returned (.tuple #[v', .bool true]) ∧ RdI w' v' (rvL (NZ 2) 2)) ∧ Bw W w') := Lib.hid (fun W q => by
                have h9 := val_rows (NZ 2) 2 (by omega) (.slice m2 (NZ 2).length r2) W (by rw [← v2]; exact ((HD3.out 2 (by omega)).rd HBW.out).1.mono q)
                rw [HG3.out 2 (by omega)] at h9
                exact Calls.mono h9 (fun e w' ⟨⟨v', h1, h2⟩, h3⟩ => ⟨⟨v', h1, (h2 rfl).1⟩, h3⟩))
              have L0 : Hid (7 ≤ (rvL (NZ 0) 0).length) := Lib.hid (by rw [rvL_len]; decide)
              have L1 : Hid (8 ≤ (rvL (NZ 1) 1).length) := Lib.hid (by rw [rvL_len]; decide)
              have L2 : Hid (8 ≤ (rvL (NZ 2) 2).length) := Lib.hid (by rw [rvL_len]; decide)
              have p0 : Hid (∀ W, Bw wc W → W.cell? ⟨g + 1 + 1, 5, none⟩ = some (.slice m0 (NZ 0).length r0) ∧ W.cell? ⟨g + 1 + 1, 6, none⟩ = some (.slice m1 (NZ 1).length r1) ∧ W.cell? ⟨g + 1 + 1, 7, none⟩ = some (.slice m2 (NZ 2).length r2)) := Lib.hid (fun W q => by
                rw [← v0, ← v1, ← v2]
                exact ⟨(KQ.out.bw q).cell (ptV_D Nh Nis Npr D3 0 (by omega)), (KQ.out.bw q).cell (ptV_D Nh Nis Npr D3 1 (by omega)), (KQ.out.bw q).cell (ptV_D Nh Nis Npr D3 2 (by omega))⟩)
              have HWC := Lib.hid (Bw.refl wc)
              obtain ⟨z0, z1, z2⟩ := p0.out wc (Bw.refl wc)
              clear HO3 HD3 v0 v1 v2 HG3
              generalize rvL (NZ 0) 0 = LA at *
              generalize rvL (NZ 1) 1 = LB at *
              generalize rvL (NZ 2) 2 = LC at *
              have TG := Lib.hid (fun u v x W a1 a2 a3 => together_any LA LB LC u v x W a1 a2 a3 L0.out L1.out L2.out)
              generalize togE LA LB LC = TE at *
              generalize (NZ 0).length = n0 at *
              generalize (NZ 1).length = n1 at *
              generalize (NZ 2).length = n2 at *
              go_wp2_with (first | (go_at_call 44; (with_reducible refine Calls.mono (V0.out _ HWC.out) ?_); rintro e1 s0 ⟨⟨xv0, rfl, hx9⟩, hb9⟩; have HX0 := Lib.hid hx9; replace HWC := Lib.hid (HWC.out.trans hb9); replace HBW := Lib.hid (HBW.out.trans hb9); replace KQ := Lib.hid (KQ.out.bw hb9); replace KE := Lib.hid (KE.out.bw hb9); clear hb9 hx9 z0 z1 z2; obtain ⟨z0, z1, z2⟩ := p0.out _ HWC.out) | (go_at_call 44; (with_reducible refine Calls.mono (V1.out _ HWC.out) ?_); rintro e1 s1 ⟨⟨xv1, rfl, hx9⟩, hb9⟩; have HX1 := Lib.hid hx9; replace HX0 := Lib.hid (HX0.out.mono hb9); replace HWC := Lib.hid (HWC.out.trans hb9); replace HBW := Lib.hid (HBW.out.trans hb9); replace KQ := Lib.hid (KQ.out.bw hb9); replace KE := Lib.hid (KE.out.bw hb9); clear hb9 hx9 z0 z1 z2; obtain ⟨z0, z1, z2⟩ := p0.out _ HWC.out) | (go_at_call 44; (with_reducible refine Calls.mono (V2.out _ HWC.out) ?_); rintro e1 s2 ⟨⟨xv2, rfl, hx9⟩, hb9⟩; have HX2 := Lib.hid hx9; replace HX0 := Lib.hid (HX0.out.mono hb9); replace HX1 := Lib.hid (HX1.out.mono hb9); replace HWC := Lib.hid (HWC.out.trans hb9); replace HBW := Lib.hid (HBW.out.trans hb9); replace KQ := Lib.hid (KQ.out.bw hb9); replace KE := Lib.hid (KE.out.bw hb9); clear hb9 hx9 z0 z1 z2; obtain ⟨z0, z1, z2⟩ := p0.out _ HWC.out) | (go_at_call 39; (with_reducible refine Calls.mono (TG.out _ _ _ _ HX0.out HX1.out HX2.out) ?_); rintro e1 s4 ⟨rfl, hb9⟩; replace HBW := Lib.hid (HBW.out.trans hb9); replace KQ := Lib.hid (KQ.out.bw hb9); replace KE := Lib.hid (KE.out.bw hb9); clear hb9 z0 z1 z2) | ((with_reducible refine at_store 43 (.tmp 4) (.tmp 106) ?_); refine wpList_store_row rfl 43 (.tmp 4) (.tmp 106) rfl (g + 1 + 1) #[.bool false, .bool false, .bool false, .int .i64 0, .int .i64 0, .slice none 0 0, .slice none 0 0, .slice none 0 0] rfl rfl 43 _ KQ.out (by kernel_rfl) rfl (by simp [Value.oneCell']) ?_; replace KE := Lib.hid (KE.out.row_other (g' := g + 1 + 1) (by omega) #[.bool false, .bool false, .bool false, .int .i64 0, .int .i64 0, .slice none 0 0, .slice none 0 0, .slice none 0 0]); replace HBW := Lib.hid (Bw.setRow HBW.out (show w.heap.size ≤ g + 1 + 1 by have := HG.out; omega) #[.bool false, .bool false, .bool false, .int .i64 0, .int .i64 0, .slice none 0 0, .slice none 0 0, .slice none 0 0]); replace KQ := Lib.hid (KQ.out.row #[.bool false, .bool false, .bool false, .int .i64 0, .int .i64 0, .slice none 0 0, .slice none 0 0, .slice none 0 0])) | ((with_reducible refine at_store 25 (.tmp 5) (.tmp 110) ?_); refine wpList_store_row rfl 25 (.tmp 5) (.tmp 110) rfl (g + 1 + 1 + 1) (eV TE) rfl rfl 25 _ KE.out (by kernel_rfl) rfl (by simp [Value.oneCell', eV]) ?_; replace KQ := Lib.hid (KQ.out.row_other (g' := g + 1 + 1 + 1) (by omega) (eV TE)); replace HBW := Lib.hid (Bw.setRow HBW.out (show w.heap.size ≤ g + 1 + 1 + 1 by have := HG.out; omega) (eV TE)); replace KE := Lib.hid (KE.out.row (eV TE))))
              refine bodyPost_ret (v := .tuple #[.agg #[.bool false, .bool false, .bool false, .int .i64 0, .int .i64 0, .slice none 0 0, .slice none 0 0, .slice none 0 0], .agg (eV TE), .bool true, .int .i64 0]) ?_ rfl ⟨HAR.out _ HR.out _ _ (AddP.zero _ _ _ _), HBW.out⟩
              exact res_add (p := 4) (q := 5) (u := 6) (v := 7) rfl _ _ _ _ _ rfl _ rfl KQ.out rfl KE.out
end Go.Proofs.Sky
