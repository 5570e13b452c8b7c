/-
  lemmas for the theorems of this claim. No conditions beyond those written in the statements.
-/
import Derived.Test.YtcmjcobhobfloaaDoorI27
import Derived.Deep.Cut
set_option linter.unusedVariables false
set_option linter.unusedSimpArgs false
set_option linter.unnecessarySimpa false
namespace Go.Proofs.Sky
open Go Go.RowKit Go.Shelf
set_option maxHeartbeats 4000000
set_option maxRecDepth 8000
/-! chapter 27: AlmanacBack -/
def mn28 (x y : Int) : Int := if y < x then y else x
theorem run_mn28 {P : Program} {w : World} (ts : Array TypeId) (t : TypeId) (k k' : IntKind) (x y : Int) : (Builtin.min_ ts t #[.int k x, .int k' y]).run P w = .ok (.int k (mn28 x y)) w := run_min_int2 w ts t k k' x y
attribute [-go_sem] run_min_int2 run_max_int2
attribute [local go_sem] run_mn28 run_mx28
section
variable {P : Program} {Q : Exit → Act → World → Prop}
theorem wp_alloc_new28F {o : Oper} {a : Act} {w : World} {K : Act → World → Prop} (ty : TypeId) (ho : o.op = .alloc ty) (dst : Option Tmp) (hd : o.dst = dst) (hz : (zeroValue ty).run P w = .ok (.agg #[.int .i64 0, .int .i64 0, .slice none 0 0]) w)
    (h : ∀ g w', w.heap.size ≤ g → Blk w' g ty #[.int .i64 0, .int .i64 0, .slice none 0 0] → Bw w w' → K (a.put dst (.pointer (some ⟨g, 0, none⟩))) w') : o.wp P a w K Q :=
  wp_alloc_agg ty ho dst hd _ hz (h _ _ (Nat.le_refl _) (Blk.new w ty _) (Bw.alloc (Bw.refl w) _))
end
theorem zeroFR (w : World) : (zeroValue 40).run Tryd.prog w = .ok (.agg #[.int .i64 0, .int .i64 0, .slice none 0 0]) w := by kernel_rfl
theorem atQ_zero (l0 l1 l2 : Int) : atQ l0 l1 l2 0 = 64 * l0 := by
  unfold atQ rn
  rw [Int.mul_zero, Int.mul_zero]
  split <;> omega
theorem errTm_in {x : Nat → Int} {t : Int} (h : errPg x = 0) (h0 : 0 ≤ t) (h1 : t < 604800) : errTm x t = 0 := by
  unfold errTm
  rw [if_neg (by omega), if_neg (by omega)]
theorem law_back27 (zs : List Int) (v : Value) (y1 y2 y3 : Int) (w : World) (hv : RdI w v zs) (hw : WdAt w) : Calls Tryd.prog 6 #[v, .int .i64 y1, .int .i64 y2, .int .i64 y3] w fun e w' => e = .returned (.bool true) ∧ Bw w w' := by
  have HWD := Lib.hid hw
  obtain ⟨ad, cap, rfl⟩ := hv.form
  have OF := Lib.hid (of27_any zs _ w hv)
  have hok := ofX27_ok zs
  clear hv hw
  have AW := Lib.hid (fun W h => awake27_any W h)
  have hbt := bel_bd y1 131072 (by decide)
  have hb2 := bel_bd y2 302400 (by decide)
  have hb3 := bel_bd y3 302400 (by decide)
  have BT := Lib.hid (fun W => Below_any y1 131072 W (by decide) (by decide))
  have B2 := Lib.hid (fun W => Below_any y2 302400 W (by decide) (by decide))
  have B3 := Lib.hid (fun W => Below_any y3 302400 W (by decide) (by decide))
  generalize bel y1 131072 = tw at *
  generalize bel y2 302400 = a at *
  generalize bel y3 302400 = b at *
  generalize ofX27 zs = X at *
  obtain ⟨m, hm⟩ : ∃ m, m = mn28 a b := ⟨_, rfl⟩
  obtain ⟨M, hM⟩ : ∃ M, M = mx28 a b := ⟨_, rfl⟩
  have hmM : 0 ≤ m ∧ m ≤ M ∧ M < 302400 := by rw [hm, hM]; unfold mn28 mx28; split <;> split <;> omega
  have HM1 := Lib.hid hm
  have HM2 := Lib.hid hM
  clear hm hM
  obtain ⟨_, hx1, hx2, hx3, _⟩ := pg_lim hok
  have FO := Lib.hid (fun W h => AlFrame_ok X tw W h hok (by omega))
  unfold FrP at FO
  rw [show (packR 206 (fdsS PGL) ((List.range 13).map X)).1 = FrQ X from rfl] at FO
  have RB := Lib.hid (fun W v h hv hc => AlRead_back hok tw (by omega) (by omega) v W h hv hc)
  generalize FrQ X = L at *
  have PK := Lib.hid (fun W h => PgCheck_any X W h)
  rw [hok] at PK
  obtain ⟨t1, ht1⟩ : ∃ t1, t1 = (X 1 + m) % 604800 := ⟨_, rfl⟩
  obtain ⟨t2, ht2⟩ : ∃ t2, t2 = (X 1 + M) % 604800 := ⟨_, rfl⟩
  obtain ⟨t3, ht3⟩ : ∃ t3, t3 = (X 1 + 604800 - m) % 604800 := ⟨_, rfl⟩
  have E1 := Lib.hid (fun W h => AlError_any X t1 W h)
  have E2 := Lib.hid (fun W h => AlError_any X t2 W h)
  have E3 := Lib.hid (fun W h => AlError_any X t3 W h)
  have A1 := Lib.hid (fun W h => AlAt_any X (X 1) W h)
  have r1 : errTm X t1 = 0 := errTm_in hok (by omega) (by omega)
  have r2 : errTm X t2 = 0 := errTm_in hok (by omega) (by omega)
  have r3 : errTm X t3 = 0 := errTm_in hok (by omega) (by omega)
  have r4 : errTm X (X 1) = 0 := errTm_in hok (by omega) (by omega)
  have k1 : arQ (t1 - X 1) = m := by rw [ht1]; unfold arQ; omega
  have k2 : arQ (t2 - X 1) = M := by rw [ht2]; unfold arQ; omega
  have k3 : arQ (t3 - X 1) = -m := by rw [ht3]; unfold arQ; omega
  have k4 : arQ (X 1 - X 1) = 0 := by rw [Int.sub_self]; rfl
  rw [r1, show bdP X t1 = X 2 + (X 3 * m + 3599) / 3600 by unfold bdP bdQ; rw [if_pos r1, k1, show ((m.natAbs : Nat) : Int) = m by omega]] at E1
  rw [r2, show bdP X t2 = X 2 + (X 3 * M + 3599) / 3600 by unfold bdP bdQ; rw [if_pos r2, k2, show ((M.natAbs : Nat) : Int) = M by omega]] at E2
  rw [r3, show bdP X t3 = X 2 + (X 3 * m + 3599) / 3600 by unfold bdP bdQ; rw [if_pos r3, k3, show (((-m).natAbs : Nat) : Int) = m by omega]] at E3
  have kA : ∀ j, atP X (X 1) j = 64 * X (4 + 3 * j) := fun j => by unfold atP; rw [if_pos r4, k4, atQ_zero]
  unfold t3V at A1
  rw [r4, kA 0, kA 1, kA 2] at A1
  have hmul : X 3 * m ≤ X 3 * M := Int.mul_le_mul_of_nonneg_left hmM.2.1 hx3.1
  have hmul0 : 0 ≤ X 3 * m := Int.mul_nonneg hx3.1 hmM.1
  have hq1 : X 2 + (X 3 * m + 3599) / 3600 ≤ X 2 + (X 3 * M + 3599) / 3600 := by omega
  have hq2 : X 2 ≤ X 2 + (X 3 * m + 3599) / 3600 := by omega
  generalize X 2 + (X 3 * m + 3599) / 3600 = b1 at *
  generalize X 2 + (X 3 * M + 3599) / 3600 = b2 at *
  have hT1 := hx1
  have H1 := Lib.hid (show (pgV X)[1]? = some (.int .i64 (X 1)) from rfl)
  have H2 := Lib.hid (show (pgV X)[2]? = some (.int .i64 (X 2)) from rfl)
  have H4 := Lib.hid (show (pgV X)[4]? = some (.int .i64 (X (4 + 3 * 0))) from rfl)
  have H7 := Lib.hid (show (pgV X)[7]? = some (.int .i64 (X (4 + 3 * 1))) from rfl)
  have H10 := Lib.hid (show (pgV X)[10]? = some (.int .i64 (X (4 + 3 * 2))) from rfl)
  have hl := (pg_lim hok).2.2.2.2
  have hl0 := (hl 0 (by omega)).1
  have hl1 := (hl 1 (by omega)).1
  have hl2 := (hl 2 (by omega)).1
  clear hl r1 r2 r3 r4 k1 k2 k3 k4 kA hmul hmul0 hok hx3
  generalize X (4 + 3 * 0) = y4 at *
  generalize X (4 + 3 * 1) = y7 at *
  generalize X (4 + 3 * 2) = y10 at *
  have HQ := Lib.hid (fun W => eqPg_self X W)
  have HSZ : Hid ((Tryd.prog.info? 27).map (·.size) = some (pgV X).size) := Lib.hid (by kernel_rfl)
  have HPX : Hid ((pgV X).all (·.oneCell') = true) := Lib.hid (by simp [Value.oneCell', pgV])
  have HN13 : Hid ((#[.int .i64 0, .int .i64 0, .int .i64 0, .int .i64 0, .int .i64 0, .int .i64 0, .int .i64 0, .int .i64 0, .int .i64 0, .int .i64 0, .int .i64 0, .int .i64 0, .int .i64 0] : Array Value).size = (pgV X).size) := Lib.hid rfl
  obtain ⟨A, hA⟩ : ∃ A, A = pgV X := ⟨_, rfl⟩
  rw [← hA] at OF FO RB PK E1 E2 E3 A1 H1 H2 H4 H7 H10 HQ HSZ HPX HN13
  clear hA
  generalize X 1 = x1 at *
  generalize X 2 = x2 at *
  have HT := Lib.hid (And.intro ht1 (And.intro ht2 ht3))
  have HQB := Lib.hid (And.intro hq1 hq2)
  have HL3 := Lib.hid (And.intro hl0 (And.intro hl1 hl2))
  clear ht1 ht2 ht3 hq1 hq2 hl0 hl1 hl2
  have HW := Lib.hid (Bw.refl w)
  go_enter Tryd.func6, Tryd.ntmps6
  go_upto_region 2 with (first | (go_at_call 10; (with_reducible refine Calls.mono OF.out ?_); rintro e1 w1 ⟨rfl, hb1⟩; replace HW := Lib.hid (HW.out.trans hb1); clear hb1) | ((with_reducible refine at_store 27 (.tmp 9) (.tmp 21) ?_); refine wpList_store_row rfl 27 (.tmp 9) (.tmp 21) rfl w1.heap.size A rfl rfl 27 #[.int .i64 0, .int .i64 0, .int .i64 0, .int .i64 0, .int .i64 0, .int .i64 0, .int .i64 0, .int .i64 0, .int .i64 0, .int .i64 0, .int .i64 0, .int .i64 0, .int .i64 0] (Blk.new w1 27 #[.int .i64 0, .int .i64 0, .int .i64 0, .int .i64 0, .int .i64 0, .int .i64 0, .int .i64 0, .int .i64 0, .int .i64 0, .int .i64 0, .int .i64 0, .int .i64 0, .int .i64 0]) HSZ.out HN13.out HPX.out ?_))
  obtain ⟨g9, hg1⟩ : ∃ g9, w1.heap.size = g9 := ⟨_, rfl⟩
  have hb1 := Bw.setRow (Bw.alloc (Bw.refl w1) (.cells #[.int .i64 0, .int .i64 0, .int .i64 0, .int .i64 0, .int .i64 0, .int .i64 0, .int .i64 0, .int .i64 0, .int .i64 0, .int .i64 0, .int .i64 0, .int .i64 0, .int .i64 0] 27)) (Nat.le_of_eq hg1) A
  have K9 := Lib.hid ((Blk.new w1 27 #[.int .i64 0, .int .i64 0, .int .i64 0, .int .i64 0, .int .i64 0, .int .i64 0, .int .i64 0, .int .i64 0, .int .i64 0, .int .i64 0, .int .i64 0, .int .i64 0, .int .i64 0]).row A)
  rw [hg1] at K9 ⊢
  replace HW := Lib.hid (HW.out.trans hb1)
  clear hb1
  generalize World.setRow (World.alloc w1 _) _ _ = z1 at *
  clear hg1
  (try simp only [Act.put])
  go_cut [10, 11] from 20 (fun s10 s11 wc => ∃ g10 va vc, s10 = .pointer (some ⟨g10, 0, none⟩) ∧ s11 = .int .i64 0 ∧ Hid (Bw z1 wc) ∧ Hid (Blk wc g10 40 #[.int .i64 tw, .int .i64 4, .slice va L.length vc]) ∧ Hid (RdI wc (.slice va L.length vc) L ∧ Capd (.slice va L.length vc)))
  case first =>
    refine wp_region_held_drew (S := Bw z1) (by kernel_rfl) (Bw.drew (Bw.refl _)) (fun hS => ?_)
    generalize World.drew _ = wd at hS ⊢
    refine take1 (i := 0) (some 23) rfl rfl (by kernel_rfl) (by kernel_rfl) (by kernel_rfl) (fun _ _ _ _ h => h) rfl hS ?_
    refine Exists.intro (.agg A) ?_
    apply And.intro
    · intro W9 hW9; skip; exact run_load_row 27 _ rfl g9 rfl 27 A _ (K9.out.bw hW9) Tryd.underlying27 rfl HSZ.out
    simp only [Act.put, List.setIfInBounds_toArray, List.set_cons_zero, List.set_cons_succ]
    refine take1 (i := 1) (some 24) rfl rfl (by kernel_rfl) (by kernel_rfl) (by kernel_rfl) (fun _ _ _ _ h => h) rfl hS ?_
    apply Exists.intro
    apply And.intro
    · intro W9 hW9; skip; go_simp; try with_reducible rfl
    simp only [Act.put, List.setIfInBounds_toArray, List.set_cons_zero, List.set_cons_succ]
    refine wpAnyH_ready (rs := [2, 7]) (by kernel_rfl) (by simp) ?_
    refine AllReadyH.cons rfl (fun K hK => ?_) ?_
    go_simp
    go_wp2_with (go_at_call 9; (with_reducible refine Calls.mono (BT.out _) ?_); rintro e1 wd ⟨rfl, hbw⟩)
    refine hK.out _ _ (hS.trans hbw) (fun hS => ?_)
    clear hK K
    clear hbw
    refine wpAnyH_ready (rs := [3, 7]) (by kernel_rfl) (by simp) ?_
    refine AllReadyH.cons rfl (fun K hK => ?_) ?_
    go_simp
    go_wp2_with (go_at_call 16; (with_reducible refine Calls.mono (FO.out _ (HWD.out.bw (HW.out.trans hS))) ?_); rintro e1 wd ⟨⟨vd, rfl, hrd, hfr, hcd⟩, hbw⟩)
    obtain ⟨va, vc, rfl⟩ := hrd.form
    have HRD := Lib.hid (And.intro hrd hcd)
    clear hrd hcd hfr
    refine hK.out _ _ (hS.trans hbw) (fun hS => ?_)
    clear hK K
    clear hbw
    refine take1 (i := 4) (some 22) rfl rfl (by kernel_rfl) (by kernel_rfl) (by kernel_rfl) (fun _ _ _ _ h => h) rfl hS ?_
    apply Exists.intro
    apply And.intro
    · intro W9 hW9; skip; go_simp; try with_reducible rfl
    simp only [Act.put, List.setIfInBounds_toArray, List.set_cons_zero, List.set_cons_succ]
    refine take1 (i := 5) (some 27) rfl rfl (by kernel_rfl) (by kernel_rfl) (by kernel_rfl) (fun _ _ _ _ h => h) rfl hS ?_
    apply Exists.intro
    apply And.intro
    · intro W9 hW9; skip; go_simp; try with_reducible rfl
    simp only [Act.put, List.setIfInBounds_toArray, List.set_cons_zero, List.set_cons_succ]
    refine take1 (i := 6) (some 28) rfl rfl (by kernel_rfl) (by kernel_rfl) (by kernel_rfl) (fun _ _ _ _ h => h) rfl hS ?_
    apply Exists.intro
    apply And.intro
    · intro W9 hW9; skip; go_simp; try with_reducible rfl
    simp only [Act.put, List.setIfInBounds_toArray, List.set_cons_zero, List.set_cons_succ]
    refine wpAnyH_ready (rs := [7]) (by kernel_rfl) (by simp) ?_
    refine AllReadyH.cons rfl (fun K hK => ?_) ?_
    rw [if_pos (by rfl)]
    refine wp_alloc_new28F 40 rfl (some 10) rfl (zeroFR _) ?_
    intro g10 w6 hg5 hN hbw
    simp only [Act.put, List.setIfInBounds_toArray, List.set_cons_zero, List.set_cons_succ]
    have K10 := Lib.hid hN
    have HG10 := Lib.hid (Nat.le_trans hS.size hg5)
    have NE := Lib.hid (HRD.out.1.off hg5)
    replace HRD := Lib.hid (And.intro (HRD.out.1.mono hbw) HRD.out.2)
    clear hN
    refine hK.out _ _ (hS.trans hbw) (fun hS => ?_)
    clear hK K
    clear hbw hg5
    refine wpAnyH_ready (rs := [8]) (by kernel_rfl) (by simp) ?_
    refine AllReadyH.cons rfl (fun K hK => ?_) ?_
    rw [if_pos (by rfl)]
    refine wp_store_row0 40 _ _ rfl rfl g10 #[.int .i64 tw, .int .i64 4, .slice va L.length vc] rfl rfl 40 #[.int .i64 0, .int .i64 0, .slice none 0 0] K10.out (by kernel_rfl) (by simp) (by simp [Value.oneCell']) ?_
    replace HRD := Lib.hid (And.intro (HRD.out.1.rowOff NE.out #[.int .i64 tw, .int .i64 4, .slice va L.length vc]) HRD.out.2)
    replace K10 := Lib.hid (K10.out.row #[.int .i64 tw, .int .i64 4, .slice va L.length vc])
    have hst := Bw.setRow hS HG10.out #[.int .i64 tw, .int .i64 4, .slice va L.length vc]
    refine hK.out _ _ hst (fun hS => ?_)
    clear hK K
    clear hst
    refine take1 (i := 9) (some 11) rfl rfl (by kernel_rfl) (by kernel_rfl) (by kernel_rfl) (fun _ _ _ _ h => h) rfl hS ?_
    apply Exists.intro
    apply And.intro
    · intro W9 hW9; skip; go_simp; try with_reducible rfl
    simp only [Act.put, List.setIfInBounds_toArray, List.set_cons_zero, List.set_cons_succ]
    refine wpAnyH_done (by kernel_rfl) ?_ _
    rotate_left
    exact AllReadyH.nil
    exact AllReadyH.nil
    refine AllReadyH.cons rfl (fun K hK => ?_) ?_
    rw [if_pos (by rfl)]
    refine wp_alloc_new28F 40 rfl (some 10) rfl (zeroFR _) ?_
    intro g10 w6 hg5 hN hbw
    simp only [Act.put, List.setIfInBounds_toArray, List.set_cons_zero, List.set_cons_succ]
    have K10 := Lib.hid hN
    have HG10 := Lib.hid (Nat.le_trans hS.size hg5)
    clear hN
    refine hK.out _ _ (hS.trans hbw) (fun hS => ?_)
    clear hK K
    clear hbw hg5
    refine wpAnyH_ready (rs := [3]) (by kernel_rfl) (by simp) ?_
    refine AllReadyH.cons rfl (fun K hK => ?_) ?_
    go_simp
    go_wp2_with (go_at_call 16; (with_reducible refine Calls.mono (FO.out _ (HWD.out.bw (HW.out.trans hS))) ?_); rintro e1 wd ⟨⟨vd, rfl, hrd, hfr, hcd⟩, hbw⟩)
    obtain ⟨va, vc, rfl⟩ := hrd.form
    have NE := Lib.hid (hfr.off K10.out.lt L)
    replace K10 := Lib.hid (K10.out.bw hbw)
    have HRD := Lib.hid (And.intro hrd hcd)
    clear hrd hcd hfr
    refine hK.out _ _ (hS.trans hbw) (fun hS => ?_)
    clear hK K
    clear hbw
    refine take1 (i := 4) (some 22) rfl rfl (by kernel_rfl) (by kernel_rfl) (by kernel_rfl) (fun _ _ _ _ h => h) rfl hS ?_
    apply Exists.intro
    apply And.intro
    · intro W9 hW9; skip; go_simp; try with_reducible rfl
    simp only [Act.put, List.setIfInBounds_toArray, List.set_cons_zero, List.set_cons_succ]
    refine take1 (i := 5) (some 27) rfl rfl (by kernel_rfl) (by kernel_rfl) (by kernel_rfl) (fun _ _ _ _ h => h) rfl hS ?_
    apply Exists.intro
    apply And.intro
    · intro W9 hW9; skip; go_simp; try with_reducible rfl
    simp only [Act.put, List.setIfInBounds_toArray, List.set_cons_zero, List.set_cons_succ]
    refine take1 (i := 6) (some 28) rfl rfl (by kernel_rfl) (by kernel_rfl) (by kernel_rfl) (fun _ _ _ _ h => h) rfl hS ?_
    apply Exists.intro
    apply And.intro
    · intro W9 hW9; skip; go_simp; try with_reducible rfl
    simp only [Act.put, List.setIfInBounds_toArray, List.set_cons_zero, List.set_cons_succ]
    refine wpAnyH_ready (rs := [8]) (by kernel_rfl) (by simp) ?_
    refine AllReadyH.cons rfl (fun K hK => ?_) ?_
    rw [if_pos (by rfl)]
    refine wp_store_row0 40 _ _ rfl rfl g10 #[.int .i64 tw, .int .i64 4, .slice va L.length vc] rfl rfl 40 #[.int .i64 0, .int .i64 0, .slice none 0 0] K10.out (by kernel_rfl) (by simp) (by simp [Value.oneCell']) ?_
    replace HRD := Lib.hid (And.intro (HRD.out.1.rowOff NE.out #[.int .i64 tw, .int .i64 4, .slice va L.length vc]) HRD.out.2)
    replace K10 := Lib.hid (K10.out.row #[.int .i64 tw, .int .i64 4, .slice va L.length vc])
    have hst := Bw.setRow hS HG10.out #[.int .i64 tw, .int .i64 4, .slice va L.length vc]
    refine hK.out _ _ hst (fun hS => ?_)
    clear hK K
    clear hst
    refine take1 (i := 9) (some 11) rfl rfl (by kernel_rfl) (by kernel_rfl) (by kernel_rfl) (fun _ _ _ _ h => h) rfl hS ?_
    apply Exists.intro
    apply And.intro
    · intro W9 hW9; skip; go_simp; try with_reducible rfl
    simp only [Act.put, List.setIfInBounds_toArray, List.set_cons_zero, List.set_cons_succ]
    refine wpAnyH_done (by kernel_rfl) ?_ _
    rotate_left
    exact AllReadyH.nil
    exact AllReadyH.nil
    exact AllReadyH.nil
    refine AllReadyH.cons rfl (fun K hK => ?_) ?_
    rw [if_pos (by rfl)]
    refine wp_alloc_new28F 40 rfl (some 10) rfl (zeroFR _) ?_
    intro g10 w6 hg5 hN hbw
    simp only [Act.put, List.setIfInBounds_toArray, List.set_cons_zero, List.set_cons_succ]
    have K10 := Lib.hid hN
    have HG10 := Lib.hid (Nat.le_trans hS.size hg5)
    clear hN
    refine hK.out _ _ (hS.trans hbw) (fun hS => ?_)
    clear hK K
    clear hbw hg5
    refine wpAnyH_ready (rs := [2]) (by kernel_rfl) (by simp) ?_
    refine AllReadyH.cons rfl (fun K hK => ?_) ?_
    go_simp
    go_wp2_with (go_at_call 9; (with_reducible refine Calls.mono (BT.out _) ?_); rintro e1 wd ⟨rfl, hbw⟩)
    replace K10 := Lib.hid (K10.out.bw hbw)
    refine hK.out _ _ (hS.trans hbw) (fun hS => ?_)
    clear hK K
    clear hbw
    refine wpAnyH_ready (rs := [3]) (by kernel_rfl) (by simp) ?_
    refine AllReadyH.cons rfl (fun K hK => ?_) ?_
    go_simp
    go_wp2_with (go_at_call 16; (with_reducible refine Calls.mono (FO.out _ (HWD.out.bw (HW.out.trans hS))) ?_); rintro e1 wd ⟨⟨vd, rfl, hrd, hfr, hcd⟩, hbw⟩)
    obtain ⟨va, vc, rfl⟩ := hrd.form
    have NE := Lib.hid (hfr.off K10.out.lt L)
    replace K10 := Lib.hid (K10.out.bw hbw)
    have HRD := Lib.hid (And.intro hrd hcd)
    clear hrd hcd hfr
    refine hK.out _ _ (hS.trans hbw) (fun hS => ?_)
    clear hK K
    clear hbw
    refine take1 (i := 4) (some 22) rfl rfl (by kernel_rfl) (by kernel_rfl) (by kernel_rfl) (fun _ _ _ _ h => h) rfl hS ?_
    apply Exists.intro
    apply And.intro
    · intro W9 hW9; skip; go_simp; try with_reducible rfl
    simp only [Act.put, List.setIfInBounds_toArray, List.set_cons_zero, List.set_cons_succ]
    refine take1 (i := 5) (some 27) rfl rfl (by kernel_rfl) (by kernel_rfl) (by kernel_rfl) (fun _ _ _ _ h => h) rfl hS ?_
    apply Exists.intro
    apply And.intro
    · intro W9 hW9; skip; go_simp; try with_reducible rfl
    simp only [Act.put, List.setIfInBounds_toArray, List.set_cons_zero, List.set_cons_succ]
    refine take1 (i := 6) (some 28) rfl rfl (by kernel_rfl) (by kernel_rfl) (by kernel_rfl) (fun _ _ _ _ h => h) rfl hS ?_
    apply Exists.intro
    apply And.intro
    · intro W9 hW9; skip; go_simp; try with_reducible rfl
    simp only [Act.put, List.setIfInBounds_toArray, List.set_cons_zero, List.set_cons_succ]
    refine wpAnyH_ready (rs := [8]) (by kernel_rfl) (by simp) ?_
    refine AllReadyH.cons rfl (fun K hK => ?_) ?_
    rw [if_pos (by rfl)]
    refine wp_store_row0 40 _ _ rfl rfl g10 #[.int .i64 tw, .int .i64 4, .slice va L.length vc] rfl rfl 40 #[.int .i64 0, .int .i64 0, .slice none 0 0] K10.out (by kernel_rfl) (by simp) (by simp [Value.oneCell']) ?_
    replace HRD := Lib.hid (And.intro (HRD.out.1.rowOff NE.out #[.int .i64 tw, .int .i64 4, .slice va L.length vc]) HRD.out.2)
    replace K10 := Lib.hid (K10.out.row #[.int .i64 tw, .int .i64 4, .slice va L.length vc])
    have hst := Bw.setRow hS HG10.out #[.int .i64 tw, .int .i64 4, .slice va L.length vc]
    refine hK.out _ _ hst (fun hS => ?_)
    clear hK K
    clear hst
    refine take1 (i := 9) (some 11) rfl rfl (by kernel_rfl) (by kernel_rfl) (by kernel_rfl) (fun _ _ _ _ h => h) rfl hS ?_
    apply Exists.intro
    apply And.intro
    · intro W9 hW9; skip; go_simp; try with_reducible rfl
    simp only [Act.put, List.setIfInBounds_toArray, List.set_cons_zero, List.set_cons_succ]
    refine wpAnyH_done (by kernel_rfl) ?_ _
    rotate_left
    exact AllReadyH.nil
    exact AllReadyH.nil
    exact AllReadyH.nil
    exact AllReadyH.nil
    all_goals
      go_wp2
      go_meet
      exact ⟨g10, va, vc, rfl, rfl, Lib.hid hS, K10, HRD⟩
  case rest =>
    obtain ⟨g10, va, vc, rfl, rfl, hbc, K10, HRD⟩ := hcut
    replace HW := Lib.hid (HW.out.trans hbc.out)
    replace K9 := Lib.hid (K9.out.bw hbc.out)
    clear hbc
    have a0 := K10.out.cell (show (#[.int .i64 tw, .int .i64 4, .slice va L.length vc] : Array Value)[0]? = _ from rfl)
    have a1 := K10.out.cell (show (#[.int .i64 tw, .int .i64 4, .slice va L.length vc] : Array Value)[1]? = _ from rfl)
    have a2 := K10.out.cell (show (#[.int .i64 tw, .int .i64 4, .slice va L.length vc] : Array Value)[2]? = _ from rfl)
    go_upto_region 4 with (first | (go_at_call 25; (with_reducible refine Calls.mono (RB.out _ _ (HWD.out.bw HW.out) HRD.out.1 HRD.out.2) ?_); rintro e1 w3 ⟨rfl, hb1⟩; replace K9 := Lib.hid (K9.out.bw hb1); replace HW := Lib.hid (HW.out.trans hb1); clear hb1) | ((with_reducible refine at_store 27 (.tmp 12) (.tmp 32) ?_); refine wpList_store_row rfl 27 (.tmp 12) (.tmp 32) rfl w3.heap.size A rfl rfl 27 #[.int .i64 0, .int .i64 0, .int .i64 0, .int .i64 0, .int .i64 0, .int .i64 0, .int .i64 0, .int .i64 0, .int .i64 0, .int .i64 0, .int .i64 0, .int .i64 0, .int .i64 0] (Blk.new w3 27 #[.int .i64 0, .int .i64 0, .int .i64 0, .int .i64 0, .int .i64 0, .int .i64 0, .int .i64 0, .int .i64 0, .int .i64 0, .int .i64 0, .int .i64 0, .int .i64 0, .int .i64 0]) HSZ.out HN13.out HPX.out ?_))
    obtain ⟨g12, hg1⟩ : ∃ g12, w3.heap.size = g12 := ⟨_, rfl⟩
    have hb1 := Bw.setRow (Bw.alloc (Bw.refl w3) (.cells #[.int .i64 0, .int .i64 0, .int .i64 0, .int .i64 0, .int .i64 0, .int .i64 0, .int .i64 0, .int .i64 0, .int .i64 0, .int .i64 0, .int .i64 0, .int .i64 0, .int .i64 0] 27)) (Nat.le_of_eq hg1) A
    have K12 := Lib.hid ((Blk.new w3 27 #[.int .i64 0, .int .i64 0, .int .i64 0, .int .i64 0, .int .i64 0, .int .i64 0, .int .i64 0, .int .i64 0, .int .i64 0, .int .i64 0, .int .i64 0, .int .i64 0, .int .i64 0]).row A)
    rw [hg1] at K12 ⊢
    replace K9 := Lib.hid (K9.out.bw hb1)
    replace HW := Lib.hid (HW.out.trans hb1)
    clear hb1 a0 a1 a2 K10 HRD
    generalize World.setRow (World.alloc w3 _) _ _ = z3 at *
    clear hg1
    have hq2 := HQ.out
    have hgg2 := fun W a b op p q => eqPg_guard a b op p q W
    go_upto_region 6 with (first | (go_at_call 22; (with_reducible refine Calls.mono (PK.out _ (HWD.out.bw HW.out)) ?_); rintro e1 w4 ⟨rfl, hb1⟩; replace K9 := Lib.hid (K9.out.bw hb1); replace K12 := Lib.hid (K12.out.bw hb1); replace HW := Lib.hid (HW.out.trans hb1); clear hb1) | ((with_reducible refine at_load 27 (.tmp 9) ?_); refine wpList_load_roww28 27 _ rfl g9 rfl 27 A (0, 0) _ K9.out Tryd.underlying27 rfl HSZ.out (by rfl) ?_) | ((with_reducible refine at_load 27 (.tmp 12) ?_); refine wpList_load_roww28 27 _ rfl g12 rfl 27 A (0, 0) _ K12.out Tryd.underlying27 rfl HSZ.out (by rfl) ?_))
    clear hq2 hgg2 K12
    go_upto_region 7 with (go_at_call 9; (first | (with_reducible refine Calls.mono (B2.out _) ?_) | (with_reducible refine Calls.mono (B3.out _) ?_)); rintro e1 w5 ⟨rfl, hb1⟩; replace K9 := Lib.hid (K9.out.bw hb1); replace HW := Lib.hid (HW.out.trans hb1); clear hb1)
    have hmm := HM1.out.symm
    have hmM2 := HM2.out.symm
    have hr1 : (x1 + m).tmod 604800 = t1 := by rw [Int.tmod_eq_emod_of_nonneg (by omega)]; exact HT.out.1.symm
    have hr2 : (x1 + M).tmod 604800 = t2 := by rw [Int.tmod_eq_emod_of_nonneg (by omega)]; exact HT.out.2.1.symm
    have hr3 : (x1 + 604800 - m).tmod 604800 = t3 := by rw [Int.tmod_eq_emod_of_nonneg (by omega)]; exact HT.out.2.2.symm
    have ht1b : 0 ≤ t1 ∧ t1 < 604800 := by have := HT.out.1; omega
    have ht2b : 0 ≤ t2 ∧ t2 < 604800 := by have := HT.out.2.1; omega
    have ht3b : 0 ≤ t3 ∧ t3 < 604800 := by have := HT.out.2.2; omega
    have l1 := K9.out.cell H1.out
    go_upto_region 8 with (first | ((with_reducible refine at_load 27 (.tmp 9) ?_); refine wpList_load_row rfl 27 _ rfl g9 rfl 27 A (0, 0) _ K9.out Tryd.underlying27 rfl HSZ.out ?_) | (go_at_call 20; (with_reducible refine Calls.mono (E1.out _ (HWD.out.bw HW.out)) ?_); rintro e1 w6 ⟨rfl, hb1⟩; replace K9 := Lib.hid (K9.out.bw hb1); replace l1 := hb1.cell' l1; replace HW := Lib.hid (HW.out.trans hb1); clear hb1))
    go_upto_region 9 with (first | ((with_reducible refine at_load 27 (.tmp 9) ?_); refine wpList_load_row rfl 27 _ rfl g9 rfl 27 A (0, 0) _ K9.out Tryd.underlying27 rfl HSZ.out ?_) | (go_at_call 20; (with_reducible refine Calls.mono (E2.out _ (HWD.out.bw HW.out)) ?_); rintro e1 w7 ⟨rfl, hb1⟩; replace K9 := Lib.hid (K9.out.bw hb1); replace l1 := hb1.cell' l1; replace HW := Lib.hid (HW.out.trans hb1); clear hb1))
    go_upto_region 10 with (first | ((with_reducible refine at_load 27 (.tmp 9) ?_); refine wpList_load_row rfl 27 _ rfl g9 rfl 27 A (0, 0) _ K9.out Tryd.underlying27 rfl HSZ.out ?_) | (go_at_call 20; (with_reducible refine Calls.mono (E3.out _ (HWD.out.bw HW.out)) ?_); rintro e1 w8 ⟨rfl, hb1⟩; replace K9 := Lib.hid (K9.out.bw hb1); replace l1 := hb1.cell' l1; replace HW := Lib.hid (HW.out.trans hb1); clear hb1))
    go_upto_region 11 with (first | ((with_reducible refine at_load 27 (.tmp 9) ?_); refine wpList_load_row rfl 27 _ rfl g9 rfl 27 A (0, 0) _ K9.out Tryd.underlying27 rfl HSZ.out ?_) | (go_at_call 18; (with_reducible refine Calls.mono (A1.out _ (HWD.out.bw HW.out)) ?_); rintro e1 w9 ⟨rfl, hb1⟩; replace K9 := Lib.hid (K9.out.bw hb1); replace l1 := hb1.cell' l1; replace HW := Lib.hid (HW.out.trans hb1); clear hb1))
    obtain ⟨g18, hg1⟩ : ∃ g18, w9.heap.size = g18 := ⟨_, rfl⟩
    have K18 := Lib.hid (Blk.new w9 25 #[.int .i64 (64 * y4), .int .i64 (64 * y7), .int .i64 (64 * y10)])
    have hb1 := Bw.alloc (Bw.refl w9) (.cells #[.int .i64 (64 * y4), .int .i64 (64 * y7), .int .i64 (64 * y10)] 25)
    rw [hg1] at K18 ⊢
    replace K9 := Lib.hid (K9.out.bw hb1)
    replace HW := Lib.hid (HW.out.trans hb1)
    clear hb1 l1 hr1 hr2 hr3 ht1b ht2b ht3b hmm hmM2
    generalize World.alloc w9 _ = z9 at *
    clear hg1
    obtain ⟨hq1, hq2⟩ := HQB.out
    have l2 := K9.out.cell H2.out
    have l4 := K9.out.cell H4.out
    have l7 := K9.out.cell H7.out
    have l10 := K9.out.cell H10.out
    obtain ⟨hl0, hl1, hl2⟩ := HL3.out
    have c0 := K18.out.cell (show (#[.int .i64 (64 * y4), .int .i64 (64 * y7), .int .i64 (64 * y10)] : Array Value)[0]? = _ from rfl)
    have c1 := K18.out.cell (show (#[.int .i64 (64 * y4), .int .i64 (64 * y7), .int .i64 (64 * y10)] : Array Value)[1]? = _ from rfl)
    have c2 := K18.out.cell (show (#[.int .i64 (64 * y4), .int .i64 (64 * y7), .int .i64 (64 * y10)] : Array Value)[2]? = _ from rfl)
    have hq := fun x y z W => eqA_self x y z W
    have hgg := fun W a b op p q => eqA_guard a b op p q W
    go_wp2_with (go_at_call 15; (with_reducible refine Calls.mono (AW.out _ (HWD.out.bw HW.out)) ?_); rintro e1 w11 ⟨rfl, hb1⟩; replace HW := Lib.hid (HW.out.trans hb1); clear hb1)
    go_ret
    exact ⟨rfl, HW.out⟩
end Go.Proofs.Sky
