/-
  lemmas for the theorems of this claim. No conditions beyond those written in the statements.
-/
import Derived.Test.YtcmjcobhobfloaaDoorI27
import Derived.Deep.Cut
import Derived.Test.YtcmjcobhobfloaaDoorBlkC
import Derived.Test.YtcmjcobhobfloaaDoorFA25
set_option linter.unusedVariables false
set_option linter.unusedSimpArgs false
set_option linter.unnecessarySimpa false
namespace Go.Proofs.Sky
open Go Go.RowKit Go.Shelf
set_option maxHeartbeats 4000000
set_option maxRecDepth 8000
/-! chapter 27: AlmanacBack -/
def mn28 (x y : Int) : Int := if y < x then y else x
theorem run_mn28 {P : Program} {w : World} (ts : Array TypeId) (t : TypeId) (k k' : IntKind) (x y : Int) : (Builtin.min_ ts t #[.int k x, .int k' y]).run P w = .ok (.int k (mn28 x y)) w := run_min_int2 w ts t k k' x y
attribute [-go_sem] run_min_int2 run_max_int2
attribute [local go_sem] run_mn28 run_mx28
section
variable {P : Program} {Q : Exit → Act → World → Prop}
theorem wp_alloc_new28F {o : Oper} {a : Act} {w : World} {K : Act → World → Prop} (ty : TypeId) (ho : o.op = .alloc ty) (dst : Option Tmp) (hd : o.dst = dst) (hz : (zeroValue ty).run P w = .ok (.agg #[.int .i64 0, .int .i64 0, .slice none 0 0]) w)
    (h : ∀ g w', w.heap.size ≤ g → Blk w' g ty #[.int .i64 0, .int .i64 0, .slice none 0 0] → Bw w w' → K (a.put dst (.pointer (some ⟨g, 0, none⟩))) w') : o.wp P a w K Q :=
  wp_alloc_agg ty ho dst hd _ hz (h _ _ (Nat.le_refl _) (Blk.new w ty _) (Bw.alloc (Bw.refl w) _))
end
theorem zeroFR (w : World) : (zeroValue 40).run Tryd.prog w = .ok (.agg #[.int .i64 0, .int .i64 0, .slice none 0 0]) w := by kernel_rfl
theorem atQ_zero (l0 l1 l2 : Int) : atQ l0 l1 l2 0 = 64 * l0 := by
  unfold atQ rn
  rw [Int.mul_zero, Int.mul_zero]
  split <;> omega
theorem errTm_in {x : Nat → Int} {t : Int} (h : errPg x = 0) (h0 : 0 ≤ t) (h1 : t < 604800) : errTm x t = 0 := by
  unfold errTm
  rw [if_neg (by omega), if_neg (by omega)]
theorem law_back27 (zs : List Int) (v : Value) (y1 y2 y3 : Int) (w : World) (hv : RdI w v zs) (hw : WdAt w) : Calls Tryd.prog 6 #[v, .int .i64 y1, .int .i64 y2, .int .i64 y3] w fun e w' => e = .returned (.bool true) ∧ Bw w w' := by
  have HWD := Lib.hid hw
  obtain ⟨ad, cap, rfl⟩ := hv.form
  have OF := Lib.hid (of27_any zs _ w hv)
  have hok := ofX27_ok zs
  clear hv hw
  have AW := Lib.hid (fun W h => awake27_any W h)
  have hbt := bel_bd y1 131072 (by decide)
  have hb2 := bel_bd y2 302400 (by decide)
  have hb3 := bel_bd y3 302400 (by decide)
  have BT := Lib.hid (fun W => Below_any y1 131072 W (by decide) (by decide))
  have B2 := Lib.hid (fun W => Below_any y2 302400 W (by decide) (by decide))
  have B3 := Lib.hid (fun W => Below_any y3 302400 W (by decide) (by decide))
  generalize bel y1 131072 = tw at *
  generalize bel y2 302400 = a at *
  generalize bel y3 302400 = b at *
  generalize ofX27 zs = X at *
  obtain ⟨m, hm⟩ : ∃ m, m = mn28 a b := ⟨_, rfl⟩
  obtain ⟨M, hM⟩ : ∃ M, M = mx28 a b := ⟨_, rfl⟩
  have hmM : 0 ≤ m ∧ m ≤ M ∧ M < 302400 := by rw [hm, hM]; unfold mn28 mx28; split <;> split <;> omega
  have HM1 := Lib.hid hm
  have HM2 := Lib.hid hM
  clear hm hM
  obtain ⟨_, hx1, hx2, hx3, _⟩ := pg_lim hok
  have FO := Lib.hid (fun W h => AlFrame_ok X tw W h hok (by omega))
  unfold FrP at FO
  rw [show (packR 206 (fdsS PGL) ((List.range 13).map X)).1 = FrQ X from rfl] at FO
  have RB := Lib.hid (fun W v h hv hc => AlRead_back hok tw (by omega) (by omega) v W h hv hc)
  generalize FrQ X = L at *
  have PK := Lib.hid (fun W h => PgCheck_any X W h)
  rw [hok] at PK
  obtain ⟨t1, ht1⟩ : ∃ t1, t1 = (X 1 + m) % 604800 := ⟨_, rfl⟩
  obtain ⟨t2, ht2⟩ : ∃ t2, t2 = (X 1 + M) % 604800 := ⟨_, rfl⟩
  obtain ⟨t3, ht3⟩ : ∃ t3, t3 = (X 1 + 604800 - m) % 604800 := ⟨_, rfl⟩
  have E1 := Lib.hid (fun W h => AlError_any X t1 W h)
  have E2 := Lib.hid (fun W h => AlError_any X t2 W h)
  have E3 := Lib.hid (fun W h => AlError_any X t3 W h)
  have A1 := Lib.hid (fun W h => AlAt_any X (X 1) W h)
  have r1 : errTm X t1 = 0 := errTm_in hok (by omega) (by omega)
  have r2 : errTm X t2 = 0 := errTm_in hok (by omega) (by omega)
  have r3 : errTm X t3 = 0 := errTm_in hok (by omega) (by omega)
  have r4 : errTm X (X 1) = 0 := errTm_in hok (by omega) (by omega)
  have k1 : arQ (t1 - X 1) = m := by rw [ht1]; unfold arQ; omega
  have k2 : arQ (t2 - X 1) = M := by rw [ht2]; unfold arQ; omega
  have k3 : arQ (t3 - X 1) = -m := by rw [ht3]; unfold arQ; omega
  have k4 : arQ (X 1 - X 1) = 0 := by rw [Int.sub_self]; rfl
  rw [r1, show bdP X t1 = X 2 + (X 3 * m + 3599) / 3600 by unfold bdP bdQ; rw [if_pos r1, k1, show ((m.natAbs : Nat) : Int) = m by omega]] at E1
  rw [r2, show bdP X t2 = X 2 + (X 3 * M + 3599) / 3600 by unfold bdP bdQ; rw [if_pos r2, k2, show ((M.natAbs : Nat) : Int) = M by omega]] at E2
  rw [r3, show bdP X t3 = X 2 + (X 3 * m + 3599) / 3600 by unfold bdP bdQ; rw [if_pos r3, k3, show (((-m).natAbs : Nat) : Int) = m by omega]] at E3
  have kA : ∀ j, atP X (X 1) j = 64 * X (4 + 3 * j) := fun j => by unfold atP; rw [if_pos r4, k4, atQ_zero]
  unfold t3V at A1
  rw [r4, kA 0, kA 1, kA 2] at A1
  have hmul : X 3 * m ≤ X 3 * M := Int.mul_le_mul_of_nonneg_left hmM.2.1 hx3.1
  have hmul0 : 0 ≤ X 3 * m := Int.mul_nonneg hx3.1 hmM.1
  have hq1 : X 2 + (X 3 * m + 3599) / 3600 ≤ X 2 + (X 3 * M + 3599) / 3600 := by omega
  have hq2 : X 2 ≤ X 2 + (X 3 * m + 3599) / 3600 := by omega
  generalize X 2 + (X 3 * m + 3599) / 3600 = b1 at *
  generalize X 2 + (X 3 * M + 3599) / 3600 = b2 at *
  have hT1 := hx1
  have H1 := Lib.hid (show (pgV X)[1]? = some (.int .i64 (X 1)) from rfl)
  have H2 := Lib.hid (show (pgV X)[2]? = some (.int .i64 (X 2)) from rfl)
  have H4 := Lib.hid (show (pgV X)[4]? = some (.int .i64 (X (4 + 3 * 0))) from rfl)
  have H7 := Lib.hid (show (pgV X)[7]? = some (.int .i64 (X (4 + 3 * 1))) from rfl)
  have H10 := Lib.hid (show (pgV X)[10]? = some (.int .i64 (X (4 + 3 * 2))) from rfl)
  have hl := (pg_lim hok).2.2.2.2
  have hl0 := (hl 0 (by omega)).1
  have hl1 := (hl 1 (by omega)).1
  have hl2 := (hl 2 (by omega)).1
  clear hl r1 r2 r3 r4 k1 k2 k3 k4 kA hmul hmul0 hok hx3
  generalize X (4 + 3 * 0) = y4 at *
  generalize X (4 + 3 * 1) = y7 at *
  generalize X (4 + 3 * 2) = y10 at *
  have HQ := Lib.hid (fun W => eqPg_self X W)
  have HSZ : Hid ((Tryd.prog.info? 27).map (·.size) = some (pgV X).size) := Lib.hid (by kernel_rfl)
  have HPX : Hid ((pgV X).all (·.oneCell') = true) := Lib.hid (by simp [Value.oneCell', pgV])
  have HN13 : Hid ((#[.int .i64 0, .int .i64 0, .int .i64 0, .int .i64 0, .int .i64 0, .int .i64 0, .int .i64 0, .int .i64 0, .int .i64 0, .int .i64 0, .int .i64 0, .int .i64 0, .int .i64 0] : Array Value).size = (pgV X).size) := Lib.hid rfl
  obtain ⟨A, hA⟩ : ∃ A, A = pgV X := ⟨_, rfl⟩
  rw [← hA] at OF FO RB PK E1 E2 E3 A1 H1 H2 H4 H7 H10 HQ HSZ HPX HN13
  clear hA
  generalize X 1 = x1 at *
  generalize X 2 = x2 at *
  have HT := Lib.hid (And.intro ht1 (And.intro ht2 ht3))
  have HQB := Lib.hid (And.intro hq1 hq2)
  have HL3 := Lib.hid (And.intro hl0 (And.intro hl1 hl2))
  clear ht1 ht2 ht3 hq1 hq2 hl0 hl1 hl2
  have HW := Lib.hid (Bw.refl w)
  go_enter Tryd.func6, Tryd.ntmps6
  go_upto_region 2 with (first | (go_at_call 10; (with_reducible refine Calls.mono OF.out ?_); rintro e1 w1 ⟨rfl, hb1⟩; replace HW := Lib.hid (HW.out.trans hb1); clear hb1) | ((with_reducible refine at_store 27 (.tmp 9) (.tmp 21) ?_); refine wpList_store_row rfl 27 (.tmp 9) (.tmp 21) rfl w1.heap.size A rfl rfl 27 #[.int .i64 0, .int .i64 0, .int .i64 0, .int .i64 0, .int .i64 0, .int .i64 0, .int .i64 0, .int .i64 0, .int .i64 0, .int .i64 0, .int .i64 0, .int .i64 0, .int .i64 0] (Blk.new w1 27 #[.int .i64 0, .int .i64 0, .int .i64 0, .int .i64 0, .int .i64 0, .int .i64 0, .int .i64 0, .int .i64 0, .int .i64 0, .int .i64 0, .int .i64 0, .int .i64 0, .int .i64 0]) HSZ.out HN13.out HPX.out ?_))
  obtain ⟨g9, hg1⟩ : ∃ g9, w1.heap.size = g9 := ⟨_, rfl⟩
  have hb1 := Bw.setRow (Bw.alloc (Bw.refl w1) (.cells #[.int .i64 0, .int .i64 0, .int .i64 0, .int .i64 0, .int .i64 0, .int .i64 0, .int .i64 0, .int .i64 0, .int .i64 0, .int .i64 0, .int .i64 0, .int .i64 0, .int .i64 0] 27)) (Nat.le_of_eq hg1) A
  have K9 := Lib.hid ((Blk.new w1 27 #[.int .i64 0, .int .i64 0, .int .i64 0, .int .i64 0, .int .i64 0, .int .i64 0, .int .i64 0, .int .i64 0, .int .i64 0, .int .i64 0, .int .i64 0, .int .i64 0, .int .i64 0]).row A)
  rw [hg1] at K9 ⊢
  replace HW := Lib.hid (HW.out.trans hb1)
  clear hb1
  generalize World.setRow (World.alloc w1 _) _ _ = z1 at *
  clear hg1
  (try simp only [Act.put])
  go_cut [10, 11] from 20 (fun s10 s11 wc => ∃ g10 va vc, s10 = .pointer (some ⟨g10, 0, none⟩) ∧ s11 = .int .i64 0 ∧ Hid (Bw z1 wc) ∧ Hid (Blk wc g10 40 #[.int .i64 tw, .int .i64 4, .slice va L.length vc]) ∧ Hid (RdI wc (.slice va L.length vc) L ∧ Capd (.slice va L.length vc)))
  case first =>
    refine wp_region_held_drew (S := Bw z1) (by kernel_rfl) (Bw.drew (Bw.refl _)) (fun hS => ?_)
    generalize World.drew _ = wd at hS ⊢
    refine take1 (i := 0) (some 23) rfl rfl (by kernel_rfl) (by kernel_rfl) (by kernel_rfl) (fun _ _ _ _ h => h) rfl hS ?_
    refine Exists.intro (.agg A) ?_
    apply And.intro
    · intro W9 hW9; skip; exact run_load_row 27 _ rfl g9 rfl 27 A _ (K9.out.bw hW9) Tryd.underlying27 rfl HSZ.out
    simp only [Act.put, List.setIfInBounds_toArray, List.set_cons_zero, List.set_cons_succ]
    refine take1 (i := 1) (some 24) rfl rfl (by kernel_rfl) (by kernel_rfl) (by kernel_rfl) (fun _ _ _ _ h => h) rfl hS ?_
    apply Exists.intro
    apply And.intro
    · intro W9 hW9; skip; go_simp; try with_reducible rfl
    simp only [Act.put, List.setIfInBounds_toArray, List.set_cons_zero, List.set_cons_succ]
    refine wpAnyH_ready (rs := [2, 7]) (by kernel_rfl) (by simp) ?_
    refine AllReadyH.cons rfl (fun K hK => ?_) ?_
    go_simp
    go_wp2_with (go_at_call 9; (with_reducible refine Calls.mono (BT.out _) ?_); rintro e1 wd ⟨rfl, hbw⟩)
    refine hK.out _ _ (hS.trans hbw) (fun hS => ?_)
    clear hK K
    clear hbw
    refine wpAnyH_ready (rs := [3, 7]) (by kernel_rfl) (by simp) ?_
    refine AllReadyH.cons rfl (fun K hK => ?_) ?_
    go_simp
    go_wp2_with (go_at_call 16; (with_reducible refine Calls.mono (FO.out _ (HWD.out.bw (HW.out.trans hS))) ?_); rintro e1 wd ⟨⟨vd, rfl, hrd, hfr, hcd⟩, hbw⟩)
    obtain ⟨va, vc, rfl⟩ := hrd.form
    have HRD := Lib.hid (And.intro hrd hcd)
    clear hrd hcd hfr
    refine hK.out _ _ (hS.trans hbw) (fun hS => ?_)
    clear hK K
    clear hbw
    refine take1 (i := 4) (some 22) rfl rfl (by kernel_rfl) (by kernel_rfl) (by kernel_rfl) (fun _ _ _ _ h => h) rfl hS ?_
    apply Exists.intro
    apply And.intro
    · intro W9 hW9; skip; go_simp; try with_reducible rfl
    simp only [Act.put, List.setIfInBounds_toArray, List.set_cons_zero, List.set_cons_succ]
    refine take1 (i := 5) (some 27) rfl rfl (by kernel_rfl) (by kernel_rfl) (by kernel_rfl) (fun _ _ _ _ h => h) rfl hS ?_
    apply Exists.intro
    apply And.intro
    · intro W9 hW9; skip; go_simp; try with_reducible rfl
    simp only [Act.put, List.setIfInBounds_toArray, List.set_cons_zero, List.set_cons_succ]
    refine take1 (i := 6) (some 28) rfl rfl (by kernel_rfl) (by kernel_rfl) (by kernel_rfl) (fun _ _ _ _ h => h) rfl hS ?_
    apply Exists.intro
    apply And.intro
    · intro W9 hW9; skip; go_simp; try with_reducible rfl
    simp only [Act.put, List.setIfInBounds_toArray, List.set_cons_zero, List.set_cons_succ]
    refine wpAnyH_ready (rs := [7]) (by kernel_rfl) (by simp) ?_
    refine AllReadyH.cons rfl (fun K hK => ?_) ?_
    rw [if_pos (by rfl)]
    refine wp_alloc_new28F 40 rfl (some 10) rfl (zeroFR _) ?_
    intro g10 w6 hg5 hN hbw
    simp only [Act.put, List.setIfInBounds_toArray, List.set_cons_zero, List.set_cons_succ]
    have K10 := Lib.hid hN
    have HG10 := Lib.hid (Nat.le_trans hS.size hg5)
    have NE := Lib.hid (HRD.out.1.off hg5)
    replace HRD := Lib.hid (And.intro (HRD.out.1.mono hbw) HRD.out.2)
    clear hN
    refine hK.out _ _ (hS.trans hbw) (fun hS => ?_)
    clear hK K
    clear hbw hg5
    refine wpAnyH_ready (rs := [8]) (by kernel_rfl) (by simp) ?_
    refine AllReadyH.cons rfl (fun K hK => ?_) ?_
    rw [if_pos (by rfl)]
    refine wp_store_row0 40 _ _ rfl rfl g10 #[.int .i64 tw, .int .i64 4, .slice va L.length vc] rfl rfl 40 #[.int .i64 0, .int .i64 0, .slice none 0 0] K10.out (by kernel_rfl) (by simp) (by simp [Value.oneCell']) ?_
    replace HRD := Lib.hid (And.intro (HRD.out.1.rowOff NE.out #[.int .i64 tw, .int .i64 4, .slice va L.length vc]) HRD.out.2)
    replace K10 := Lib.hid (K10.out.row #[.int .i64 tw, .int .i64 4, .slice va L.length vc])
    have hst := Bw.setRow hS HG10.out #[.int .i64 tw, .int .i64 4, .slice va L.length vc]
    refine hK.out _ _ hst (fun hS => ?_)
    clear hK K
    clear hst
    refine take1 (i := 9) (some 11) rfl rfl (by kernel_rfl) (by kernel_rfl) (by kernel_rfl) (fun _ _ _ _ h => h) rfl hS ?_
    apply Exists.intro
    apply And.intro
    · intro W9 hW9; skip; go_simp; try with_reducible rfl
    simp only [Act.put, List.setIfInBounds_toArray, List.set_cons_zero, List.set_cons_succ]
    refine wpAnyH_done (by kernel_rfl) ?_ _
    rotate_left
    exact AllReadyH.nil
    exact AllReadyH.nil
    refine AllReadyH.cons rfl (fun K hK => ?_) ?_
    rw [if_pos (by rfl)]
    refine wp_alloc_new28F 40 rfl (some 10) rfl (zeroFR _) ?_
    intro g10 w6 hg5 hN hbw
    simp only [Act.put, List.setIfInBounds_toArray, List.set_cons_zero, List.set_cons_succ]
    have K10 := Lib.hid hN
    have HG10 := Lib.hid (Nat.le_trans hS.size hg5)
    clear hN
    refine hK.out _ _ (hS.trans hbw) (fun hS => ?_)
    clear hK K
    clear hbw hg5
    refine wpAnyH_ready (rs := [3]) (by kernel_rfl) (by simp) ?_
    refine AllReadyH.cons rfl (fun K hK => ?_) ?_
    go_simp
    go_wp2_with (go_at_call 16; (with_reducible refine Calls.mono (FO.out _ (HWD.out.bw (HW.out.trans hS))) ?_); rintro e1 wd ⟨⟨vd, rfl, hrd, hfr, hcd⟩, hbw⟩)
    obtain ⟨va, vc, rfl⟩ := hrd.form
    have NE := Lib.hid (hfr.off K10.out.lt L)
    replace K10 := Lib.hid (K10.out.bw hbw)
    have HRD := Lib.hid (And.intro hrd hcd)
    clear hrd hcd hfr
    refine hK.out _ _ (hS.trans hbw) (fun hS => ?_)
    clear hK K
    clear hbw
    refine take1 (i := 4) (some 22) rfl rfl (by kernel_rfl) (by kernel_rfl) (by kernel_rfl) (fun _ _ _ _ h => h) rfl hS ?_
    apply Exists.intro
    apply And.intro
    · intro W9 hW9; skip; go_simp; try with_reducible rfl
    simp only [Act.put, List.setIfInBounds_toArray, List.set_cons_zero, List.set_cons_succ]
    refine take1 (i := 5) (some 27) rfl rfl (by kernel_rfl) (by kernel_rfl) (by kernel_rfl) (fun _ _ _ _ h => h) rfl hS ?_
    apply Exists.intro
    apply And.intro
    · intro W9 hW9; skip; go_simp; try with_reducible rfl
    simp only [Act.put, List.setIfInBounds_toArray, List.set_cons_zero, List.set_cons_succ]
    refine take1 (i := 6) (some 28) rfl rfl (by kernel_rfl) (by kernel_rfl) (by kernel_rfl) (fun _ _ _ _ h => h) rfl hS ?_
    apply Exists.intro
    apply And.intro
    · intro W9 hW9; skip; go_simp; try with_reducible rfl
    simp only [Act.put, List.setIfInBounds_toArray, List.set_cons_zero, List.set_cons_succ]
    refine wpAnyH_ready (rs := [8]) (by kernel_rfl) (by simp) ?_
    refine AllReadyH.cons rfl (fun K hK => ?_) ?_
    rw [if_pos (by rfl)]
    refine wp_store_row0 40 _ _ rfl rfl g10 #[.int .i64 tw, .int .i64 4, .slice va L.length vc] rfl rfl 40 #[.int .i64 0, .int .i64 0, .slice none 0 0] K10.out (by kernel_rfl) (by simp) (by simp [Value.oneCell']) ?_
    replace HRD := Lib.hid (And.intro (HRD.out.1.rowOff NE.out #[.int .i64 tw, .int .i64 4, .slice va L.length vc]) HRD.out.2)
    replace K10 := Lib.hid (K10.out.row #[.int .i64 tw, .int .i64 4, .slice va L.length vc])
    have hst := Bw.setRow hS HG10.out #[.int .i64 tw, .int .i64 4, .slice va L.length vc]
    refine hK.out _ _ hst (fun hS => ?_)
    clear hK K
    clear hst
    refine take1 (i := 9) (some 11) rfl rfl (by kernel_rfl) (by kernel_rfl) (by kernel_rfl) (fun _ _ _ _ h => h) rfl hS ?_
    apply Exists.intro
    apply And.intro
    · intro W9 hW9; skip; go_simp; try with_reducible rfl
    simp only [Act.put, List.setIfInBounds_toArray, List.set_cons_zero, List.set_cons_succ]
    refine wpAnyH_done (by kernel_rfl) ?_ _
    rotate_left
    exact AllReadyH.nil
    exact AllReadyH.nil
    exact AllReadyH.nil
    refine AllReadyH.cons rfl (fun K hK => ?_) ?_
    rw [if_pos (by rfl)]
    refine wp_alloc_new28F 40 rfl (some 10) rfl (zeroFR _) ?_
    intro g10 w6 hg5 hN hbw
    simp only [Act.put, List.setIfInBounds_toArray, List.set_cons_zero, List.set_cons_succ]
    have K10 := Lib.hid hN
    have HG10 := Lib.hid (Nat.le_trans hS.size hg5)
    clear hN
    refine hK.out _ _ (hS.trans hbw) (fun hS => ?_)
    clear hK K
    clear hbw hg5
    refine wpAnyH_ready (rs := [2]) (by kernel_rfl) (by simp) ?_
    refine AllReadyH.cons rfl (fun K hK => ?_) ?_
    go_simp
    go_wp2_with (go_at_call 9; (with_reducible refine Calls.mono (BT.out _) ?_); rintro e1 wd ⟨rfl, hbw⟩)
    replace K10 := Lib.hid (K10.out.bw hbw)
    refine hK.out _ _ (hS.trans hbw) (fun hS => ?_)
    clear hK K
    clear hbw
    refine wpAnyH_ready (rs := [3]) (by kernel_rfl) (by simp) ?_
    refine AllReadyH.cons rfl (fun K hK => ?_) ?_
    go_simp
    go_wp2_with (go_at_call 16; (with_reducible refine Calls.mono (FO.out _ (HWD.out.bw (HW.out.trans hS))) ?_); rintro e1 wd ⟨⟨vd, rfl, hrd, hfr, hcd⟩, hbw⟩)
    obtain ⟨va, vc, rfl⟩ := hrd.form
    have NE := Lib.hid (hfr.off K10.out.lt L)
    replace K10 := Lib.hid (K10.out.bw hbw)
    have HRD := Lib.hid (And.intro hrd hcd)
    clear hrd hcd hfr
    refine hK.out _ _ (hS.trans hbw) (fun hS => ?_)
    clear hK K
    clear hbw
    refine take1 (i := 4) (some 22) rfl rfl (by kernel_rfl) (by kernel_rfl) (by kernel_rfl) (fun _ _ _ _ h => h) rfl hS ?_
    apply Exists.intro
    apply And.intro
    · intro W9 hW9; skip; go_simp; try with_reducible rfl
    simp only [Act.put, List.setIfInBounds_toArray, List.set_cons_zero, List.set_cons_succ]
    refine take1 (i := 5) (some 27) rfl rfl (by kernel_rfl) (by kernel_rfl) (by kernel_rfl) (fun _ _ _ _ h => h) rfl hS ?_
    apply Exists.intro
    apply And.intro
    · intro W9 hW9; skip; go_simp; try with_reducible rfl
    simp only [Act.put, List.setIfInBounds_toArray, List.set_cons_zero, List.set_cons_succ]
    refine take1 (i := 6) (some 28) rfl rfl (by kernel_rfl) (by kernel_rfl) (by kernel_rfl) (fun _ _ _ _ h => h) rfl hS ?_
    apply Exists.intro
    apply And.intro
    · intro W9 hW9; skip; go_simp; try with_reducible rfl
    simp only [Act.put, List.setIfInBounds_toArray, List.set_cons_zero, List.set_cons_succ]
    refine wpAnyH_ready (rs := [8]) (by kernel_rfl) (by simp) ?_
    refine AllReadyH.cons rfl (fun K hK => ?_) ?_
    rw [if_pos (by rfl)]
    refine wp_store_row0 40 _ _ rfl rfl g10 #[.int .i64 tw, .int .i64 4, .slice va L.length vc] rfl rfl 40 #[.int .i64 0, .int .i64 0, .slice none 0 0] K10.out (by kernel_rfl) (by simp) (by simp [Value.oneCell']) ?_
    replace HRD := Lib.hid (And.intro (HRD.out.1.rowOff NE.out #[.int .i64 tw, .int .i64 4, .slice va L.length vc]) HRD.out.2)
    replace K10 := Lib.hid (K10.out.row #[.int .i64 tw, .int .i64 4, .slice va L.length vc])
    have hst := Bw.setRow hS HG10.out #[.int .i64 tw, .int .i64 4, .slice va L.length vc]
    refine hK.out _ _ hst (fun hS => ?_)
    clear hK K
    clear hst
    refine take1 (i := 9) (some 11) rfl rfl (by kernel_rfl) (by kernel_rfl) (by kernel_rfl) (fun _ _ _ _ h => h) rfl hS ?_
    apply Exists.intro
    apply And.intro
    · intro W9 hW9; skip; go_simp; try with_reducible rfl
    simp only [Act.put, List.setIfInBounds_toArray, List.set_cons_zero, List.set_cons_succ]
    refine wpAnyH_done (by kernel_rfl) ?_ _
    rotate_left
    exact AllReadyH.nil
    exact AllReadyH.nil
    exact AllReadyH.nil
    exact AllReadyH.nil
    all_goals
      go_wp2
      go_meet
      exact ⟨g10, va, vc, rfl, rfl, Lib.hid hS, K10, HRD⟩
  case rest =>
    obtain ⟨g10, va, vc, rfl, rfl, hbc, K10, HRD⟩ := hcut
    replace HW := Lib.hid (HW.out.trans hbc.out)
    replace K9 := Lib.hid (K9.out.bw hbc.out)
    clear hbc
    have a0 := K10.out.cell (show (#[.int .i64 tw, .int .i64 4, .slice va L.length vc] : Array Value)[0]? = _ from rfl)
    have a1 := K10.out.cell (show (#[.int .i64 tw, .int .i64 4, .slice va L.length vc] : Array Value)[1]? = _ from rfl)
    have a2 := K10.out.cell (show (#[.int .i64 tw, .int .i64 4, .slice va L.length vc] : Array Value)[2]? = _ from rfl)
    go_upto_region 4 with (first | (go_at_call 25; (with_reducible refine Calls.mono (RB.out _ _ (HWD.out.bw HW.out) HRD.out.1 HRD.out.2) ?_); rintro e1 w3 ⟨rfl, hb1⟩; replace K9 := Lib.hid (K9.out.bw hb1); replace HW := Lib.hid (HW.out.trans hb1); clear hb1) | ((with_reducible refine at_store 27 (.tmp 12) (.tmp 32) ?_); refine wpList_store_row rfl 27 (.tmp 12) (.tmp 32) rfl w3.heap.size A rfl rfl 27 #[.int .i64 0, .int .i64 0, .int .i64 0, .int .i64 0, .int .i64 0, .int .i64 0, .int .i64 0, .int .i64 0, .int .i64 0, .int .i64 0, .int .i64 0, .int .i64 0, .int .i64 0] (Blk.new w3 27 #[.int .i64 0, .int .i64 0, .int .i64 0, .int .i64 0, .int .i64 0, .int .i64 0, .int .i64 0, .int .i64 0, .int .i64 0, .int .i64 0, .int .i64 0, .int .i64 0, .int .i64 0]) HSZ.out HN13.out HPX.out ?_))
    obtain ⟨g12, hg1⟩ : ∃ g12, w3.heap.size = g12 := ⟨_, rfl⟩
    have hb1 := Bw.setRow (Bw.alloc (Bw.refl w3) (.cells #[.int .i64 0, .int .i64 0, .int .i64 0, .int .i64 0, .int .i64 0, .int .i64 0, .int .i64 0, .int .i64 0, .int .i64 0, .int .i64 0, .int .i64 0, .int .i64 0, .int .i64 0] 27)) (Nat.le_of_eq hg1) A
    have K12 := Lib.hid ((Blk.new w3 27 #[.int .i64 0, .int .i64 0, .int .i64 0, .int .i64 0, .int .i64 0, .int .i64 0, .int .i64 0, .int .i64 0, .int .i64 0, .int .i64 0, .int .i64 0, .int .i64 0, .int .i64 0]).row A)
    rw [hg1] at K12 ⊢
    replace K9 := Lib.hid (K9.out.bw hb1)
    replace HW := Lib.hid (HW.out.trans hb1)
    clear hb1 a0 a1 a2 K10 HRD
    generalize World.setRow (World.alloc w3 _) _ _ = z3 at *
    clear hg1
    have hq2 := HQ.out
    have hgg2 := fun W a b op p q => eqPg_guard a b op p q W
    go_upto_region 6 with (first | (go_at_call 22; (with_reducible refine Calls.mono (PK.out _ (HWD.out.bw HW.out)) ?_); rintro e1 w4 ⟨rfl, hb1⟩; replace K9 := Lib.hid (K9.out.bw hb1); replace K12 := Lib.hid (K12.out.bw hb1); replace HW := Lib.hid (HW.out.trans hb1); clear hb1) | ((with_reducible refine at_load 27 (.tmp 9) ?_); refine wpList_load_roww28 27 _ rfl g9 rfl 27 A (0, 0) _ K9.out Tryd.underlying27 rfl HSZ.out (by rfl) ?_) | ((with_reducible refine at_load 27 (.tmp 12) ?_); refine wpList_load_roww28 27 _ rfl g12 rfl 27 A (0, 0) _ K12.out Tryd.underlying27 rfl HSZ.out (by rfl) ?_))
    clear hq2 hgg2 K12
    go_upto_region 7 with (go_at_call 9; (first | (with_reducible refine Calls.mono (B2.out _) ?_) | (with_reducible refine Calls.mono (B3.out _) ?_)); rintro e1 w5 ⟨rfl, hb1⟩; replace K9 := Lib.hid (K9.out.bw hb1); replace HW := Lib.hid (HW.out.trans hb1); clear hb1)
    have hmm := HM1.out.symm
    have hmM2 := HM2.out.symm
    have hr1 : (x1 + m).tmod 604800 = t1 := by rw [Int.tmod_eq_emod_of_nonneg (by omega)]; exact HT.out.1.symm
    have hr2 : (x1 + M).tmod 604800 = t2 := by rw [Int.tmod_eq_emod_of_nonneg (by omega)]; exact HT.out.2.1.symm
    have hr3 : (x1 + 604800 - m).tmod 604800 = t3 := by rw [Int.tmod_eq_emod_of_nonneg (by omega)]; exact HT.out.2.2.symm
    have ht1b : 0 ≤ t1 ∧ t1 < 604800 := by have := HT.out.1; omega
    have ht2b : 0 ≤ t2 ∧ t2 < 604800 := by have := HT.out.2.1; omega
    have ht3b : 0 ≤ t3 ∧ t3 < 604800 := by have := HT.out.2.2; omega
    have l1 := K9.out.cell H1.out
    go_upto_region 8 with (first | ((with_reducible refine at_load 27 (.tmp 9) ?_); refine wpList_load_row rfl 27 _ rfl g9 rfl 27 A (0, 0) _ K9.out Tryd.underlying27 rfl HSZ.out ?_) | (go_at_call 20; (with_reducible refine Calls.mono (E1.out _ (HWD.out.bw HW.out)) ?_); rintro e1 w6 ⟨rfl, hb1⟩; replace K9 := Lib.hid (K9.out.bw hb1); replace l1 := hb1.cell' l1; replace HW := Lib.hid (HW.out.trans hb1); clear hb1))
    go_upto_region 9 with (first | ((with_reducible refine at_load 27 (.tmp 9) ?_); refine wpList_load_row rfl 27 _ rfl g9 rfl 27 A (0, 0) _ K9.out Tryd.underlying27 rfl HSZ.out ?_) | (go_at_call 20; (with_reducible refine Calls.mono (E2.out _ (HWD.out.bw HW.out)) ?_); rintro e1 w7 ⟨rfl, hb1⟩; replace K9 := Lib.hid (K9.out.bw hb1); replace l1 := hb1.cell' l1; replace HW := Lib.hid (HW.out.trans hb1); clear hb1))
    go_upto_region 10 with (first | ((with_reducible refine at_load 27 (.tmp 9) ?_); refine wpList_load_row rfl 27 _ rfl g9 rfl 27 A (0, 0) _ K9.out Tryd.underlying27 rfl HSZ.out ?_) | (go_at_call 20; (with_reducible refine Calls.mono (E3.out _ (HWD.out.bw HW.out)) ?_); rintro e1 w8 ⟨rfl, hb1⟩; replace K9 := Lib.hid (K9.out.bw hb1); replace l1 := hb1.cell' l1; replace HW := Lib.hid (HW.out.trans hb1); clear hb1))
    go_upto_region 11 with (first | ((with_reducible refine at_load 27 (.tmp 9) ?_); refine wpList_load_row rfl 27 _ rfl g9 rfl 27 A (0, 0) _ K9.out Tryd.underlying27 rfl HSZ.out ?_) | (go_at_call 18; (with_reducible refine Calls.mono (A1.out _ (HWD.out.bw HW.out)) ?_); rintro e1 w9 ⟨rfl, hb1⟩; replace K9 := Lib.hid (K9.out.bw hb1); replace l1 := hb1.cell' l1; replace HW := Lib.hid (HW.out.trans hb1); clear hb1))
    obtain ⟨g18, hg1⟩ : ∃ g18, w9.heap.size = g18 := ⟨_, rfl⟩
    have K18 := Lib.hid (Blk.new w9 25 #[.int .i64 (64 * y4), .int .i64 (64 * y7), .int .i64 (64 * y10)])
    have hb1 := Bw.alloc (Bw.refl w9) (.cells #[.int .i64 (64 * y4), .int .i64 (64 * y7), .int .i64 (64 * y10)] 25)
    rw [hg1] at K18 ⊢
    replace K9 := Lib.hid (K9.out.bw hb1)
    replace HW := Lib.hid (HW.out.trans hb1)
    clear hb1 l1 hr1 hr2 hr3 ht1b ht2b ht3b hmm hmM2
    generalize World.alloc w9 _ = z9 at *
    clear hg1
    obtain ⟨hq1, hq2⟩ := HQB.out
    have l2 := K9.out.cell H2.out
    have l4 := K9.out.cell H4.out
    have l7 := K9.out.cell H7.out
    have l10 := K9.out.cell H10.out
    obtain ⟨hl0, hl1, hl2⟩ := HL3.out
    have c0 := K18.out.cell (show (#[.int .i64 (64 * y4), .int .i64 (64 * y7), .int .i64 (64 * y10)] : Array Value)[0]? = _ from rfl)
    have c1 := K18.out.cell (show (#[.int .i64 (64 * y4), .int .i64 (64 * y7), .int .i64 (64 * y10)] : Array Value)[1]? = _ from rfl)
    have c2 := K18.out.cell (show (#[.int .i64 (64 * y4), .int .i64 (64 * y7), .int .i64 (64 * y10)] : Array Value)[2]? = _ from rfl)
    have hq := fun x y z W => eqA_self x y z W
    have hgg := fun W a b op p q => eqA_guard a b op p q W
    go_wp2_with (go_at_call 15; (with_reducible refine Calls.mono (AW.out _ (HWD.out.bw HW.out)) ?_); rintro e1 w11 ⟨rfl, hb1⟩; replace HW := Lib.hid (HW.out.trans hb1); clear hb1)
    go_ret
    exact ⟨rfl, HW.out⟩
end Go.Proofs.Sky

namespace Go.Proofs.Sky
open Go Go.RowKit Go.Shelf
set_option maxHeartbeats 2000000
set_option maxRecDepth 8000
/-! chapter 27: rows of pages -/
def pgc (x : Nat → Int) : List Value := (pgV x).toList
theorem pgc_len (x : Nat → Int) : (pgc x).length = 13 := rfl
theorem pgc_arr (x : Nat → Int) : (pgc x).toArray = pgV x := rfl
theorem pgc_at (x : Nat → Int) (j : Nat) (hj : j < 13) : (pgc x)[j]? = some (.int .i64 (x j)) := by
  have : j = 0 ∨ j = 1 ∨ j = 2 ∨ j = 3 ∨ j = 4 ∨ j = 5 ∨ j = 6 ∨ j = 7 ∨ j = 8 ∨ j = 9 ∨ j = 10 ∨ j = 11 ∨ j = 12 := by omega
  rcases this with rfl | rfl | rfl | rfl | rfl | rfl | rfl | rfl | rfl | rfl | rfl | rfl | rfl <;> rfl
theorem pgc_one (x : Nat → Int) : ∀ u ∈ pgc x, u.oneCell' = true := fun u hu => by
  simp only [pgc, pgV, List.mem_cons, List.not_mem_nil, or_false] at hu
  rcases hu with rfl | rfl | rfl | rfl | rfl | rfl | rfl | rfl | rfl | rfl | rfl | rfl | rfl <;> rfl
def flatG (ps : List (Nat → Int)) : List Value := ps.flatMap pgc
theorem flatG_append (fs gs : List (Nat → Int)) : flatG (fs ++ gs) = flatG fs ++ flatG gs := by simp [flatG]
theorem flatG_one (f : Nat → Int) : flatG [f] = pgc f := by simp [flatG]
theorem flatG_cons (f : Nat → Int) (r : List (Nat → Int)) : flatG (f :: r) = pgc f ++ flatG r := rfl
theorem flatG_len (fs : List (Nat → Int)) : (flatG fs).length = fs.length * 13 := by
  induction fs with
  | nil => rfl
  | cons f r ih => rw [flatG_cons, List.length_append, ih, List.length_cons, pgc_len]; omega
theorem flatG_one' (fs : List (Nat → Int)) : ∀ u ∈ flatG fs, u.oneCell' = true := fun u hu => by
  obtain ⟨x, _, h⟩ := List.mem_flatMap.1 hu
  exact pgc_one x u h
theorem flatG_at (fs : List (Nat → Int)) : ∀ (i : Nat) (f : Nat → Int), fs[i]? = some f → ∀ j, j < 13 → (flatG fs)[i * 13 + j]? = (pgc f)[j]? := by
  induction fs with
  | nil => intro i f h; simp at h
  | cons g r ih =>
    intro i f h j hj
    rw [flatG_cons]
    cases i with
    | zero =>
      simp only [List.getElem?_cons_zero, Option.some.injEq] at h
      subst h
      rw [List.getElem?_append_left (by rw [pgc_len]; omega)]
      congr 1; omega
    | succ i =>
      rw [List.getElem?_cons_succ] at h
      rw [List.getElem?_append_right (by rw [pgc_len]; omega)]
      rw [← ih i f h j hj]
      congr 1; rw [pgc_len]; omega
theorem flatG_take (fs : List (Nat → Int)) : ∀ k, flatG (fs.take k) = (flatG fs).take (k * 13) := by
  induction fs with
  | nil => intro k; simp [flatG]
  | cons g r ih =>
    intro k
    cases k with
    | zero => simp [flatG]
    | succ k =>
      rw [List.take_succ_cons, flatG_cons, flatG_cons, ih, List.take_append, pgc_len, List.take_of_length_le (l := pgc g) (by rw [pgc_len]; omega), show (k + 1) * 13 - 13 = k * 13 by omega]
theorem flatG_drop (fs : List (Nat → Int)) : ∀ k, flatG (fs.drop k) = (flatG fs).drop (k * 13) := by
  induction fs with
  | nil => intro k; simp [flatG]
  | cons g r ih =>
    intro k
    cases k with
    | zero => simp
    | succ k =>
      rw [List.drop_succ_cons, flatG_cons, ih, List.drop_append, pgc_len, show List.drop ((k + 1) * 13) (pgc g) = [] from List.drop_eq_nil_of_le (by rw [pgc_len]; omega), List.nil_append, show (k + 1) * 13 - 13 = k * 13 by omega]
def RdG (w : World) (v : Value) (ps : List (Nat → Int)) : Prop :=
  ps.length ≤ 9223372036854775807 ∧ ∃ a cap, v = .slice a ps.length cap ∧ (ps = [] ∨ ∃ b off, a = some ⟨b, off, none⟩ ∧ b < w.heap.size ∧ ∀ i x, ps[i]? = some x → w.rangeAt b (off + i * 13) (pgc x))
theorem RdG.mono {w w' : World} {v : Value} {fs : List (Nat → Int)} (h : RdG w v fs) (hb : Bw w w') : RdG w' v fs := by
  obtain ⟨h2, a, cap, h3, h4⟩ := h
  refine ⟨h2, a, cap, h3, ?_⟩
  rcases h4 with h4 | ⟨b, off, h5, h6, h7⟩
  · exact .inl h4
  · exact .inr ⟨b, off, h5, Nat.lt_of_lt_of_le h6 hb.size, fun i f hi j u hu => hb.cell' (h7 i f hi j u hu)⟩
theorem RdG.form {w : World} {v : Value} {fs : List (Nat → Int)} (h : RdG w v fs) : ∃ a c, v = .slice a fs.length c := by obtain ⟨_, a, c, h, _⟩ := h; exact ⟨a, c, h⟩
theorem RdG.nil (w : World) : RdG w (.slice none 0 0) [] := ⟨by simp, none, 0, rfl, .inl rfl⟩
theorem RdG.at {w : World} {v : Value} {ps : List (Nat → Int)} (h : RdG w v ps) (h0 : 0 < ps.length) : ∃ b off c, v = .slice (some ⟨b, off, none⟩) ps.length c ∧ b < w.heap.size ∧ ∀ i x, ps[i]? = some x → w.rangeAt b (off + i * 13) (pgc x) := by
  obtain ⟨_, a, c, hv, h4⟩ := h
  rcases h4 with rfl | ⟨b, off, rfl, h6, h7⟩
  · simp at h0
  · exact ⟨b, off, c, hv, h6, h7⟩
theorem own_rdG {w : World} {base : Nat} {e : TypeId} {v : Value} {fs : List (Nat → Int)} (h : w.ownsRow base e 13 v fs.length (flatG fs)) (hn : fs.length ≤ 9223372036854775807) : RdG w v fs ∧ Fresh base v := by
  have h' := h
  rcases h'.2 with ⟨rfl, h2⟩ | ⟨g, cap, cur, rfl, hg, hh, _⟩
  · obtain rfl : fs = [] := List.length_eq_zero_iff.1 h2
    exact ⟨RdG.nil w, Fresh.nil _ _ _⟩
  · refine ⟨⟨hn, some ⟨g, 0, none⟩, cap, rfl, .inr ⟨g, 0, rfl, (Array.getElem?_eq_some_iff.1 hh).1, fun i f hi j u hu => ?_⟩⟩, Fresh.at hg⟩
    have hil : i < fs.length := (List.getElem?_eq_some_iff.1 hi).1
    have hj : j < 13 := (List.getElem?_eq_some_iff.1 hu).1
    rw [Nat.zero_add]
    exact (h.cellAt (i * 13 + j) (by omega)).trans ((flatG_at fs i f hi j hj).trans hu)
theorem infoPg : (Tryd.prog.info? 27).map (fun i => (i.zero, i.size, i.bytes)) = some (some (.agg #[.int .i64 0, .int .i64 0, .int .i64 0, .int .i64 0, .int .i64 0, .int .i64 0, .int .i64 0, .int .i64 0, .int .i64 0, .int .i64 0, .int .i64 0, .int .i64 0, .int .i64 0]), 13, 104) := by kernel_rfl
section
variable {ops : Array Oper} {rest : List Oper} {o : Oper} {a : Act} {w : World} {K : Act → World → Prop} {Q : Exit → Act → World → Prop}
theorem rg_news {w : World} {b off : Nat} {cs : List Value} (hb : w.rangeAt b off cs) : ∀ (j : Nat) (u : Value), cs[j]? = some u → w.cell? ((⟨b, off, none⟩ : Addr).add j) = some u := fun j u hu => by
  rw [Addr.add_mid]; exact hb j u hu
theorem blk_rg {w : World} {b : Nat} {T : TypeId} {cs : List Value} (hb : Blk w b T cs.toArray) : w.rangeAt b 0 cs := fun j u hu => by
  rw [Nat.zero_add]; exact hb.cell (j := j) (v := u) (by simpa using hu)
/-- a row of pages behind a row of the call's own -/
theorem wp_append_pgs (s x : Operand) (t : TypeId)
    (ho : o.op = .call { callee := .builtin .append, args := #[s, x], argTypes := #[t, t] }) (dst : Option Tmp) (hd : o.dst = dst)
    (base : Nat) (ht : Tryd.prog.underlying t = some (.slice 27))
    (v : Value) (fs gs : List (Nat → Int)) (hs : a.eval s = v) (hown : w.ownsRow base 27 13 v fs.length (flatG fs))
    (b off c : Nat) (hx : a.eval x = .slice (some ⟨b, off, none⟩) gs.length c) (hb : ∀ i x, gs[i]? = some x → w.rangeAt b (off + i * 13) (pgc x))
    (hn : fs.length + gs.length ≤ 1000000) (hbase : base ≤ w.heap.size)
    (h : ∀ v' w', w'.ownsRow base 27 13 v' (fs ++ gs).length (flatG (fs ++ gs)) → w.grownBy w' v.ownBlock → (v' = .slice none 0 0 ↔ v = .slice none 0 0 ∧ gs.length = 0) → K (a.put dst v') w') : o.wp Tryd.prog a w K Q := by
  subst hd
  obtain ⟨i, hi, hzz⟩ := Option.map_eq_some_iff.1 infoPg
  simp only [Prod.mk.injEq] at hzz
  obtain ⟨hz0, hz1, hz2⟩ := hzz
  refine wp_append_own w s x t ho base 27 i _ 13 104 ht hi hz0 hz1 hz2 rfl (by decide) v fs.length (flatG fs) hs hown ⟨b, off, none⟩ gs.length c (flatG gs) hx (flatG_len gs) (fun j u hu => ?_) (flatG_one' gs) (by unfold maxLen; omega) (by omega) hbase (fun v' w' h2 h3 h4 => h v' w' ?_ h3 h4)
  · have hj : j < gs.length * 13 := by have := (List.getElem?_eq_some_iff.1 hu).1; rwa [flatG_len] at this
    have hq : j / 13 < gs.length := by omega
    have hf := flatG_at gs (j / 13) _ (List.getElem?_eq_getElem hq) (j % 13) (by omega)
    rw [show j / 13 * 13 + j % 13 = j by omega, hu] at hf
    rw [Addr.add_mid]
    have h9 := hb (j / 13) _ (List.getElem?_eq_getElem hq) (j % 13) u hf.symm
    rwa [show off + j / 13 * 13 + j % 13 = off + j by omega] at h9
  · rw [flatG_append, List.length_append]; exact h2
theorem wpList_append_pgs (hgd : o.guard = none) (s x : Operand) (t : TypeId)
    (ho : o.op = .call { callee := .builtin .append, args := #[s, x], argTypes := #[t, t] })
    (base : Nat) (ht : Tryd.prog.underlying t = some (.slice 27))
    (v : Value) (fs gs : List (Nat → Int)) (hs : a.eval s = v) (hown : w.ownsRow base 27 13 v fs.length (flatG fs))
    (b off c : Nat) (hx : a.eval x = .slice (some ⟨b, off, none⟩) gs.length c) (hb : ∀ i x, gs[i]? = some x → w.rangeAt b (off + i * 13) (pgc x))
    (hn : fs.length + gs.length ≤ 1000000) (hbase : base ≤ w.heap.size)
    (h : ∀ v' w', w'.ownsRow base 27 13 v' (fs ++ gs).length (flatG (fs ++ gs)) → w.grownBy w' v.ownBlock → (v' = .slice none 0 0 ↔ v = .slice none 0 0 ∧ gs.length = 0) → wpList Tryd.prog ops Q rest (a.put o.dst v') w') : wpList Tryd.prog ops Q (o :: rest) a w :=
  wpList_plain hgd fun _ hK => wp_append_pgs s x t ho o.dst rfl base ht v fs gs hs hown b off c hx hb hn hbase (fun v' w' h1 h2 h3 => hK _ _ (h v' w' h1 h2 h3))
theorem wpList_append_none (hgd : o.guard = none) (s x : Operand) (t : TypeId)
    (ho : o.op = .call { callee := .builtin .append, args := #[s, x], argTypes := #[t, t] })
    (base : Nat) (ht : Tryd.prog.underlying t = some (.slice 27))
    (v : Value) (fs : List (Nat → Int)) (hs : a.eval s = v) (hown : w.ownsRow base 27 13 v fs.length (flatG fs))
    (ad : Addr) (c : Nat) (hx : a.eval x = .slice (some ad) 0 c)
    (hn : fs.length ≤ 1000000) (hbase : base ≤ w.heap.size)
    (h : ∀ v' w', w'.ownsRow base 27 13 v' fs.length (flatG fs) → w.grownBy w' v.ownBlock → (v' = .slice none 0 0 ↔ v = .slice none 0 0) → wpList Tryd.prog ops Q rest (a.put o.dst v') w') : wpList Tryd.prog ops Q (o :: rest) a w := by
  obtain ⟨i, hi, hzz⟩ := Option.map_eq_some_iff.1 infoPg
  simp only [Prod.mk.injEq] at hzz
  obtain ⟨hz0, hz1, hz2⟩ := hzz
  refine wpList_append_own w hgd s x t ho base 27 i _ 13 104 ht hi hz0 hz1 hz2 rfl (by decide) v fs.length (flatG fs) hs hown ad 0 c [] hx rfl (fun j u hu => by simp at hu) (fun u hu => by simp at hu) (by unfold maxLen; omega) (by omega) hbase (fun v' w' h2 h3 h4 => h v' w' (by simpa using h2) h3 (by simpa using h4))
theorem run_load_pg {ρ : Operand → Value} (x : Operand) (ho : o.op = .load 27 x) (g b : Nat) (hx : ρ x = .pointer (some ⟨g, b, none⟩)) {y : Nat → Int} (hB : w.rangeAt g b (pgc y)) : (execOp ρ o).run Tryd.prog w = .ok (.value (.agg (pgV y))) w := by
  have h9 : (Instr.loadAt 27 (.pointer (some ⟨g, b, none⟩))).run Tryd.prog w = .ok (.agg (pgV y)) w := run_loadAt_mid w g b 27 _ _ hB Tryd.underlying27 rfl (by kernel_rfl)
  unfold execOp
  simp only [ho, hx, Sem.run_bind, Sem.run_pure, Result.andThen_ok, h9]
theorem wp_load_pg (x : Operand) (ho : o.op = .load 27 x) (dst : Option Tmp) (hd : o.dst = dst) (g b : Nat) (hx : a.eval x = .pointer (some ⟨g, b, none⟩)) {y : Nat → Int} (hB : w.rangeAt g b (pgc y))
    (h : K (a.put dst (.agg (pgV y))) w) : o.wp Tryd.prog a w K Q := by
  subst hd
  unfold Oper.wp
  rw [run_load_pg x ho g b hx hB]
  exact h
theorem wpList_load_pg (hgd : o.guard = none) (x : Operand) (ho : o.op = .load 27 x) (g b : Nat) (hx : a.eval x = .pointer (some ⟨g, b, none⟩)) {y : Nat → Int} (hB : w.rangeAt g b (pgc y))
    (h : wpList Tryd.prog ops Q rest (a.put o.dst (.agg (pgV y))) w) : wpList Tryd.prog ops Q (o :: rest) a w :=
  wpList_plain hgd fun _ hK => wp_load_pg x ho o.dst rfl g b hx hB (hK _ _ h)
theorem wpList_load_pg_w (hw : Region.wanted o (yielded ops a.tmps) = true) (x : Operand) (ho : o.op = .load 27 x) (g b : Nat) (hx : a.eval x = .pointer (some ⟨g, b, none⟩)) {y : Nat → Int} (hB : w.rangeAt g b (pgc y))
    (h : wpList Tryd.prog ops Q rest (a.put o.dst (.agg (pgV y))) w) : wpList Tryd.prog ops Q (o :: rest) a w :=
  wpList_step fun K hK => by
    rw [if_pos hw]
    exact wp_load_pg x ho o.dst rfl g b hx hB (hK _ _ h)
end
theorem rg_one {w : World} {b : Nat} {x : Nat → Int} (h : w.rangeAt b 0 (pgc x)) : ∀ i y, [x][i]? = some y → w.rangeAt b (0 + i * 13) (pgc y) := fun i y hi => by
  cases i with
  | zero => simp at hi; subst hi; exact h
  | succ i => simp at hi
/-- the error of an almanac -/
def nmG (ps : List (Nat → Int)) (i : Nat) : Int := (ps.getD i fun _ => 0) 0
def okR27 (ps : List (Nat → Int)) : Prop := ∀ i, i < ps.length → errPg (ps.getD i fun _ => 0) = 0
instance (ps : List (Nat → Int)) : Decidable (okR27 ps) := inferInstanceAs (Decidable (∀ i, i < ps.length → errPg (ps.getD i fun _ => 0) = 0))
def ascG (ps : List (Nat → Int)) : Prop := ∀ i, i < ps.length - 1 → nmG ps i < nmG ps (i + 1)
instance (ps : List (Nat → Int)) : Decidable (ascG ps) := inferInstanceAs (Decidable (∀ i, i < ps.length - 1 → nmG ps i < nmG ps (i + 1)))
def errRow (ps : List (Nat → Int)) : Int := if 63 < ps.length then 4 else if okR27 ps then (if ascG ps then 0 else 9) else 2
theorem errRow_long {ps : List (Nat → Int)} (h : 63 < ps.length) : errRow ps = 4 := if_pos h
theorem errRow_bad {ps : List (Nat → Int)} (h : ¬ 63 < ps.length) (i : Nat) (hi : i < ps.length) (he : errPg (ps.getD i fun _ => 0) ≠ 0) : errRow ps = 2 := by
  unfold errRow; rw [if_neg h, if_neg (fun hk => he (hk i hi))]
theorem errRow_ord {ps : List (Nat → Int)} (h : ¬ 63 < ps.length) (hk : okR27 ps) (i : Nat) (hi : i < ps.length - 1) (he : ¬ nmG ps i < nmG ps (i + 1)) : errRow ps = 9 := by
  unfold errRow; rw [if_neg h, if_pos hk, if_neg (fun ha => he (ha i hi))]
theorem errRow_ok {ps : List (Nat → Int)} (h : ¬ 63 < ps.length) (hk : okR27 ps) (ha : ascG ps) : errRow ps = 0 := by
  unfold errRow; rw [if_neg h, if_pos hk, if_pos ha]
theorem errRow_zero {ps : List (Nat → Int)} (h : errRow ps = 0) : ps.length ≤ 63 ∧ okR27 ps ∧ ascG ps := by
  unfold errRow at h
  split at h
  · simp at h
  · split at h
    · split at h
      · exact ⟨by omega, ‹_›, ‹_›⟩
      · simp at h
    · simp at h
end Go.Proofs.Sky

namespace Go.Proofs.Sky
open Go Go.RowKit Go.Shelf
attribute [local go_sem] Oper.semAt_some
set_option maxHeartbeats 4000000
set_option maxRecDepth 8000
/-! chapter 27: the error of an almanac -/
theorem getD_some {ps : List (Nat → Int)} {i : Nat} (h : i < ps.length) : ps[i]? = some (ps.getD i fun _ => 0) := by
  rw [List.getD_eq_getElem?_getD, List.getElem?_eq_getElem h]; rfl
theorem rg_at0 {w : World} {b o : Nat} {x : Nat → Int} (h : w.rangeAt b o (pgc x)) : w.cell? ⟨b, o, none⟩ = some (.int .i64 (x 0)) := h 0 _ rfl
theorem whole_any (ps : List (Nat → Int)) (v : Value) (w : World) (hw : WdAt w) (hv : RdG w v ps) : Calls Tryd.prog 35 #[v] w fun e w' => e = .returned (.int .i64 (errRow ps)) ∧ Bw w w' := by
  have hl := hv.1
  by_cases hlong : 63 < ps.length
  · obtain ⟨a1, c1, rfl⟩ := hv.form
    have HG := Lib.hid (errRow_long hlong)
    clear hv hw
    generalize ps.length = n at *
    have hq : (63 : Int) < n := by omega
    go_enter Tryd.func35, Tryd.ntmps35
    go_wp2
    go_ret
    exact ⟨ret_int HG.out.symm, Bw.refl _⟩
  have HBAD := Lib.hid (fun i hi he => errRow_bad hlong i hi he)
  have HORD := Lib.hid (fun hk i hi he => errRow_ord hlong hk i hi he)
  have HOK := Lib.hid (fun hk ha => errRow_ok hlong hk ha)
  by_cases h0 : 0 < ps.length
  · obtain ⟨b, o, c, rfl, hb, hz⟩ := hv.at h0
    have HV := Lib.hid hv
    have HWD := Lib.hid hw
    have CK := Lib.hid (fun x W h => PgCheck_any x W h)
    have HSZ : Hid (∀ x, (Tryd.prog.info? 27).map (·.size) = some (pgV x).size) := Lib.hid (fun x => by kernel_rfl)
    have HPX : Hid (∀ x, (pgV x).all (·.oneCell') = true) := Lib.hid (fun x => by simp [Value.oneCell', pgV])
    have HZ := Lib.hid hz
    clear hz hv hw
    generalize errRow ps = E at *
    obtain ⟨n, hn⟩ : ∃ n, ps.length = n := ⟨_, rfl⟩
    have HN := Lib.hid hn
    rw [hn] at hl hlong h0 ⊢
    clear hn
    have hq : ¬ (63 : Int) < n := by omega
    go_enter Tryd.func35, Tryd.ntmps35
    go_wp2
    go_loopw [12] (fun i wr => ∃ k : Nat, k ≤ n ∧ i = .int .i64 k ∧ Hid (Bw w wr) ∧ Hid (∀ j, j < k → errPg (ps.getD j fun _ => 0) = 0)) (fun i _ => n - (intOf i).toNat)
    case atStart => exact ⟨0, Nat.zero_le _, rfl, Lib.hid (Bw.refl _), Lib.hid (fun j hj => absurd hj (Nat.not_lt_zero _))⟩
    case round =>
      obtain ⟨k, hk, rfl, HW, HA⟩ := hrel
      obtain ⟨wb, rfl⟩ : ∃ wb, wb = wr := ⟨_, rfl⟩
      by_cases hlt : k < n
      · have hkn : (k : Int) < n := by omega
        have R := Lib.hid (show wb.rangeAt b (o + k * 13) (pgc (ps.getD k fun _ => 0)) from fun j u hu => HW.out.cell' (HZ.out k _ (getD_some (by have := HN.out; omega)) j u hu))
        have HB1 := Lib.hid (HBAD.out k (by have := HN.out; omega))
        have HA1 := Lib.hid (fun h => (fun j (hj : j < k + 1) => (by
          rcases Nat.lt_succ_iff_lt_or_eq.1 hj with h' | rfl
          · exact HA.out j h'
          · exact h) : ∀ j, j < k + 1 → errPg (ps.getD j fun _ => 0) = 0))
        generalize (ps.getD k fun _ => 0) = x at R HB1 HA1
        have CX := Lib.hid (fun W h => CK.out x W h)
        have H2 := Lib.hid (errPg_two x)
        generalize errPg x = ex at HB1 HA1 CX H2
        have K1 := Lib.hid (Blk.new wb 27 #[.int .i64 0, .int .i64 0, .int .i64 0, .int .i64 0, .int .i64 0, .int .i64 0, .int .i64 0, .int .i64 0, .int .i64 0, .int .i64 0, .int .i64 0, .int .i64 0, .int .i64 0])
        have HW1 := Lib.hid (Bw.alloc (Bw.refl wb) (.cells #[.int .i64 0, .int .i64 0, .int .i64 0, .int .i64 0, .int .i64 0, .int .i64 0, .int .i64 0, .int .i64 0, .int .i64 0, .int .i64 0, .int .i64 0, .int .i64 0, .int .i64 0] 27))
        go_upto_region 6 with (first | ((with_reducible refine at_load 27 (.tmp 14) ?_); refine wpList_load_pg rfl (.tmp 14) rfl b (o + k * 13) (by simp [Act.eval, Act.put]) R.out ?_) | ((with_reducible refine at_store 27 (.tmp 4) (.tmp 15) ?_); refine wpList_store_row rfl 27 (.tmp 4) (.tmp 15) rfl wb.heap.size (pgV x) rfl rfl 27 _ K1.out (by kernel_rfl) rfl (HPX.out x) ?_))
        obtain ⟨g1, hg1⟩ : ∃ g1, wb.heap.size = g1 := ⟨_, rfl⟩
        have hbq := Bw.setRow HW1.out (Nat.le_of_eq hg1) (pgV x)
        have K2 := Lib.hid (K1.out.row (pgV x))
        rw [hg1] at K2 ⊢
        generalize World.setRow (World.alloc wb _) _ _ = wc at *
        clear HW1 K1 hg1
        replace HW := Lib.hid (HW.out.trans hbq)
        clear hbq R
        have HWC := Lib.hid (HWD.out.bw HW.out)
        have HSX := Lib.hid (HSZ.out x)
        obtain ⟨A, hA⟩ : ∃ A, A = pgV x := ⟨_, rfl⟩
        rw [← hA] at K2 CX HSX ⊢
        clear hA
        by_cases hex : ex = 0
        · subst hex
          have HG := Lib.hid (HA1.out rfl)
          go_wp2_with (first | ((with_reducible refine at_load 27 (.tmp 4) ?_); refine wpList_load_row rfl 27 (.tmp 4) rfl g1 rfl 27 A (0, 0) _ K2.out Tryd.underlying27 rfl HSX.out ?_) | (go_at_call 22; (with_reducible refine Calls.mono (CX.out _ HWC.out) ?_); rintro e1 w1 ⟨rfl, hb1⟩; replace HW := Lib.hid (HW.out.trans hb1); clear hb1))
          go_roundw
          case rel => exact ⟨k + 1, by omega, by go_num, HW, HG⟩
          case measure => simp [intOf]; omega
        · have HG := Lib.hid (show E = ex from (HB1.out hex).trans (H2.out.resolve_left hex).symm)
          go_wp2_with (first | ((with_reducible refine at_load 27 (.tmp 4) ?_); refine wpList_load_row rfl 27 (.tmp 4) rfl g1 rfl 27 A (0, 0) _ K2.out Tryd.underlying27 rfl HSX.out ?_) | (go_at_call 22; (with_reducible refine Calls.mono (CX.out _ HWC.out) ?_); rintro e1 w1 ⟨rfl, hb1⟩; replace HW := Lib.hid (HW.out.trans hb1); clear hb1))
          go_ret
          exact ⟨ret_int HG.out.symm, HW.out⟩
      · obtain rfl : k = n := by omega
        have HOKR := Lib.hid (show okR27 ps from fun i hi => HA.out i (by have := HN.out; omega))
        go_wp2
        go_loopw [6] (fun i wr => ∃ m : Nat, m + 1 ≤ k ∧ i = .int .i64 ((m : Int) + 1) ∧ Hid (Bw w wr) ∧ Hid (∀ j, j < m → nmG ps j < nmG ps (j + 1))) (fun i _ => k - (intOf i).toNat)
        case atStart => exact ⟨0, by omega, rfl, HW, Lib.hid (fun j hj => absurd hj (Nat.not_lt_zero _))⟩
        case round =>
          obtain ⟨m, hm, rfl, HW2, HA2⟩ := hrel
          obtain ⟨wc, rfl⟩ : ∃ wc, wc = wr := ⟨_, rfl⟩
          clear HW HA
          by_cases hlt2 : m + 1 < k
          · have hkn : (m : Int) + 1 < k := by omega
            have hm0 : (0 : Int) ≤ m := by omega
            have hm1 : (m : Int) < k := by omega
            have hm2 : (0 : Int) ≤ (m : Int) + 1 := by omega
            have d1 : wc.cell? ⟨b, o + (m + 1) * 13, none⟩ = some (.int .i64 (nmG ps (m + 1))) := HW2.out.cell' (rg_at0 (HZ.out (m + 1) _ (getD_some (by have := HN.out; omega))))
            have d2 : wc.cell? ⟨b, o + m * 13, none⟩ = some (.int .i64 (nmG ps m)) := HW2.out.cell' (rg_at0 (HZ.out m _ (getD_some (by have := HN.out; omega))))
            have HB2 := Lib.hid (HORD.out HOKR.out m (by have := HN.out; omega))
            have HA3 := Lib.hid (fun h => (fun j (hj : j < m + 1) => (by
              rcases Nat.lt_succ_iff_lt_or_eq.1 hj with h' | rfl
              · exact HA2.out j h'
              · exact h) : ∀ j, j < m + 1 → nmG ps j < nmG ps (j + 1)))
            generalize nmG ps (m + 1) = p at d1 HB2 HA3
            generalize nmG ps m = q at d2 HB2 HA3
            have e1 := fun p' : Ext wc => Ext.cell' d1 p'
            have e2 := fun p' : Ext wc => Ext.cell' d2 p'
            have ew : IntKind.i64.wrap ((m : Int) + 1 - 1) = m := by rw [IntKind.wrap_i64]; omega
            have et : ((m : Int) + 1).toNat = m + 1 := by omega
            by_cases hpq : q < p
            · have HG := Lib.hid (HA3.out hpq)
              have hpn : ¬ p ≤ q := by omega
              go_upto_region 13 with fail
              (refine wp_region_quiet_ext (by kernel_rfl) (by kernel_rfl) ?_; (repeat (go_big_quiet_step ((fail)))); refine wpQuiet_nil ?_; rintro wq ⟨⟨_, hbq⟩, rfl⟩; obtain ⟨hccq, hffq⟩ := Bw.cells hbq; have hszq := Bw.size hbq)
              go_wp2
              go_roundw
              case rel => exact ⟨m + 1, by omega, by go_num, Lib.hid (HW2.out.trans hbq), HG⟩
              case measure => simp [intOf]; omega
            · have HG := Lib.hid (HB2.out (by omega))
              have hpn : p ≤ q := by omega
              go_upto_region 13 with fail
              (refine wp_region_quiet_ext (by kernel_rfl) (by kernel_rfl) ?_; (repeat (go_big_quiet_step ((fail)))); refine wpQuiet_nil ?_; rintro wq ⟨⟨_, hbq⟩, rfl⟩; obtain ⟨hccq, hffq⟩ := Bw.cells hbq; have hszq := Bw.size hbq)
              go_wp2
              go_ret
              exact ⟨ret_int HG.out.symm, HW2.out.trans hbq⟩
          · obtain rfl : k = m + 1 := by omega
            have HG := Lib.hid (HOK.out HOKR.out (fun i hi => HA2.out i (by have := HN.out; omega)))
            go_wp2
            go_ret
            exact ⟨ret_int HG.out.symm, HW2.out⟩
  · obtain rfl : ps = [] := List.length_eq_zero_iff.1 (by omega)
    obtain ⟨a1, c1, rfl⟩ := hv.form
    have HG := Lib.hid (HOK.out (fun i hi => absurd hi (by simp)) (fun i hi => absurd hi (by simp)))
    clear hv hw HBAD HORD HOK
    go_enter Tryd.func35, Tryd.ntmps35
    go_wp2
    go_loopw [12] (fun i wr => i = .int .i64 0 ∧ Hid (Bw w wr)) (fun i _ => 0)
    case atStart => exact ⟨rfl, Lib.hid (Bw.refl _)⟩
    case round =>
      obtain ⟨rfl, HW⟩ := hrel
      go_wp2
      go_loopw [6] (fun i wr => i = .int .i64 1 ∧ Hid (Bw w wr)) (fun i _ => 0)
      case atStart => exact ⟨rfl, HW⟩
      case round =>
        obtain ⟨rfl, HW2⟩ := hrel
        go_wp2
        go_ret
        exact ⟨ret_int HG.out.symm, HW2.out⟩
end Go.Proofs.Sky
