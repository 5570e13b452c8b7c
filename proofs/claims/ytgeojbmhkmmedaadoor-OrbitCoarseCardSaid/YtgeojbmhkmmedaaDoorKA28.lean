/-
  lemmas for the theorems of this claim. No conditions beyond those written in the statements.
-/
import Derived.Test.YtgeojbmhkmmedaaDoorVA28
import Derived.Laws.CopyRow
import Derived.Test.YtgeojbmhkmmedaaDoorUA28
import Derived.Test.YtgeojbmhkmmedaaDoorFA28
set_option linter.unusedVariables false
set_option linter.unusedSimpArgs false
set_option linter.unnecessarySimpa false
namespace Go.Proofs.Sky
open Go Go.RowKit Go.Shelf
set_option maxHeartbeats 4000000
set_option maxRecDepth 8000
theorem pos_at {X : Nat → Int} {a : Int} (h : errE X = 0) (ha : -7200000000000 ≤ a ∧ a ≤ 7200000000000) (W : World) : Calls Tryd.prog 14 #[.agg (eV X), .int .i64 (lawT X a)] W fun e w' => e = .returned (.tuple #[.agg #[.int .i64 (posQ X a 0), .int .i64 (posQ X a 1), .int .i64 (posQ X a 2)], .int .i64 0]) ∧ Bw W w' := by
  have h9 := Position28_any X (lawT X a) W
  unfold l3V psE at h9
  rw [atE_own h ha] at h9
  exact h9
theorem vel_at {X : Nat → Int} {a : Int} (h : errE X = 0) (ha : -7200000000000 ≤ a ∧ a ≤ 7200000000000) (W : World) : Calls Tryd.prog 12 #[.agg (eV X), .int .i64 (lawT X a)] W fun e w' => e = .returned (.tuple #[.agg #[.int .i64 (vlQ X a 0), .int .i64 (vlQ X a 1), .int .i64 (vlQ X a 2)], .int .i64 0]) ∧ Bw W w' := by
  have h9 := Velocity28_any X (lawT X a) W
  unfold l3V vsE at h9
  rw [atE_own h ha] at h9
  exact h9
theorem pos_zero (X : Nat → Int) (j : Nat) : posQ X 0 j = 16 * X (7 + 4 * j) := by
  show rndQ (posS _ _ _ _ 0) _ = _
  rw [posS_zero, rndQ_mul _ _ (by decide)]
theorem vel_zero (X : Nat → Int) (j : Nat) : vlQ X 0 j = X (7 + 4 * j + 1) := by
  show rndQ (velS _ _ _ 0) _ = _
  rw [velS_zero, rndQ_mul _ _ (by decide)]
theorem pos_lim {X : Nat → Int} {a : Int} (h : errE X = 0) (ha : -7200000000000 ≤ a ∧ a ≤ 7200000000000) (j : Nat) (hj : j < 3) : -1000000000000 ≤ posQ X a j ∧ posQ X a j ≤ 1000000000000 := by
  obtain ⟨h0, h1, h2, h3⟩ := ax_bd h j hj
  have h4 := (place4 h0 h1 h2 h3 (show a.natAbs ≤ 7200000000000 by omega)).2
  rw [← zW_abs, place4_z] at h4
  have h5 := rndQ_near (X (7 + 4 * j) * 16 * 1000000000 * 1000000000 * 1000000000 * 67108864 + X (7 + 4 * j + 1) * a * 1000000000 * 1000000000 * 67108864 + X (7 + 4 * j + 2) * a * a * 1000000000 * 65536 + X (7 + 4 * j + 3) * a * a * a) 67108864000000000000000000000000000 (by decide)
  show -1000000000000 ≤ rndQ (X (7 + 4 * j) * 16 * 1000000000 * 1000000000 * 1000000000 * 67108864 + X (7 + 4 * j + 1) * a * 1000000000 * 1000000000 * 67108864 + X (7 + 4 * j + 2) * a * a * 1000000000 * 65536 + X (7 + 4 * j + 3) * a * a * a) 67108864000000000000000000000000000 ∧ rndQ (X (7 + 4 * j) * 16 * 1000000000 * 1000000000 * 1000000000 * 67108864 + X (7 + 4 * j + 1) * a * 1000000000 * 1000000000 * 67108864 + X (7 + 4 * j + 2) * a * a * 1000000000 * 65536 + X (7 + 4 * j + 3) * a * a * a) 67108864000000000000000000000000000 ≤ 1000000000000
  generalize X (7 + 4 * j) * 16 * 1000000000 * 1000000000 * 1000000000 * 67108864 + X (7 + 4 * j + 1) * a * 1000000000 * 1000000000 * 67108864 + X (7 + 4 * j + 2) * a * a * 1000000000 * 65536 + X (7 + 4 * j + 3) * a * a * a = S at *
  generalize rndQ S 67108864000000000000000000000000000 = p at *
  omega
end Go.Proofs.Sky

namespace Go.Proofs.Sky
set_option maxRecDepth 8000
set_option maxHeartbeats 1000000
/-! chapter 28, plain: a coarse page is within its bound -/
theorem posS_whole (c0 c1 c2 c3 a : Int) : posS c0 c1 c2 c3 (a * 1000000000) = 1000000000000000000000000000 * (1073741824 * c0 + 67108864 * (c1 * a) + 65536 * (c2 * a * a) + c3 * a * a * a) := by
  unfold posS
  have e1 : c1 * (a * 1000000000) = 1000000000 * (c1 * a) := by rw [← Int.mul_assoc, Int.mul_comm]
  have e2 : c2 * (a * 1000000000) * (a * 1000000000) = 1000000000000000000 * (c2 * a * a) := by
    rw [← Int.mul_assoc c2, Int.mul_right_comm (c2 * a) 1000000000, ← Int.mul_assoc (c2 * a) a, Int.mul_assoc _ 1000000000 1000000000, Int.mul_comm]; rfl
  have e3 : c3 * (a * 1000000000) * (a * 1000000000) * (a * 1000000000) = 1000000000000000000000000000 * (c3 * a * a * a) := by
    have e4 : c3 * (a * 1000000000) * (a * 1000000000) = 1000000000000000000 * (c3 * a * a) := by
      rw [← Int.mul_assoc c3, Int.mul_right_comm (c3 * a) 1000000000, ← Int.mul_assoc (c3 * a) a, Int.mul_assoc _ 1000000000 1000000000, Int.mul_comm]; rfl
    rw [e4, ← Int.mul_assoc, Int.mul_assoc _ (c3 * a * a) a]
    generalize c3 * a * a * a = v
    omega
  rw [e1, e2, e3]
  generalize c1 * a = u1
  generalize c2 * a * a = u2
  generalize c3 * a * a * a = u3
  omega
theorem mul_ab {x y : Int} {K : Int} (h : -K ≤ x ∧ x ≤ K) : -(K * (y.natAbs : Int)) ≤ x * y ∧ x * y ≤ K * (y.natAbs : Int) := by
  have hK : 0 ≤ K := by omega
  have h1 : ((x * y).natAbs : Int) ≤ K * (y.natAbs : Int) := by
    rw [Int.natAbs_mul, Int.natCast_mul]
    exact Int.mul_le_mul_of_nonneg_right (by omega) (by omega)
  omega
theorem coarse_plain {c0 c1 c2 c3 a h m G E C0 C1 C2 p q : Int}
    (hp : 2 * (67108864000000000000000000000000000 * p) - 2 * posS c0 c1 c2 c3 (a * 1000000000) ≤ 67108864000000000000000000000000000 ∧ 2 * posS c0 c1 c2 c3 (a * 1000000000) - 2 * (67108864000000000000000000000000000 * p) ≤ 67108864000000000000000000000000000)
    (hq : 2 * (1024 * q) - 2 * ((64 * C0 + C1 * a) * 1024 + C2 * a * a) ≤ 1024 ∧ 2 * ((64 * C0 + C1 * a) * 1024 + C2 * a * a) - 2 * (1024 * q) ≤ 1024)
    (k0 : -2000 ≤ c0 - 4000 * C0 ∧ c0 - 4000 * C0 ≤ 2000) (k1 : -500 ≤ c1 - 1000 * C1 ∧ c1 - 1000 * C1 ≤ 500) (k2 : -500 ≤ c2 - 1000 * C2 ∧ c2 - 1000 * C2 ≤ 500) (k3 : -m ≤ c3 ∧ c3 ≤ m)
    (ha : (a.natAbs : Int) ≤ h) (hE : 33 ≤ E) (hG : 1801 * 67108864000 + 3600 * 1000 * h * 32768 + 3600 * m * h * h ≤ G * 67108864000) :
    -(1000 * (E + (G * (a.natAbs : Int) + 3599) / 3600)) ≤ p - 1000 * q ∧ p - 1000 * q ≤ 1000 * (E + (G * (a.natAbs : Int) + 3599) / 3600) := by
  rw [posS_whole] at hp
  have hm : 0 ≤ m := by omega
  obtain ⟨A, hA⟩ : ∃ A : Int, A = (a.natAbs : Int) := ⟨_, rfl⟩
  have hA0 : 0 ≤ A := by omega
  have f1 : -(500 * A) ≤ c1 * a - 1000 * (C1 * a) ∧ c1 * a - 1000 * (C1 * a) ≤ 500 * A := by
    have h9 := mul_ab (y := a) k1
    rw [Int.sub_mul, Int.mul_assoc 1000, ← hA] at h9
    exact h9
  have f2 : -(500 * (A * A)) ≤ c2 * a * a - 1000 * (C2 * a * a) ∧ c2 * a * a - 1000 * (C2 * a * a) ≤ 500 * (A * A) := by
    have h8 := mul_ab (y := a) k2
    have h9 := mul_ab (y := a) h8
    rw [Int.sub_mul, Int.sub_mul, Int.mul_assoc 1000, Int.mul_assoc 1000, ← hA, Int.mul_assoc 500] at h9
    exact h9
  have f3 : -(m * A * A * A) ≤ c3 * a * a * a ∧ c3 * a * a * a ≤ m * A * A * A := by
    have h9 := mul_ab (y := a) (mul_ab (y := a) (mul_ab (y := a) k3))
    rw [← hA] at h9
    exact h9
  rw [← hA] at ha ⊢
  have g0 : A * A ≤ h * A := Int.mul_le_mul_of_nonneg_right ha hA0
  have g1 : m * A * A * A ≤ m * h * h * A := by
    refine Int.mul_le_mul_of_nonneg_right ?_ hA0
    exact Int.mul_le_mul (Int.mul_le_mul_of_nonneg_left ha hm) ha hA0 (Int.mul_nonneg hm (by omega))
  have g2 : 1801 * 67108864000 * A + 3600 * 1000 * 32768 * (h * A) + 3600 * (m * h * h * A) ≤ G * A * 67108864000 := by
    have h9 := Int.mul_le_mul_of_nonneg_right hG hA0
    rw [Int.add_mul, Int.add_mul, Int.mul_right_comm G] at h9
    have e1 : 3600 * 1000 * h * 32768 * A = 3600 * 1000 * 32768 * (h * A) := by rw [Int.mul_right_comm (3600 * 1000) h, Int.mul_assoc]
    have e2 : 3600 * m * h * h * A = 3600 * (m * h * h * A) := by rw [Int.mul_assoc 3600, Int.mul_assoc 3600, Int.mul_assoc 3600]
    rw [e1, e2] at h9
    exact h9
  have hb : G * A + 3600 * E ≤ 3600 * (E + (G * A + 3599) / 3600) := by omega
  generalize E + (G * A + 3599) / 3600 = B at *
  generalize m * A * A * A = R at *
  generalize m * h * h * A = R2 at *
  generalize h * A = Q2 at *
  generalize A * A = Q at *
  generalize G * A = GA at *
  rw [Int.add_mul] at hq
  generalize c1 * a = u1 at *
  generalize C1 * a = U1 at *
  generalize c2 * a * a = u2 at *
  generalize C2 * a * a = U2 at *
  generalize c3 * a * a * a = u3 at *
  clear hG ha hA k1 k2 k3
  have hz1 : 2 * (67108864 * p) - 2 * (1073741824 * c0 + 67108864 * u1 + 65536 * u2 + u3) ≤ 67108864 := by omega
  have hz2 : 2 * (1073741824 * c0 + 67108864 * u1 + 65536 * u2 + u3) - 2 * (67108864 * p) ≤ 67108864 := by omega
  clear hp
  omega
end Go.Proofs.Sky

namespace Go.Proofs.Sky
open Go Go.RowKit Go.Shelf
set_option maxHeartbeats 4000000
set_option maxRecDepth 8000
/-! chapter 28's cards: OrbitCoarse -/
theorem near28_any (mm m k : Int) (h1 : -1000000000000 ≤ mm ∧ mm ≤ 1000000000000) (h2 : 0 ≤ k ∧ k ≤ 1000000000000) (h : -(1000 * k) ≤ mm - 1000 * m ∧ mm - 1000 * m ≤ 1000 * k) (w : World) :
    Calls Tryd.prog 21 #[.int .i64 mm, .int .i64 m, .int .i64 k] w fun e w' => e = .returned (.bool true) ∧ Bw w w' := by
  have q1 : decide (mm - 1000 * m ≤ 1000 * k) = true := decide_eq_true h.2
  have q2 : decide (-(mm - 1000 * m) ≤ 1000 * k) = true := decide_eq_true (by omega)
  go_enter Tryd.func21, Tryd.ntmps21
  go_wp2
  go_ret
  exact ⟨rfl, Bw.refl _⟩
theorem arQ_own (T0 a : Int) (h0 : 0 ≤ T0 ∧ T0 ≤ 604799) (ha : -7200 ≤ a ∧ a ≤ 7200) : arQ ((T0 + a) % 604800 - T0) = a := by unfold arQ; omega
theorem rn_near (a b : Int) (hb : 0 < b) : 2 * (b * rn a b) - 2 * a ≤ b ∧ 2 * a - 2 * (b * rn a b) ≤ b := by
  have key : ∀ n : Int, 2 * (b * ((2 * n + b) / (2 * b))) - 2 * n ≤ b ∧ 2 * n - 2 * (b * ((2 * n + b) / (2 * b))) ≤ b := fun n => by
    have e := Int.emod_add_mul_ediv (2 * n + b) (2 * b)
    have e1 := Int.emod_nonneg (2 * n + b) (show 2 * b ≠ 0 by omega)
    have e2 := Int.emod_lt_of_pos (2 * n + b) (show 0 < 2 * b by omega)
    rw [Int.mul_assoc] at e
    generalize b * ((2 * n + b) / (2 * b)) = q at *
    omega
  unfold rn
  split
  · have := key (-a)
    rw [Int.mul_neg]
    generalize b * ((2 * -a + b) / (2 * b)) = q at *
    omega
  · exact key a
theorem coarse_near {X : Nat → Int} {h a : Int} (hE : errE X = 0) (hh : h = 1 ∨ h = 2) (ha : -(3600 * h) ≤ a ∧ a ≤ 3600 * h) (j : Nat) (hj : j < 3) :
    -(1000 * (pgF X h 2 + (pgF X h 3 * (a.natAbs : Int) + 3599) / 3600)) ≤ posQ X (a * 1000000000) j - 1000 * atQ (pgF X h (4 + 3 * j)) (pgF X h (5 + 3 * j)) (pgF X h (6 + 3 * j)) a ∧ posQ X (a * 1000000000) j - 1000 * atQ (pgF X h (4 + 3 * j)) (pgF X h (5 + 3 * j)) (pgF X h (6 + 3 * j)) a ≤ 1000 * (pgF X h 2 + (pgF X h 3 * (a.natAbs : Int) + 3599) / 3600) := by
  obtain ⟨_, _, hx3⟩ := hd_bd hE
  have hm := mK_le (X := X) 3 j hj
  have hmb := mK_bd (X := X) (fun j hj => (ax_bd hE j hj).2.2.2) 3 (by omega)
  have e0 : pgF X h (4 + 3 * j) = rn (X (7 + 4 * j)) 4000 ∧ pgF X h (5 + 3 * j) = rn (X (7 + 4 * j + 1)) 1000 ∧ pgF X h (6 + 3 * j) = rn (X (7 + 4 * j + 2)) 1000 := by
    match j, hj with
    | 0, _ => exact ⟨rfl, rfl, rfl⟩
    | 1, _ => exact ⟨rfl, rfl, rfl⟩
    | 2, _ => exact ⟨rfl, rfl, rfl⟩
  have n0 := rn_near (X (7 + 4 * j)) 4000 (by decide)
  have n1 := rn_near (X (7 + 4 * j + 1)) 1000 (by decide)
  have n2 := rn_near (X (7 + 4 * j + 2)) 1000 (by decide)
  rw [e0.1, e0.2.1, e0.2.2]
  refine coarse_plain (h := 3600 * h) (m := mK X 3) (rndQ_near (posS (X (7 + 4 * j)) (X (7 + 4 * j + 1)) (X (7 + 4 * j + 2)) (X (7 + 4 * j + 3)) (a * 1000000000)) _ (by decide)) (rn_near _ 1024 (by decide)) (by omega) (by omega) (by omega) (by omega) (by omega) ?_ ?_
  · show 33 ≤ 33 + (X 3 + 999) / 1000
    omega
  · show _ ≤ grQ h (mK X 3) * 67108864000
    unfold grQ
    rcases hh with rfl | rfl <;> omega
theorem at_own {X : Nat → Int} {h a : Int} (hE : errE X = 0) (hc : cgE X h = 0) (ha : -7200 ≤ a ∧ a ≤ 7200) : errTm (pgF X h) ((X 2 + a) % 604800) = 0 ∧ arQ ((X 2 + a) % 604800 - pgF X h 1) = a := by
  obtain ⟨_, hx2, _⟩ := hd_bd hE
  have hp : errPg (pgF X h) = 0 := by
    unfold cgE at hc
    rw [if_pos hE] at hc
    split at hc
    · split at hc
      · assumption
      · omega
    · omega
  refine ⟨?_, arQ_own _ _ hx2 ha⟩
  unfold errTm
  rw [hp, if_neg (by decide), if_neg (by omega)]
theorem cg_ways {X : Nat → Int} {h : Int} (hE : errE X = 0) (hh : h = 1 ∨ h = 2) : (cgE X h = 5 ∧ cgX X h = fun _ => 0) ∨ (cgE X h = 0 ∧ cgX X h = pgF X h) := by
  by_cases hp : errPg (pgF X h) = 0
  · have e : cgE X h = 0 := by unfold cgE; rw [if_pos hE, if_pos hh, if_pos hp]
    exact .inr ⟨e, by unfold cgX; rw [if_pos e]⟩
  · have e : cgE X h = 5 := by unfold cgE; rw [if_pos hE, if_pos hh, if_neg hp]
    exact .inl ⟨e, by unfold cgX; rw [if_neg (by omega)]⟩
theorem lawT_div (X : Nat → Int) (a : Int) : lawT X (a * 1000000000) / 1000000000 = (X 2 + a) % 604800 := by unfold lawT; omega
theorem law_coarse28 (zs : List Int) (v : Value) (y1 y2 : Int) (w : World) (hv : RdI w v zs) (hw : WdAt w) : Calls Tryd.prog 5 #[v, .int .i64 y1, .int .i64 y2] w fun e w' => e = .returned (.bool true) ∧ Bw w w' := by
  have HWD := Lib.hid hw
  obtain ⟨ad, cap, rfl⟩ := hv.form
  have OF := Lib.hid (of28X_any true zs _ w hv)
  clear hv hw
  have BE := Lib.hid (fun n k W h1 h2 => Below_any n k W h1 h2)
  have hok := ofX28_ok true zs
  have AW := Lib.hid (fun W => awake28_any W)
  have bd1 := bel_bd y1 2 (by decide)
  obtain ⟨h, hh⟩ : ∃ h, 1 + bel y1 2 = h := ⟨_, rfl⟩
  have hh2 : h = 1 ∨ h = 2 := by omega
  have bd2 := bel_bd y2 (7200 * h + 1) (by omega)
  obtain ⟨a, ha⟩ : ∃ a, bel y2 (7200 * h + 1) - 3600 * h = a := ⟨_, rfl⟩
  have hab : -(3600 * h) ≤ a ∧ a ≤ 3600 * h := by omega
  have hhb : 1 ≤ h ∧ h ≤ 2 := by omega
  have ha7 : -7200 ≤ a ∧ a ≤ 7200 := by omega
  generalize ofX28 true zs = X at *
  have HWY := Lib.hid (cg_ways hok hh2)
  have CG := Lib.hid (fun W hW => Coarse28_any X h W hW)
  have AT := Lib.hid (fun W => at28L_any X (a * 1000000000) hok (by omega) W)
  have PS := Lib.hid (fun W => pos_at (X := X) (a := a * 1000000000) hok (by omega) W)
  have HSZ : Hid ((Tryd.prog.info? 25).map (·.size) = some (eV X).size) := Lib.hid (by kernel_rfl)
  have HO : Hid ((eV X).all (·.oneCell') = true) := Lib.hid (by simp [Value.oneCell', eV])
  have HN : Hid ((#[.int .i64 0, .int .i64 0, .int .i64 0, .int .i64 0, .int .i64 0, .int .i64 0, .int .i64 0, .int .i64 0, .int .i64 0, .int .i64 0, .int .i64 0, .int .i64 0, .int .i64 0, .int .i64 0, .int .i64 0, .int .i64 0, .int .i64 0, .int .i64 0, .int .i64 0] : Array Value).size = (eV X).size) := Lib.hid rfl
  have HE0 : Hid ((eV X)[0]? = some (.int .i64 (X 0))) := Lib.hid rfl
  have HE2 : Hid ((eV X)[2]? = some (.int .i64 (X 2))) := Lib.hid rfl
  have HH := Lib.hid hh
  have HA := Lib.hid ha
  have HH2 := Lib.hid hh2
  have HAB := Lib.hid hab
  have HOK := Lib.hid hok
  have HHB := Lib.hid hhb
  have HA7 := Lib.hid ha7
  clear hh ha hh2 hab hok
  have HW := Lib.hid (Bw.refl w)
  obtain ⟨A, hA⟩ : ∃ A, A = eV X := ⟨_, rfl⟩
  rw [← hA] at OF CG AT PS HSZ HO HN HE0 HE2
  clear hA
  go_enter Tryd.func5, Tryd.ntmps5
  go_upto_region 2 with (first | (go_at_call 16; (with_reducible refine Calls.mono OF.out ?_); rintro e1 w1 ⟨rfl, hb1⟩; replace HW := Lib.hid (HW.out.trans hb1); clear hb1) | ((with_reducible refine at_store 25 (.tmp 7) (.tmp 18) ?_); refine wpList_store_row rfl 25 (.tmp 7) (.tmp 18) rfl w1.heap.size A rfl rfl 25 #[.int .i64 0, .int .i64 0, .int .i64 0, .int .i64 0, .int .i64 0, .int .i64 0, .int .i64 0, .int .i64 0, .int .i64 0, .int .i64 0, .int .i64 0, .int .i64 0, .int .i64 0, .int .i64 0, .int .i64 0, .int .i64 0, .int .i64 0, .int .i64 0, .int .i64 0] (Blk.new w1 25 #[.int .i64 0, .int .i64 0, .int .i64 0, .int .i64 0, .int .i64 0, .int .i64 0, .int .i64 0, .int .i64 0, .int .i64 0, .int .i64 0, .int .i64 0, .int .i64 0, .int .i64 0, .int .i64 0, .int .i64 0, .int .i64 0, .int .i64 0, .int .i64 0, .int .i64 0]) HSZ.out HN.out HO.out ?_))
  obtain ⟨g7, hg1⟩ : ∃ g7, w1.heap.size = g7 := ⟨_, rfl⟩
  have hb1 := Bw.setRow (Bw.alloc (Bw.refl w1) (.cells #[.int .i64 0, .int .i64 0, .int .i64 0, .int .i64 0, .int .i64 0, .int .i64 0, .int .i64 0, .int .i64 0, .int .i64 0, .int .i64 0, .int .i64 0, .int .i64 0, .int .i64 0, .int .i64 0, .int .i64 0, .int .i64 0, .int .i64 0, .int .i64 0, .int .i64 0] 25)) (Nat.le_of_eq hg1) A
  have K7 := Lib.hid ((Blk.new w1 25 #[.int .i64 0, .int .i64 0, .int .i64 0, .int .i64 0, .int .i64 0, .int .i64 0, .int .i64 0, .int .i64 0, .int .i64 0, .int .i64 0, .int .i64 0, .int .i64 0, .int .i64 0, .int .i64 0, .int .i64 0, .int .i64 0, .int .i64 0, .int .i64 0, .int .i64 0]).row A)
  rw [hg1] at K7 ⊢
  replace HW := Lib.hid (HW.out.trans hb1)
  clear hb1
  generalize World.setRow (World.alloc w1 _) _ _ = z1 at *
  clear hg1
  go_upto_region 3 with (go_at_call 17; (with_reducible refine Calls.mono (BE.out _ _ _ ?_ ?_) ?_); (focus decide); (focus decide); rintro e1 w2 ⟨rfl, hb1⟩; replace K7 := Lib.hid (K7.out.bw hb1); replace HW := Lib.hid (HW.out.trans hb1); clear hb1)
  rw [show 1 + bel y1 2 = h from HH.out]
  have hw1 : 1 ≤ 7200 * h + 1 ∧ 7200 * h + 1 ≤ 4611686018427387904 := by omega
  clear HH
  have BE2 := Lib.hid (fun W => BE.out y2 (7200 * h + 1) W hw1.1 hw1.2)
  have HA2 := HA.out
  generalize bel y2 (7200 * h + 1) = bb at *
  go_upto_region 4 with (go_at_call 17; (with_reducible refine Calls.mono (BE2.out _) ?_); rintro e1 w3 ⟨rfl, hb1⟩; replace K7 := Lib.hid (K7.out.bw hb1); replace HW := Lib.hid (HW.out.trans hb1); clear hb1)
  skip
  clear HA2 HA BE BE2 bd1 bd2 hw1
  rcases HWY.out with ⟨hc, hcx⟩ | ⟨hc, hcx⟩
  · rw [hc, hcx] at CG
    have hpz : pgV (fun _ => 0) = #[.int .i64 0, .int .i64 0, .int .i64 0, .int .i64 0, .int .i64 0, .int .i64 0, .int .i64 0, .int .i64 0, .int .i64 0, .int .i64 0, .int .i64 0, .int .i64 0, .int .i64 0] := rfl
    rw [hpz] at CG
    clear hc hcx hpz HWY
    go_upto_region 5 with (first | ((with_reducible refine at_load 25 (.tmp 7) ?_); refine wpList_load_row rfl 25 _ rfl g7 rfl 25 A (0, 0) _ K7.out Tryd.underlying25 rfl HSZ.out ?_) | (go_at_call 8; (with_reducible refine Calls.mono (CG.out _ (HWD.out.bw HW.out)) ?_); rintro e1 w4 ⟨rfl, hb1⟩; replace K7 := Lib.hid (K7.out.bw hb1); replace HW := Lib.hid (HW.out.trans hb1); clear hb1) | ((with_reducible refine at_store 32 (.tmp 8) (.tmp 34) ?_); refine wpList_store_row rfl 32 (.tmp 8) (.tmp 34) rfl w4.heap.size #[.int .i64 0, .int .i64 0, .int .i64 0, .int .i64 0, .int .i64 0, .int .i64 0, .int .i64 0, .int .i64 0, .int .i64 0, .int .i64 0, .int .i64 0, .int .i64 0, .int .i64 0] rfl rfl 32 #[.int .i64 0, .int .i64 0, .int .i64 0, .int .i64 0, .int .i64 0, .int .i64 0, .int .i64 0, .int .i64 0, .int .i64 0, .int .i64 0, .int .i64 0, .int .i64 0, .int .i64 0] (Blk.new w4 32 #[.int .i64 0, .int .i64 0, .int .i64 0, .int .i64 0, .int .i64 0, .int .i64 0, .int .i64 0, .int .i64 0, .int .i64 0, .int .i64 0, .int .i64 0, .int .i64 0, .int .i64 0]) (by kernel_rfl) (by simp) (by simp [Value.oneCell']) ?_))
    obtain ⟨g8, hg1⟩ : ∃ g8, w4.heap.size = g8 := ⟨_, rfl⟩
    have hb1 := Bw.setRow (Bw.alloc (Bw.refl w4) (.cells #[.int .i64 0, .int .i64 0, .int .i64 0, .int .i64 0, .int .i64 0, .int .i64 0, .int .i64 0, .int .i64 0, .int .i64 0, .int .i64 0, .int .i64 0, .int .i64 0, .int .i64 0] 32)) (Nat.le_of_eq hg1) #[.int .i64 0, .int .i64 0, .int .i64 0, .int .i64 0, .int .i64 0, .int .i64 0, .int .i64 0, .int .i64 0, .int .i64 0, .int .i64 0, .int .i64 0, .int .i64 0, .int .i64 0]
    have K8 := Lib.hid ((Blk.new w4 32 #[.int .i64 0, .int .i64 0, .int .i64 0, .int .i64 0, .int .i64 0, .int .i64 0, .int .i64 0, .int .i64 0, .int .i64 0, .int .i64 0, .int .i64 0, .int .i64 0, .int .i64 0]).row #[.int .i64 0, .int .i64 0, .int .i64 0, .int .i64 0, .int .i64 0, .int .i64 0, .int .i64 0, .int .i64 0, .int .i64 0, .int .i64 0, .int .i64 0, .int .i64 0, .int .i64 0])
    rw [hg1] at K8 ⊢
    replace HW := Lib.hid (HW.out.trans hb1)
    clear hb1
    generalize World.setRow (World.alloc w4 _) _ _ = z4 at *
    clear hg1
    have hq2 : ∀ W, (Op.equalIn 10000 32 (.agg #[.int .i64 0, .int .i64 0, .int .i64 0, .int .i64 0, .int .i64 0, .int .i64 0, .int .i64 0, .int .i64 0, .int .i64 0, .int .i64 0, .int .i64 0, .int .i64 0, .int .i64 0]) (.agg #[.int .i64 0, .int .i64 0, .int .i64 0, .int .i64 0, .int .i64 0, .int .i64 0, .int .i64 0, .int .i64 0, .int .i64 0, .int .i64 0, .int .i64 0, .int .i64 0, .int .i64 0])).run Tryd.prog W = .ok true W := fun W => eqPg_self (fun _ => 0) W
    have hgg2 := fun W a b op p q => eqPg_guard a b op p q W
    go_wp2_with (first | (go_at_call 10; (with_reducible refine Calls.mono (AW.out _) ?_); rintro e1 w9 ⟨rfl, hb1⟩; replace HW := Lib.hid (HW.out.trans hb1); clear hb1) | ((with_reducible refine at_load 32 (.tmp 8) ?_); refine wpList_load_roww28 32 _ rfl g8 rfl 32 #[.int .i64 0, .int .i64 0, .int .i64 0, .int .i64 0, .int .i64 0, .int .i64 0, .int .i64 0, .int .i64 0, .int .i64 0, .int .i64 0, .int .i64 0, .int .i64 0, .int .i64 0] (0, 0) _ K8.out Tryd.underlying32 rfl (by kernel_rfl) (by rfl) ?_))
    go_ret
    exact ⟨rfl, HW.out⟩
  · have HAO := Lib.hid (at_own HOK.out hc HA7.out)
    rw [hc, hcx] at CG
    clear hcx HWY
    have hpg : errPg (pgF X h) = 0 := (errTm_ok HAO.out.1).1
    obtain ⟨_, _, hl2, hl3, _⟩ := pg_lim hpg
    have HNE := Lib.hid (fun j hj => coarse_near HOK.out HH2.out HAB.out j hj)
    have HLM := Lib.hid (fun j hj => pos_lim (X := X) (a := a * 1000000000) HOK.out (by have := HA7.out; omega) j hj)
    have H33 := Lib.hid (show 33 ≤ pgF X h 2 from by have := (hd_bd HOK.out).2.2; show 33 ≤ 33 + (X 3 + 999) / 1000; omega)
    have HC0 := Lib.hid (show pgF X h 0 = X 0 from rfl)
    have HC1 := Lib.hid (show pgF X h 1 = X 2 from rfl)
    have HTD := Lib.hid (lawT_div X a)
    have HTB := Lib.hid (show 0 ≤ lawT X (a * 1000000000) ∧ lawT X (a * 1000000000) < 604800000000000 from by unfold lawT; omega)
    obtain ⟨C, hC⟩ : ∃ C, C = pgF X h := ⟨_, rfl⟩
    rw [← hC] at CG HAO HNE H33 HC0 HC1 hl2 hl3
    clear hC hc hpg
    obtain ⟨TL, hTL⟩ : ∃ TL, TL = lawT X (a * 1000000000) := ⟨_, rfl⟩
    rw [← hTL] at AT PS HTD HTB
    clear hTL
    obtain ⟨TS, hTS⟩ : ∃ TS, TS = (X 2 + a) % 604800 := ⟨_, rfl⟩
    rw [← hTS] at HAO HTD
    clear hTS
    have AA := Lib.hid (fun W hW => AlAt_any C TS W hW)
    have AE := Lib.hid (fun W hW => AlError_any C TS W hW)
    have HB0 : Hid (bdP C TS = C 2 + (C 3 * (a.natAbs : Int) + 3599) / 3600) := Lib.hid (by
      unfold bdP bdQ
      rw [if_pos HAO.out.1, HAO.out.2])
    have HAT := Lib.hid (show ∀ j, atP C TS j = atQ (C (4 + 3 * j)) (C (5 + 3 * j)) (C (6 + 3 * j)) a from fun j => by
      unfold atP
      rw [if_pos HAO.out.1, HAO.out.2])
    rw [HAO.out.1] at AA AE
    rw [HB0.out] at AE
    unfold t3V at AA
    rw [HAT.out 0, HAT.out 1, HAT.out 2] at AA
    have hn : 0 ≤ (a.natAbs : Int) ∧ (a.natAbs : Int) ≤ 7200 := by have := HA7.out; omega
    have hm3 : 0 ≤ C 3 * (a.natAbs : Int) ∧ C 3 * (a.natAbs : Int) ≤ 10000000000 := ⟨Int.mul_nonneg hl3.1 hn.1, Int.le_trans (Int.mul_le_mul hl3.2 hn.2 hn.1 (by decide)) (by decide)⟩
    have hby : 33 ≤ C 2 + (C 3 * (a.natAbs : Int) + 3599) / 3600 ∧ C 2 + (C 3 * (a.natAbs : Int) + 3599) / 3600 ≤ 1000000000000 := by have := H33.out; omega
    have N0 := HNE.out 0 (by omega)
    have N1 := HNE.out 1 (by omega)
    have N2 := HNE.out 2 (by omega)
    have M0 := HLM.out 0 (by omega)
    have M1 := HLM.out 1 (by omega)
    have M2 := HLM.out 2 (by omega)
    clear HNE HLM HB0 HAT hm3 hn hl2 hl3 H33
    generalize C 2 + (C 3 * (a.natAbs : Int) + 3599) / 3600 = bq at *
    generalize atQ (C (4 + 3 * 0)) (C (5 + 3 * 0)) (C (6 + 3 * 0)) a = q0 at *
    generalize atQ (C (4 + 3 * 1)) (C (5 + 3 * 1)) (C (6 + 3 * 1)) a = q1 at *
    generalize atQ (C (4 + 3 * 2)) (C (5 + 3 * 2)) (C (6 + 3 * 2)) a = q2 at *
    generalize posQ X (a * 1000000000) 0 = p0 at *
    generalize posQ X (a * 1000000000) 1 = p1 at *
    generalize posQ X (a * 1000000000) 2 = p2 at *
    have NE0 := Lib.hid (fun W => near28_any p0 q0 bq M0 (by omega) N0 W)
    have NE1 := Lib.hid (fun W => near28_any p1 q1 bq M1 (by omega) N1 W)
    have NE2 := Lib.hid (fun W => near28_any p2 q2 bq M2 (by omega) N2 W)
    clear N0 N1 N2 M0 M1 M2 HAO
    have HCS : Hid ((Tryd.prog.info? 32).map (·.size) = some (pgV C).size) := Lib.hid (by kernel_rfl)
    have HCO : Hid ((pgV C).all (·.oneCell') = true) := Lib.hid (by simp [Value.oneCell', pgV])
    have HCN : Hid ((#[.int .i64 0, .int .i64 0, .int .i64 0, .int .i64 0, .int .i64 0, .int .i64 0, .int .i64 0, .int .i64 0, .int .i64 0, .int .i64 0, .int .i64 0, .int .i64 0, .int .i64 0] : Array Value).size = (pgV C).size) := Lib.hid rfl
    have HP0 : Hid ((pgV C)[0]? = some (.int .i64 (X 0))) := Lib.hid (by rw [← HC0.out]; rfl)
    have HP1 : Hid ((pgV C)[1]? = some (.int .i64 (X 2))) := Lib.hid (by rw [← HC1.out]; rfl)
    obtain ⟨B, hB⟩ : ∃ B, B = pgV C := ⟨_, rfl⟩
    rw [← hB] at CG AA AE HCS HCO HCN HP0 HP1
    clear hB HC0 HC1
    go_upto_region 5 with (first | ((with_reducible refine at_load 25 (.tmp 7) ?_); refine wpList_load_row rfl 25 _ rfl g7 rfl 25 A (0, 0) _ K7.out Tryd.underlying25 rfl HSZ.out ?_) | (go_at_call 8; (with_reducible refine Calls.mono (CG.out _ (HWD.out.bw HW.out)) ?_); rintro e1 w4 ⟨rfl, hb1⟩; replace K7 := Lib.hid (K7.out.bw hb1); replace HW := Lib.hid (HW.out.trans hb1); clear hb1) | ((with_reducible refine at_store 32 (.tmp 8) (.tmp 34) ?_); refine wpList_store_row rfl 32 (.tmp 8) (.tmp 34) rfl w4.heap.size B rfl rfl 32 #[.int .i64 0, .int .i64 0, .int .i64 0, .int .i64 0, .int .i64 0, .int .i64 0, .int .i64 0, .int .i64 0, .int .i64 0, .int .i64 0, .int .i64 0, .int .i64 0, .int .i64 0] (Blk.new w4 32 #[.int .i64 0, .int .i64 0, .int .i64 0, .int .i64 0, .int .i64 0, .int .i64 0, .int .i64 0, .int .i64 0, .int .i64 0, .int .i64 0, .int .i64 0, .int .i64 0, .int .i64 0]) HCS.out HCN.out HCO.out ?_))
    obtain ⟨g8, hg1⟩ : ∃ g8, w4.heap.size = g8 := ⟨_, rfl⟩
    have hb1 := Bw.setRow (Bw.alloc (Bw.refl w4) (.cells #[.int .i64 0, .int .i64 0, .int .i64 0, .int .i64 0, .int .i64 0, .int .i64 0, .int .i64 0, .int .i64 0, .int .i64 0, .int .i64 0, .int .i64 0, .int .i64 0, .int .i64 0] 32)) (Nat.le_of_eq hg1) B
    have K8 := Lib.hid ((Blk.new w4 32 #[.int .i64 0, .int .i64 0, .int .i64 0, .int .i64 0, .int .i64 0, .int .i64 0, .int .i64 0, .int .i64 0, .int .i64 0, .int .i64 0, .int .i64 0, .int .i64 0, .int .i64 0]).row B)
    rw [hg1] at K8 ⊢
    replace K7 := Lib.hid (K7.out.bw hb1)
    replace HW := Lib.hid (HW.out.trans hb1)
    clear hb1
    generalize World.setRow (World.alloc w4 _) _ _ = z4 at *
    clear hg1
    have hwa : -7200000000000 ≤ a * 1000000000 ∧ a * 1000000000 ≤ 7200000000000 := by have := HA7.out; omega
    go_upto_region 8 with (first | ((with_reducible refine at_load 25 (.tmp 7) ?_); refine wpList_load_row rfl 25 _ rfl g7 rfl 25 A (0, 0) _ K7.out Tryd.underlying25 rfl HSZ.out ?_) | (go_at_call 18; (with_reducible refine Calls.mono (AT.out _) ?_); rintro e1 w5 ⟨rfl, hb1⟩; replace K7 := Lib.hid (K7.out.bw hb1); replace K8 := Lib.hid (K8.out.bw hb1); replace HW := Lib.hid (HW.out.trans hb1); clear hb1))
    go_upto_region 9 with (first | ((with_reducible refine at_load 25 (.tmp 7) ?_); refine wpList_load_row rfl 25 _ rfl g7 rfl 25 A (0, 0) _ K7.out Tryd.underlying25 rfl HSZ.out ?_) | (go_at_call 14; (with_reducible refine Calls.mono (PS.out _) ?_); rintro e1 w6 ⟨rfl, hb1⟩; replace K7 := Lib.hid (K7.out.bw hb1); replace K8 := Lib.hid (K8.out.bw hb1); replace HW := Lib.hid (HW.out.trans hb1); clear hb1))
    obtain ⟨g11, hg1⟩ : ∃ g11, w6.heap.size = g11 := ⟨_, rfl⟩
    have K11 := Lib.hid (Blk.new w6 27 #[.int .i64 p0, .int .i64 p1, .int .i64 p2])
    have hb1 := Bw.alloc (Bw.refl w6) (.cells #[.int .i64 p0, .int .i64 p1, .int .i64 p2] 27)
    rw [hg1] at K11 ⊢
    replace K7 := Lib.hid (K7.out.bw hb1); replace K8 := Lib.hid (K8.out.bw hb1); replace HW := Lib.hid (HW.out.trans hb1); clear hb1
    generalize World.alloc w6 _ = z6 at *
    clear hg1
    have htb := HTB.out
    have htsb : 0 ≤ TS ∧ TS < 604800 := by have := HTD.out; omega
    have hq1 : TL.tdiv 1000000000 = TS := by rw [Int.tdiv_eq_ediv_of_nonneg htb.1]; exact HTD.out
    go_upto_region 10 with (first | ((with_reducible refine at_load 32 (.tmp 8) ?_); refine wpList_load_row rfl 32 _ rfl g8 rfl 32 B (0, 0) _ K8.out Tryd.underlying32 rfl HCS.out ?_) | (go_at_call 19; (with_reducible refine Calls.mono (AA.out _ (HWD.out.bw HW.out)) ?_); rintro e1 w7 ⟨rfl, hb1⟩; replace K7 := Lib.hid (K7.out.bw hb1); replace K8 := Lib.hid (K8.out.bw hb1); replace K11 := Lib.hid (K11.out.bw hb1); replace HW := Lib.hid (HW.out.trans hb1); clear hb1))
    obtain ⟨g13, hg1⟩ : ∃ g13, w7.heap.size = g13 := ⟨_, rfl⟩
    have K13 := Lib.hid (Blk.new w7 22 #[.int .i64 q0, .int .i64 q1, .int .i64 q2])
    have hb1 := Bw.alloc (Bw.refl w7) (.cells #[.int .i64 q0, .int .i64 q1, .int .i64 q2] 22)
    rw [hg1] at K13 ⊢
    replace K7 := Lib.hid (K7.out.bw hb1); replace K8 := Lib.hid (K8.out.bw hb1); replace K11 := Lib.hid (K11.out.bw hb1); replace HW := Lib.hid (HW.out.trans hb1); clear hb1
    generalize World.alloc w7 _ = z7 at *
    clear hg1
    go_upto_region 11 with (first | ((with_reducible refine at_load 32 (.tmp 8) ?_); refine wpList_load_row rfl 32 _ rfl g8 rfl 32 B (0, 0) _ K8.out Tryd.underlying32 rfl HCS.out ?_) | (go_at_call 20; (with_reducible refine Calls.mono (AE.out _ (HWD.out.bw HW.out)) ?_); rintro e1 w8 ⟨rfl, hb1⟩; replace K7 := Lib.hid (K7.out.bw hb1); replace K8 := Lib.hid (K8.out.bw hb1); replace K11 := Lib.hid (K11.out.bw hb1); replace K13 := Lib.hid (K13.out.bw hb1); replace HW := Lib.hid (HW.out.trans hb1); clear hb1))
    have d0 := K8.out.cell HP0.out
    have d1 := K8.out.cell HP1.out
    have f0 := K7.out.cell HE0.out
    have f2 := K7.out.cell HE2.out
    have hb33 : ¬ bq < 33 := by omega
    have hx0 : (X 0 != X 0) = false := by simp
    have hx2 : (X 2 != X 2) = false := by simp
    generalize X 0 = x0 at *
    generalize X 2 = x2 at *
    go_upto_region 13 with fail
    clear d0 d1 f0 f2 hb33 hx0 hx2 hq1 htb hwa htsb
    have a0 := K11.out.cell (show (#[.int .i64 p0, .int .i64 p1, .int .i64 p2] : Array Value)[0]? = _ from rfl)
    have a1 := K11.out.cell (show (#[.int .i64 p0, .int .i64 p1, .int .i64 p2] : Array Value)[1]? = _ from rfl)
    have a2 := K11.out.cell (show (#[.int .i64 p0, .int .i64 p1, .int .i64 p2] : Array Value)[2]? = _ from rfl)
    have b0 := K13.out.cell (show (#[.int .i64 q0, .int .i64 q1, .int .i64 q2] : Array Value)[0]? = _ from rfl)
    have b1 := K13.out.cell (show (#[.int .i64 q0, .int .i64 q1, .int .i64 q2] : Array Value)[1]? = _ from rfl)
    have b2 := K13.out.cell (show (#[.int .i64 q0, .int .i64 q1, .int .i64 q2] : Array Value)[2]? = _ from rfl)
    go_wp2_with (first | (go_at_call 21; (first | (with_reducible refine Calls.mono (NE0.out _) ?_) | (with_reducible refine Calls.mono (NE1.out _) ?_) | (with_reducible refine Calls.mono (NE2.out _) ?_)); rintro e1 w9 ⟨rfl, hb1⟩; replace a1 := hb1.cell' a1; replace a2 := hb1.cell' a2; replace b1 := hb1.cell' b1; replace b2 := hb1.cell' b2; replace HW := Lib.hid (HW.out.trans hb1); clear hb1) | (go_at_call 10; (with_reducible refine Calls.mono (AW.out _) ?_); rintro e1 w10 ⟨rfl, hb1⟩; replace HW := Lib.hid (HW.out.trans hb1); clear hb1))
    go_ret
    exact ⟨rfl, HW.out⟩
end Go.Proofs.Sky
