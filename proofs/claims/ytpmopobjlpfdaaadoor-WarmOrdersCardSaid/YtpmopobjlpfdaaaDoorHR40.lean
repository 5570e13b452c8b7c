/-
  lemmas for the theorems of this claim. No conditions beyond those written in the statements.
-/
import Derived.Test.YtpmopobjlpfdaaaDoorPW40
import Derived.Test.YtpmopobjlpfdaaaDoorF40
import Derived.Test.YtpmopobjlpfdaaaDoorBlkC
import Derived.Test.YtpmopobjlpfdaaaDoorFA25
set_option linter.unusedVariables false
set_option linter.unusedSimpArgs false
set_option linter.unnecessarySimpa false
namespace Go.Proofs.Sky
open Go Go.RowKit Go.Shelf
set_option maxHeartbeats 4000000
set_option maxRecDepth 8000
/-! chapter 40: the question that Predict asks -/
def X0p (x : Nat → Int) (u0 u1 u2 r t l c m : Int) : Nat → Int := fun i => if i < 13 then x i else [u0, u1, u2, r, t, l, c, m].getD (i - 13) 0
theorem atQ_bd {l0 l1 l2 d : Int} (h0 : -524288 ≤ l0 ∧ l0 ≤ 524287) (h1 : -8192 ≤ l1 ∧ l1 ≤ 8191) (h2 : -2048 ≤ l2 ∧ l2 ≤ 2047) (hd : -14400 ≤ d ∧ d ≤ 14400) : -1000000000 ≤ atQ l0 l1 l2 d ∧ atQ l0 l1 l2 d ≤ 1000000000 := by
  have m1 := mul_bd40 (a := l1) (b := d) (A := 8192) (B := 14400) (by omega) (by omega)
  have m2 := mul_bd40 (a := l2) (b := d) (A := 2048) (B := 14400) (by omega) (by omega)
  have m3 := mul_bd40 (a := l2 * d) (b := d) (A := 29491200) (B := 14400) (by omega) (by omega)
  unfold atQ rn
  generalize l2 * d * d = q at *
  generalize l1 * d = p at *
  split <;> omega
/-- the error -/
def prE (X : Nat → Int) : Int := if erQ X ≠ 0 then erQ X else if 14400 < ageQ X then 17 else 0
def pr2 (X : Nat → Int) : Nat → Int := upX (plS X) 22 (sprQ X)
def pr3 (X : Nat → Int) : Nat → Int := upX (pr2 X) 27 (upQ40 (pr2 X))
def pr4 (X : Nat → Int) (r : Int) : Nat → Int := diQ (pr3 X) r
theorem szW_le {n A : Int} (h : szW n ≤ A) : -A ≤ n ∧ n ≤ A := by unfold szW at h; omega
theorem sprQ_bd {X : Nat → Int} (hp : errPg X = 0) (hr : rgB X = true) (ha : ageQ X ≤ 14400) : 0 ≤ sprQ X ∧ sprQ X ≤ 45000000 := by
  obtain ⟨_, _, _, _, hr17, hr18, _, _⟩ := rgB_lim hr
  obtain ⟨_, _, hp2, hp3, hpx⟩ := pg_lim hp
  have ha0 : 0 ≤ ageQ X := by unfold ageQ szW; omega
  have h1 := sprK_bd (late := X 18) (a := ageQ X) hpx hr18 ⟨ha0, ha⟩ 3 (by omega)
  have m0 : 0 ≤ X 3 * ageQ X := Int.mul_nonneg hp3.1 ha0
  have m1 : X 3 * ageQ X ≤ 1048575 * 14400 := Int.mul_le_mul hp3.2 ha ha0 (by omega)
  unfold sprQ
  generalize X 3 * ageQ X = m at *
  have : 0 ≤ upW m 3600 ∧ upW m 3600 ≤ 4194300 := by unfold upW; omega
  omega
theorem mid2 {X : Nat → Int} (hp : errPg X = 0) (hr : rgB X = true) (ha : ageQ X ≤ 14400) : Mid (pr2 X) := by
  obtain ⟨u0, u1, u2, hr16, hr17, hr18, hr19, hr20⟩ := rgB_lim hr
  obtain ⟨_, hp1, hp2, hp3, hpx⟩ := pg_lim hp
  have hsp := sprQ_bd hp hr ha
  have hd : -14400 ≤ arQ (X 17 - X 1) ∧ arQ (X 17 - X 1) ≤ 14400 := by unfold ageQ szW at ha; omega
  have HT : errTm X (X 17) = 0 := by unfold errTm; rw [if_neg (by omega), if_neg (by omega)]
  have hat : ∀ j, j < 3 → -1000000000 ≤ atP X (X 17) j ∧ atP X (X 17) j ≤ 1000000000 := fun j hj => by
    unfold atP
    rw [if_pos HT]
    exact atQ_bd (hpx j hj).1 (hpx j hj).2.1 (hpx j hj).2.2 hd
  refine ⟨fun k hk => ?_, fun k hk => ?_, hr16, ?_, hr19, hr20⟩
  · match k, hk with
    | 0, _ => exact szW_le u0
    | 1, _ => exact szW_le u1
    | 2, _ => exact szW_le u2
  · match k, hk with
    | 0, _ => exact hat 0 (by omega)
    | 1, _ => exact hat 1 (by omega)
    | 2, _ => exact hat 2 (by omega)
  · exact hsp
theorem mid3 {X : Nat → Int} (h : Mid (pr2 X)) : Mid (pr3 X) := ⟨fun k hk => by
    have h9 := h.u k hk
    unfold pr3
    rwa [upX_ne _ _ (by omega)], fun k hk => by
    have h9 := h.s k hk
    unfold pr3
    rwa [upX_ne _ _ (by omega)], h.r, h.w, h.c, h.m⟩
theorem X0_pg (x : Nat → Int) (u0 u1 u2 r t l c m : Int) : errPg (X0p x u0 u1 u2 r t l c m) = errPg x := errPg_congr (fun i hi => by unfold X0p; rw [if_pos hi])
end Go.Proofs.Sky

namespace Go.Proofs.Sky
open Go Go.RowKit Go.Shelf
attribute [local go_sem] Oper.semAt_some
set_option maxHeartbeats 4000000
set_option maxRecDepth 8000
/-! chapter 40: Predict -/
theorem X0_arr (x : Nat → Int) (u0 u1 u2 r t l c m : Int) : ((Value.int .i64 (x 0) :: Value.int .i64 (x 1) :: Value.int .i64 (x 2) :: Value.int .i64 (x 3) :: Value.int .i64 (x 4) :: Value.int .i64 (x 5) :: Value.int .i64 (x 6) :: Value.int .i64 (x 7) :: Value.int .i64 (x 8) :: Value.int .i64 (x 9) :: Value.int .i64 (x 10) :: Value.int .i64 (x 11) :: Value.int .i64 (x 12) :: Value.int .i64 u0 :: Value.int .i64 u1 :: Value.int .i64 u2 :: Value.int .i64 r :: Value.int .i64 t :: Value.int .i64 l :: Value.int .i64 c :: Value.int .i64 m :: Value.int .i64 0 :: Value.int .i64 0 :: Value.int .i64 0 :: Value.int .i64 0 :: Value.int .i64 0 :: Value.int .i64 0 :: Value.int .i64 0 :: Value.int .i64 0 :: Value.int .i64 0 :: Value.int .i64 0 :: Value.int .i64 0 :: Value.int .i64 0 :: []).toArray : Array Value) = qV (X0p x u0 u1 u2 r t l c m) := rfl
def hV (X : Nat → Int) : Array Value := #[.int .i64 (X 26), .int .i64 (X 27), .int .i64 (X 28), .int .i64 (X 29), .int .i64 (X 30), .int .i64 (X 31)]
theorem QBlk.hint {w : World} {g : Nat} {X : Nat → Int} (h : QBlk w g X) : w.rangeAt g 26 (hV X).toList := fun i u hu => by
  have hi : i < 6 := (List.getElem?_eq_some_iff.1 hu).1
  match i, hi with
  | 0, _ => simp [hV] at hu; subst hu; exact h.at 26 (by omega)
  | 1, _ => simp [hV] at hu; subst hu; exact h.at 27 (by omega)
  | 2, _ => simp [hV] at hu; subst hu; exact h.at 28 (by omega)
  | 3, _ => simp [hV] at hu; subst hu; exact h.at 29 (by omega)
  | 4, _ => simp [hV] at hu; subst hu; exact h.at 30 (by omega)
  | 5, _ => simp [hV] at hu; subst hu; exact h.at 31 (by omega)
/-- what the four steps come to -/
theorem steps_err (X : Nat → Int) (g : Nat) (he : prE X ≠ 0) (h32 : X 32 = 0) (h22 : X 22 = 0) (hu : ∀ k, k < 3 → -4000000000000000000 ≤ X (13 + k) ∧ X (13 + k) ≤ 4000000000000000000) (hg0 : 0 < g) : ∃ Y1 Y2 : Nat → Int, Y2 32 = prE X ∧
    (∀ w, WdAt w → QBlk w g X → Calls Tryd.prog 24 #[.pointer (some ⟨g, 0, none⟩)] w fun e w' => e = .returned (.pointer (some ⟨g, 0, none⟩)) ∧ QBlk w' g Y1 ∧ Kx g w w') ∧
    (∀ w, WdAt w → QBlk w g Y1 → Calls Tryd.prog 25 #[.pointer (some ⟨g, 0, none⟩)] w fun e w' => e = .returned (.pointer (some ⟨g, 0, none⟩)) ∧ QBlk w' g Y2 ∧ Kx g w w') ∧
    (∀ w, QBlk w g Y2 → Calls Tryd.prog 26 #[.pointer (some ⟨g, 0, none⟩)] w fun e w' => e = .returned (.pointer (some ⟨g, 0, none⟩)) ∧ QBlk w' g Y2 ∧ Kx g w w') ∧
    (∀ w, QBlk w g Y2 → Calls Tryd.prog 27 #[.pointer (some ⟨g, 0, none⟩)] w fun e w' => e = .returned (.pointer (some ⟨g, 0, none⟩)) ∧ QBlk w' g Y2 ∧ Kx g w w') := by
  have hck := fun w hw hq => check40_any X g w hw hq hu
  by_cases h1 : erQ X = 0
  · have hE : prE X = 17 := by
      unfold prE at he ⊢
      rw [if_neg (by simpa using h1)] at he ⊢
      by_cases h2 : 14400 < ageQ X
      · rw [if_pos h2]
      · rw [if_neg h2] at he; exact absurd rfl he
    have hag : 14400 < ageQ X := by
      unfold prE at hE
      rw [if_neg (by simpa using h1)] at hE
      by_cases h2 : 14400 < ageQ X
      · exact h2
      · rw [if_neg h2] at hE; omega
    have hpr : errPg X = 0 ∧ rgB X = true := by
      unfold erQ at h1
      by_cases h3 : errPg X = 0
      · rw [if_neg (by simpa using h3)] at h1
        refine ⟨h3, ?_⟩
        by_cases h4 : rgB X = true
        · exact h4
        · rw [if_neg h4] at h1; omega
      · rw [if_pos h3] at h1; exact absurd h1 h3
    have hX : upX X 32 (erQ X) = X := upX_id _ _ _ (by rw [h32, h1])
    rw [hX] at hck
    have hpl : plQ X = upX (plA X) 32 17 := by unfold plQ; rw [if_pos hag]
    refine ⟨X, upX (plA X) 32 17, by rw [hE]; exact upX_same _ _ _, hck, fun w hw hq => by rw [← hpl]; exact place40_any X g w hw hg0 hq h32 h22 hpr.1 hpr.2, fun w hq => height40_bad _ g w hq (by rw [upX_same]; decide), fun w hq => distance40_bad _ g w hq (by rw [upX_same]; decide)⟩
  · have hE : prE X = erQ X := by unfold prE; rw [if_pos h1]
    have hne : upX X 32 (erQ X) 32 ≠ 0 := by rw [upX_same]; exact h1
    exact ⟨upX X 32 (erQ X), upX X 32 (erQ X), by rw [hE]; exact upX_same _ _ _, hck, fun w _ hq => place40_bad _ g w hq hne, fun w hq => height40_bad _ g w hq hne, fun w hq => distance40_bad _ g w hq hne⟩
theorem er_ok {X : Nat → Int} (he : prE X = 0) : erQ X = 0 ∧ errPg X = 0 ∧ rgB X = true ∧ ageQ X ≤ 14400 := by
  unfold prE at he
  by_cases h1 : erQ X = 0
  · rw [if_neg (by simpa using h1)] at he
    refine ⟨h1, ?_⟩
    have h2 : ageQ X ≤ 14400 := by
      by_cases h2 : 14400 < ageQ X
      · rw [if_pos h2] at he; omega
      · omega
    unfold erQ at h1
    by_cases h3 : errPg X = 0
    · rw [if_neg (by simpa using h3)] at h1
      refine ⟨h3, ?_, h2⟩
      by_cases h4 : rgB X = true
      · exact h4
      · rw [if_neg h4] at h1; omega
    · rw [if_pos h3] at h1; exact absurd h1 h3
  · rw [if_pos h1] at he; exact absurd he h1
theorem steps_ok (X : Nat → Int) (g : Nat) (q : Int) (he : prE X = 0) (h32 : X 32 = 0) (h22 : X 22 = 0) (hu : ∀ k, k < 3 → -4000000000000000000 ≤ X (13 + k) ∧ X (13 + k) ≤ 4000000000000000000) (hg0 : 0 < g) (hq0 : 0 ≤ q) (hq1 : q * q ≤ sK40 (pr3 X) 3) (hq2 : sK40 (pr3 X) 3 < (q + 1) * (q + 1)) :
    (∀ w, WdAt w → QBlk w g X → Calls Tryd.prog 24 #[.pointer (some ⟨g, 0, none⟩)] w fun e w' => e = .returned (.pointer (some ⟨g, 0, none⟩)) ∧ QBlk w' g X ∧ Kx g w w') ∧
    (∀ w, WdAt w → QBlk w g X → Calls Tryd.prog 25 #[.pointer (some ⟨g, 0, none⟩)] w fun e w' => e = .returned (.pointer (some ⟨g, 0, none⟩)) ∧ QBlk w' g (pr2 X) ∧ Kx g w w') ∧
    (∀ w, QBlk w g (pr2 X) → Calls Tryd.prog 26 #[.pointer (some ⟨g, 0, none⟩)] w fun e w' => e = .returned (.pointer (some ⟨g, 0, none⟩)) ∧ QBlk w' g (pr3 X) ∧ Kx g w w') ∧
    (∀ w, QBlk w g (pr3 X) → Calls Tryd.prog 27 #[.pointer (some ⟨g, 0, none⟩)] w fun e w' => e = .returned (.pointer (some ⟨g, 0, none⟩)) ∧ QBlk w' g (pr4 X q) ∧ Kx g w w') := by
  obtain ⟨h1, hp, hr, ha⟩ := er_ok he
  have hck := fun w hw hq => check40_any X g w hw hq hu
  rw [upX_id _ _ _ (by rw [h32, h1])] at hck
  have hpl : plQ X = pr2 X := by unfold plQ; rw [if_neg (by omega)]; rfl
  have hm2 := mid2 hp hr ha
  refine ⟨hck, fun w hw hq => by rw [← hpl]; exact place40_any X g w hw hg0 hq h32 h22 hp hr, fun w hq => height40_any _ g w hq (by show X 32 = 0; exact h32) hm2, fun w hq => distance40_any _ g q w hq (by show X 32 = 0; exact h32) (mid3 hm2) hq0 hq1 hq2⟩
theorem Predict_err (x : Nat → Int) (u0 u1 u2 r t l c m : Int) (w : World) (hw : WdAt w) (he : prE (X0p x u0 u1 u2 r t l c m) ≠ 0) (hu : ∀ k, k < 3 → -4000000000000000000 ≤ [u0, u1, u2].getD k 0 ∧ [u0, u1, u2].getD k 0 ≤ 4000000000000000000) :
    Calls Tryd.prog 7 #[.agg (pgV x), .agg #[.int .i64 u0, .int .i64 u1, .int .i64 u2], .int .i64 r, .int .i64 t, .int .i64 l, .int .i64 c, .int .i64 m] w fun e w' => e = .returned (.tuple #[.agg #[.int .i64 0, .int .i64 0, .int .i64 0, .int .i64 0, .int .i64 0, .int .i64 0], .int .i64 (prE (X0p x u0 u1 u2 r t l c m))]) ∧ Bw w w' := by
  have HXA := Lib.hid (X0_arr x u0 u1 u2 r t l c m)
  have HST := Lib.hid (fun g hg0 => steps_err (X0p x u0 u1 u2 r t l c m) g he rfl rfl (fun k hk => by match k, hk with | 0, _ => exact hu 0 (by omega) | 1, _ => exact hu 1 (by omega) | 2, _ => exact hu 2 (by omega)) hg0)
  generalize X0p x u0 u1 u2 r t l c m = X at *
  have HE := Lib.hid he
  clear he hu
  have HWD := Lib.hid hw
  have hw0 := hw.1
  have HB := Lib.hid (Bw.alloc (Bw.alloc (Bw.alloc (Bw.refl w) (.cells (pgV x) 29)) (.cells #[.int .i64 u0, .int .i64 u1, .int .i64 u2] 32)) (.cells #[.int .i64 0, .int .i64 0, .int .i64 0, .int .i64 0, .int .i64 0, .int .i64 0] 23))
  have K7 := Lib.hid (((Blk.new w 29 (pgV x)).alloc (.cells #[.int .i64 u0, .int .i64 u1, .int .i64 u2] 32)).alloc (.cells #[.int .i64 0, .int .i64 0, .int .i64 0, .int .i64 0, .int .i64 0, .int .i64 0] 23))
  have K8 := Lib.hid ((Blk.new (w.alloc (.cells (pgV x) 29)) 32 #[.int .i64 u0, .int .i64 u1, .int .i64 u2]).alloc (.cells #[.int .i64 0, .int .i64 0, .int .i64 0, .int .i64 0, .int .i64 0, .int .i64 0] 23))
  have K14 := Lib.hid (Blk.new ((w.alloc (.cells (pgV x) 29)).alloc (.cells #[.int .i64 u0, .int .i64 u1, .int .i64 u2] 32)) 23 #[.int .i64 0, .int .i64 0, .int .i64 0, .int .i64 0, .int .i64 0, .int .i64 0])
  have HSZ : Hid ((Tryd.prog.info? 29).map (·.size) = some (pgV x).size) := Lib.hid (by kernel_rfl)
  simp only [World.size_alloc] at K8 K14
  obtain ⟨g, hg⟩ : ∃ g, w.heap.size = g := ⟨_, rfl⟩
  rw [hg] at K7 K8 K14
  have HG := Lib.hid hg
  have hgs : ∀ W : World, Bw (((w.alloc (.cells (pgV x) 29)).alloc (.cells #[.int .i64 u0, .int .i64 u1, .int .i64 u2] 32)).alloc (.cells #[.int .i64 0, .int .i64 0, .int .i64 0, .int .i64 0, .int .i64 0, .int .i64 0] 23)) W → g + 3 ≤ W.heap.size := fun W h => by have := h.size; simp only [World.size_alloc] at this; omega
  clear hw
  go_enter Tryd.func7, Tryd.ntmps7
  go_upto_region 1 with fail
  (try rw [hg])
  obtain ⟨W0, hW0⟩ : ∃ W0, ((w.alloc (.cells (pgV x) 29)).alloc (.cells #[.int .i64 u0, .int .i64 u1, .int .i64 u2] 32)).alloc (.cells #[.int .i64 0, .int .i64 0, .int .i64 0, .int .i64 0, .int .i64 0, .int .i64 0] 23) = W0 := ⟨_, rfl⟩
  rw [hW0] at K7 K8 K14 HB hgs ⊢
  clear hW0 hg
  have d0 := K8.out.cell (show (#[.int .i64 u0, .int .i64 u1, .int .i64 u2] : Array Value)[0]? = some (.int .i64 u0) from rfl)
  have d1 := K8.out.cell (show (#[.int .i64 u0, .int .i64 u1, .int .i64 u2] : Array Value)[1]? = some (.int .i64 u1) from rfl)
  have d2 := K8.out.cell (show (#[.int .i64 u0, .int .i64 u1, .int .i64 u2] : Array Value)[2]? = some (.int .i64 u2) from rfl)
  unfold pgV at K7 HSZ
  go_upto_region 2 with ((with_reducible refine at_load 29 (.tmp 7) ?_); refine wpList_load_row rfl 29 _ rfl g (by simp [Act.eval, Act.put]) 29 #[.int .i64 (x 0), .int .i64 (x 1), .int .i64 (x 2), .int .i64 (x 3), .int .i64 (x 4), .int .i64 (x 5), .int .i64 (x 6), .int .i64 (x 7), .int .i64 (x 8), .int .i64 (x 9), .int .i64 (x 10), .int .i64 (x 11), .int .i64 (x 12)] (0, 0) _ K7.out Tryd.underlying29 rfl HSZ.out ?_)
  obtain ⟨g16, hg16⟩ : ∃ g16, W0.heap.size = g16 := ⟨_, rfl⟩
  rw [hg16]
  have HN16 := Lib.hid (show g + 3 ≤ g16 by have := hgs W0 (Bw.refl _); omega)
  generalize hW1 : World.alloc W0 _ = W1
  have hb1 : Bw W0 W1 := by rw [← hW1]; exact Bw.alloc (Bw.refl W0) _
  have NB : Blk W1 g16 56 (qV X) := by rw [← hW1, ← HXA.out, ← hg16]; exact Blk.new W0 56 (Value.int .i64 (x 0) :: Value.int .i64 (x 1) :: Value.int .i64 (x 2) :: Value.int .i64 (x 3) :: Value.int .i64 (x 4) :: Value.int .i64 (x 5) :: Value.int .i64 (x 6) :: Value.int .i64 (x 7) :: Value.int .i64 (x 8) :: Value.int .i64 (x 9) :: Value.int .i64 (x 10) :: Value.int .i64 (x 11) :: Value.int .i64 (x 12) :: Value.int .i64 u0 :: Value.int .i64 u1 :: Value.int .i64 u2 :: Value.int .i64 r :: Value.int .i64 t :: Value.int .i64 l :: Value.int .i64 c :: Value.int .i64 m :: Value.int .i64 0 :: Value.int .i64 0 :: Value.int .i64 0 :: Value.int .i64 0 :: Value.int .i64 0 :: Value.int .i64 0 :: Value.int .i64 0 :: Value.int .i64 0 :: Value.int .i64 0 :: Value.int .i64 0 :: Value.int .i64 0 :: Value.int .i64 0 :: []).toArray
  have HQ := Lib.hid (show QBlk W1 g16 X from NB)
  have HBW := Lib.hid (HB.out.trans hb1)
  have HWG := Lib.hid (show w.heap.size ≤ g16 by have := HG.out; have := HN16.out; omega)
  replace K14 := Lib.hid (K14.out.bw hb1)
  have HWD1 := Lib.hid (HWD.out.bw HBW.out)
  clear NB hb1 hW1 hg16 d0 d1 d2 K7 K8 HSZ HB hgs HXA
  obtain ⟨Y1, Y2, hy, c1, c2, c3, c4⟩ := HST.out g16 (by have := HN16.out; omega)
  have HY := Lib.hid hy
  have C1 := Lib.hid c1
  have C2 := Lib.hid c2
  have C3 := Lib.hid c3
  have C4 := Lib.hid c4
  clear HST hy c1 c2 c3 c4
  obtain ⟨E, hE⟩ : ∃ E, E = prE X := ⟨_, rfl⟩
  have HEE := Lib.hid hE
  rw [← hE] at HE HY
  clear hE
  have hne : (E != 0) = true := by simpa using HE.out
  have hne2 : (E == 0) = false := by simpa using HE.out
  go_upto_region 3 with (first | (go_at_call 24; (with_reducible refine Calls.mono (C1.out _ HWD1.out HQ.out) ?_); rintro e1 wa ⟨rfl, hq9, hk9⟩; replace HQ := Lib.hid hq9; replace HBW := Lib.hid (hk9.bw HBW.out HWG.out); replace HWD1 := Lib.hid (HWD1.out.kx hk9 (by have := HN16.out; omega)); replace K14 := Lib.hid (hk9.blk K14.out (by have := HN16.out; omega)); clear hq9 hk9) | (go_at_call 25; (with_reducible refine Calls.mono (C2.out _ HWD1.out HQ.out) ?_); rintro e1 wb ⟨rfl, hq9, hk9⟩; replace HQ := Lib.hid hq9; replace HBW := Lib.hid (hk9.bw HBW.out HWG.out); replace HWD1 := Lib.hid (HWD1.out.kx hk9 (by have := HN16.out; omega)); replace K14 := Lib.hid (hk9.blk K14.out (by have := HN16.out; omega)); clear hq9 hk9) | (go_at_call 26; (with_reducible refine Calls.mono (C3.out _ HQ.out) ?_); rintro e1 wc ⟨rfl, hq9, hk9⟩; replace HQ := Lib.hid hq9; replace HBW := Lib.hid (hk9.bw HBW.out HWG.out); replace HWD1 := Lib.hid (HWD1.out.kx hk9 (by have := HN16.out; omega)); replace K14 := Lib.hid (hk9.blk K14.out (by have := HN16.out; omega)); clear hq9 hk9) | (go_at_call 27; (with_reducible refine Calls.mono (C4.out _ HQ.out) ?_); rintro e1 we ⟨rfl, hq9, hk9⟩; replace HQ := Lib.hid hq9; replace HBW := Lib.hid (hk9.bw HBW.out HWG.out); replace HWD1 := Lib.hid (HWD1.out.kx hk9 (by have := HN16.out; omega)); replace K14 := Lib.hid (hk9.blk K14.out (by have := HN16.out; omega)); have d32 := HQ.out.at 32 (by omega); rw [HY.out] at d32; clear hq9 hk9))
  clear d32
  obtain ⟨wd, hwd⟩ : ∃ wd, wd = we := ⟨_, rfl⟩
  subst hwd
  refine wp_region_held_drew (S := fun W => Bw w W ∧ W.cell? ⟨g16, 32, none⟩ = some (.int .i64 E)) (by kernel_rfl) ⟨Bw.drew HBW.out, by have h9 := (HQ.out.bw (Bw.drew (Bw.refl wd))).at 32 (by omega); rw [HY.out] at h9; exact h9⟩ (fun hS => ?_)
  replace K14 := Lib.hid (K14.out.bw (Bw.drew (Bw.refl wd)))
  replace HQ := Lib.hid (HQ.out.bw (Bw.drew (Bw.refl wd)))
  clear HBW HWD1
  generalize World.drew _ = wd at *
  refine take1 (i := 0) (some 41) rfl rfl (by kernel_rfl) (by kernel_rfl) (by kernel_rfl) (fun _ _ _ _ h => h) rfl hS ?_
  apply Exists.intro
  apply And.intro
  · intro W9 hW9; skip; go_simp; try with_reducible rfl
  simp only [Act.put, List.setIfInBounds_toArray, List.set_cons_zero, List.set_cons_succ]
  refine take1 (i := 1) (some 42) rfl rfl (by kernel_rfl) (by kernel_rfl) (by kernel_rfl) (fun _ _ _ _ h => h) rfl hS ?_
  apply Exists.intro
  apply And.intro
  · intro W9 hW9; skip; go_simp; try with_reducible rfl
  simp only [Act.put, List.setIfInBounds_toArray, List.set_cons_zero, List.set_cons_succ]
  refine take1 (i := 2) (some 43) rfl rfl (by kernel_rfl) (by kernel_rfl) (by kernel_rfl) (fun _ _ _ _ h => h) rfl hS ?_
  apply Exists.intro
  apply And.intro
  · intro W9 hW9; skip; go_simp; try with_reducible rfl
  simp only [Act.put, List.setIfInBounds_toArray, List.set_cons_zero, List.set_cons_succ]
  refine take1 (i := 3) (some 44) rfl rfl (by kernel_rfl) (by kernel_rfl) (by kernel_rfl) (fun _ _ _ _ h => h) rfl hS ?_
  apply Exists.intro
  apply And.intro
  · intro W9 hW9; skip; go_simp; try with_reducible rfl
  simp only [Act.put, List.setIfInBounds_toArray, List.set_cons_zero, List.set_cons_succ]
  refine take1 (i := 4) (some 45) rfl rfl (by kernel_rfl) (by kernel_rfl) (by kernel_rfl) (fun _ _ _ _ h => h) rfl hS ?_
  refine Exists.intro (.int .i64 E) ?_
  apply And.intro
  · intro W9 hW9; skip; (have c0 := hW9.2); go_simp; try with_reducible rfl
  simp only [Act.put, List.setIfInBounds_toArray, List.set_cons_zero, List.set_cons_succ]
  refine wpAnyH_ready (rs := [5]) (by kernel_rfl) (by simp) ?_
  refine AllReadyH.cons rfl (fun K hK => ?_) ?_
  rw [if_pos (by rfl)]
  refine wp_store_row0 23 _ _ rfl rfl (g + 1 + 1) #[.int .i64 0, .int .i64 0, .int .i64 0, .int .i64 0, .int .i64 0, .int .i64 0] rfl rfl 23 #[.int .i64 0, .int .i64 0, .int .i64 0, .int .i64 0, .int .i64 0, .int .i64 0] K14.out (by kernel_rfl) rfl (by simp [Value.oneCell']) ?_
  have hS9 := And.intro (Bw.setRow hS.1 (show w.heap.size ≤ g + 1 + 1 by have := HG.out; omega) #[.int .i64 0, .int .i64 0, .int .i64 0, .int .i64 0, .int .i64 0, .int .i64 0]) (show World.cell? _ ⟨g16, 32, none⟩ = some (.int .i64 E) by have h9 := (Blk.row_other HQ.out (g' := g + 1 + 1) (by have := HN16.out; omega) #[.int .i64 0, .int .i64 0, .int .i64 0, .int .i64 0, .int .i64 0, .int .i64 0]); have h8 := Blk.cell h9 (qV_at Y2 32 (by omega)); rw [HY.out] at h8; exact h8)
  replace K14 := Lib.hid (K14.out.row #[.int .i64 0, .int .i64 0, .int .i64 0, .int .i64 0, .int .i64 0, .int .i64 0])
  clear hS HQ
  refine hK.out _ _ hS9 (fun hS => ?_)
  clear hK K
  clear hS9
  refine take1 (i := 6) (some 15) rfl rfl (by kernel_rfl) (by kernel_rfl) (by kernel_rfl) (fun _ _ _ _ h => h) rfl hS ?_
  apply Exists.intro
  apply And.intro
  · intro W9 hW9; skip; go_simp; try with_reducible rfl
  simp only [Act.put, List.setIfInBounds_toArray, List.set_cons_zero, List.set_cons_succ]
  refine wpAnyH_done (by kernel_rfl) ?_ _
  rotate_left
  exact AllReadyH.nil
  all_goals
    go_wp2
    refine bodyPost_ret (v := .tuple #[.agg #[.int .i64 0, .int .i64 0, .int .i64 0, .int .i64 0, .int .i64 0, .int .i64 0], .int .i64 E]) ?_ rfl ⟨by rw [HEE.out], hS.1⟩
    exact results_two_row (p := 14) (u := 15) rfl _ _ (g + 1 + 1) _ rfl (run_loadVar_row _ (g + 1 + 1) 23 23 #[.int .i64 0, .int .i64 0, .int .i64 0, .int .i64 0, .int .i64 0, .int .i64 0] (0, 0) _ K14.out Tryd.underlying23 rfl (by kernel_rfl))
theorem Predict_ok (x : Nat → Int) (u0 u1 u2 r t l c m q : Int) (w : World) (hw : WdAt w) (he : prE (X0p x u0 u1 u2 r t l c m) = 0) (hu : ∀ k, k < 3 → -4000000000000000000 ≤ [u0, u1, u2].getD k 0 ∧ [u0, u1, u2].getD k 0 ≤ 4000000000000000000)
    (hq0 : 0 ≤ q) (hq1 : q * q ≤ sK40 (pr3 (X0p x u0 u1 u2 r t l c m)) 3) (hq2 : sK40 (pr3 (X0p x u0 u1 u2 r t l c m)) 3 < (q + 1) * (q + 1)) :
    Calls Tryd.prog 7 #[.agg (pgV x), .agg #[.int .i64 u0, .int .i64 u1, .int .i64 u2], .int .i64 r, .int .i64 t, .int .i64 l, .int .i64 c, .int .i64 m] w fun e w' => e = .returned (.tuple #[.agg (hV (pr4 (X0p x u0 u1 u2 r t l c m) q)), .int .i64 0]) ∧ Bw w w' := by
  have HXA := Lib.hid (X0_arr x u0 u1 u2 r t l c m)
  have HST := Lib.hid (fun g hg0 => steps_ok (X0p x u0 u1 u2 r t l c m) g q he rfl rfl (fun k hk => by match k, hk with | 0, _ => exact hu 0 (by omega) | 1, _ => exact hu 1 (by omega) | 2, _ => exact hu 2 (by omega)) hg0 hq0 hq1 hq2)
  have h320 : X0p x u0 u1 u2 r t l c m 32 = 0 := rfl
  generalize X0p x u0 u1 u2 r t l c m = X at *
  have H4 := Lib.hid (show pr4 X q 32 = 0 from by show X 32 = 0; exact h320)
  clear he hu hq0 hq1 hq2
  have HWD := Lib.hid hw
  have hw0 := hw.1
  have HB := Lib.hid (Bw.alloc (Bw.alloc (Bw.alloc (Bw.refl w) (.cells (pgV x) 29)) (.cells #[.int .i64 u0, .int .i64 u1, .int .i64 u2] 32)) (.cells #[.int .i64 0, .int .i64 0, .int .i64 0, .int .i64 0, .int .i64 0, .int .i64 0] 23))
  have K7 := Lib.hid (((Blk.new w 29 (pgV x)).alloc (.cells #[.int .i64 u0, .int .i64 u1, .int .i64 u2] 32)).alloc (.cells #[.int .i64 0, .int .i64 0, .int .i64 0, .int .i64 0, .int .i64 0, .int .i64 0] 23))
  have K8 := Lib.hid ((Blk.new (w.alloc (.cells (pgV x) 29)) 32 #[.int .i64 u0, .int .i64 u1, .int .i64 u2]).alloc (.cells #[.int .i64 0, .int .i64 0, .int .i64 0, .int .i64 0, .int .i64 0, .int .i64 0] 23))
  have K14 := Lib.hid (Blk.new ((w.alloc (.cells (pgV x) 29)).alloc (.cells #[.int .i64 u0, .int .i64 u1, .int .i64 u2] 32)) 23 #[.int .i64 0, .int .i64 0, .int .i64 0, .int .i64 0, .int .i64 0, .int .i64 0])
  have HSZ : Hid ((Tryd.prog.info? 29).map (·.size) = some (pgV x).size) := Lib.hid (by kernel_rfl)
  simp only [World.size_alloc] at K8 K14
  obtain ⟨g, hg⟩ : ∃ g, w.heap.size = g := ⟨_, rfl⟩
  rw [hg] at K7 K8 K14
  have HG := Lib.hid hg
  have hgs : ∀ W : World, Bw (((w.alloc (.cells (pgV x) 29)).alloc (.cells #[.int .i64 u0, .int .i64 u1, .int .i64 u2] 32)).alloc (.cells #[.int .i64 0, .int .i64 0, .int .i64 0, .int .i64 0, .int .i64 0, .int .i64 0] 23)) W → g + 3 ≤ W.heap.size := fun W h => by have := h.size; simp only [World.size_alloc] at this; omega
  clear hw
  go_enter Tryd.func7, Tryd.ntmps7
  go_upto_region 1 with fail
  (try rw [hg])
  obtain ⟨W0, hW0⟩ : ∃ W0, ((w.alloc (.cells (pgV x) 29)).alloc (.cells #[.int .i64 u0, .int .i64 u1, .int .i64 u2] 32)).alloc (.cells #[.int .i64 0, .int .i64 0, .int .i64 0, .int .i64 0, .int .i64 0, .int .i64 0] 23) = W0 := ⟨_, rfl⟩
  rw [hW0] at K7 K8 K14 HB hgs ⊢
  clear hW0 hg
  have d0 := K8.out.cell (show (#[.int .i64 u0, .int .i64 u1, .int .i64 u2] : Array Value)[0]? = some (.int .i64 u0) from rfl)
  have d1 := K8.out.cell (show (#[.int .i64 u0, .int .i64 u1, .int .i64 u2] : Array Value)[1]? = some (.int .i64 u1) from rfl)
  have d2 := K8.out.cell (show (#[.int .i64 u0, .int .i64 u1, .int .i64 u2] : Array Value)[2]? = some (.int .i64 u2) from rfl)
  unfold pgV at K7 HSZ
  go_upto_region 2 with ((with_reducible refine at_load 29 (.tmp 7) ?_); refine wpList_load_row rfl 29 _ rfl g (by simp [Act.eval, Act.put]) 29 #[.int .i64 (x 0), .int .i64 (x 1), .int .i64 (x 2), .int .i64 (x 3), .int .i64 (x 4), .int .i64 (x 5), .int .i64 (x 6), .int .i64 (x 7), .int .i64 (x 8), .int .i64 (x 9), .int .i64 (x 10), .int .i64 (x 11), .int .i64 (x 12)] (0, 0) _ K7.out Tryd.underlying29 rfl HSZ.out ?_)
  obtain ⟨g16, hg16⟩ : ∃ g16, W0.heap.size = g16 := ⟨_, rfl⟩
  rw [hg16]
  have HN16 := Lib.hid (show g + 3 ≤ g16 by have := hgs W0 (Bw.refl _); omega)
  generalize hW1 : World.alloc W0 _ = W1
  have hb1 : Bw W0 W1 := by rw [← hW1]; exact Bw.alloc (Bw.refl W0) _
  have NB : Blk W1 g16 56 (qV X) := by rw [← hW1, ← HXA.out, ← hg16]; exact Blk.new W0 56 (Value.int .i64 (x 0) :: Value.int .i64 (x 1) :: Value.int .i64 (x 2) :: Value.int .i64 (x 3) :: Value.int .i64 (x 4) :: Value.int .i64 (x 5) :: Value.int .i64 (x 6) :: Value.int .i64 (x 7) :: Value.int .i64 (x 8) :: Value.int .i64 (x 9) :: Value.int .i64 (x 10) :: Value.int .i64 (x 11) :: Value.int .i64 (x 12) :: Value.int .i64 u0 :: Value.int .i64 u1 :: Value.int .i64 u2 :: Value.int .i64 r :: Value.int .i64 t :: Value.int .i64 l :: Value.int .i64 c :: Value.int .i64 m :: Value.int .i64 0 :: Value.int .i64 0 :: Value.int .i64 0 :: Value.int .i64 0 :: Value.int .i64 0 :: Value.int .i64 0 :: Value.int .i64 0 :: Value.int .i64 0 :: Value.int .i64 0 :: Value.int .i64 0 :: Value.int .i64 0 :: Value.int .i64 0 :: []).toArray
  have HQ := Lib.hid (show QBlk W1 g16 X from NB)
  have HBW := Lib.hid (HB.out.trans hb1)
  have HWG := Lib.hid (show w.heap.size ≤ g16 by have := HG.out; have := HN16.out; omega)
  replace K14 := Lib.hid (K14.out.bw hb1)
  have HWD1 := Lib.hid (HWD.out.bw HBW.out)
  clear NB hb1 hW1 hg16 d0 d1 d2 K7 K8 HSZ HB hgs HXA
  obtain ⟨c1, c2, c3, c4⟩ := HST.out g16 (by have := HN16.out; omega)
  have C1 := Lib.hid c1
  have C2 := Lib.hid c2
  have C3 := Lib.hid c3
  have C4 := Lib.hid c4
  clear HST c1 c2 c3 c4
  generalize pr2 X = X2 at *
  generalize pr3 X = X3 at *
  obtain ⟨X4, h4⟩ : ∃ X4, X4 = pr4 X q := ⟨_, rfl⟩
  have H44 := Lib.hid h4
  rw [← h4] at C4 H4
  clear h4
  go_upto_region 4 with (first | (go_at_call 24; (with_reducible refine Calls.mono (C1.out _ HWD1.out HQ.out) ?_); rintro e1 wa ⟨rfl, hq9, hk9⟩; replace HQ := Lib.hid hq9; replace HBW := Lib.hid (hk9.bw HBW.out HWG.out); replace HWD1 := Lib.hid (HWD1.out.kx hk9 (by have := HN16.out; omega)); replace K14 := Lib.hid (hk9.blk K14.out (by have := HN16.out; omega)); clear hq9 hk9) | (go_at_call 25; (with_reducible refine Calls.mono (C2.out _ HWD1.out HQ.out) ?_); rintro e1 wb ⟨rfl, hq9, hk9⟩; replace HQ := Lib.hid hq9; replace HBW := Lib.hid (hk9.bw HBW.out HWG.out); replace HWD1 := Lib.hid (HWD1.out.kx hk9 (by have := HN16.out; omega)); replace K14 := Lib.hid (hk9.blk K14.out (by have := HN16.out; omega)); clear hq9 hk9) | (go_at_call 26; (with_reducible refine Calls.mono (C3.out _ HQ.out) ?_); rintro e1 wc ⟨rfl, hq9, hk9⟩; replace HQ := Lib.hid hq9; replace HBW := Lib.hid (hk9.bw HBW.out HWG.out); replace HWD1 := Lib.hid (HWD1.out.kx hk9 (by have := HN16.out; omega)); replace K14 := Lib.hid (hk9.blk K14.out (by have := HN16.out; omega)); clear hq9 hk9) | (go_at_call 27; (with_reducible refine Calls.mono (C4.out _ HQ.out) ?_); rintro e1 we ⟨rfl, hq9, hk9⟩; replace HQ := Lib.hid hq9; replace HBW := Lib.hid (hk9.bw HBW.out HWG.out); replace HWD1 := Lib.hid (HWD1.out.kx hk9 (by have := HN16.out; omega)); replace K14 := Lib.hid (hk9.blk K14.out (by have := HN16.out; omega)); have d32 := HQ.out.at 32 (by omega); rw [H4.out] at d32; clear hq9 hk9))
  clear d32
  have HH := Lib.hid HQ.out.hint
  have HVS : Hid ((hV X4).all (·.oneCell') = true) := Lib.hid (by simp [Value.oneCell', hV])
  go_wp2_with (first | ((with_reducible refine at_load 23 (.tmp 48) ?_); refine wpList_load_mid rfl 23 _ rfl g16 26 (by simp [Act.eval, Act.put]) _ _ HH.out Tryd.underlying23 rfl (by kernel_rfl) ?_) | ((with_reducible refine at_store 23 (.tmp 14) (.tmp 49) ?_); refine wpList_store_row rfl 23 (.tmp 14) (.tmp 49) rfl (g + 1 + 1) (hV X4) rfl rfl 23 #[.int .i64 0, .int .i64 0, .int .i64 0, .int .i64 0, .int .i64 0, .int .i64 0] K14.out (by kernel_rfl) rfl HVS.out ?_))
  refine bodyPost_ret (v := .tuple #[.agg (hV X4), .int .i64 0]) ?_ rfl ⟨by rw [H44.out], Bw.setRow HBW.out (show w.heap.size ≤ g + 1 + 1 by have := HG.out; omega) _⟩
  exact results_two_row (p := 14) (u := 15) rfl _ _ (g + 1 + 1) _ rfl (run_loadVar_row _ (g + 1 + 1) 23 23 (hV X4) (0, 0) _ (K14.out.row _) Tryd.underlying23 rfl (by kernel_rfl))
end Go.Proofs.Sky

namespace Go.Proofs.Sky
open Go Go.RowKit Go.Shelf
set_option maxHeartbeats 2000000
set_option maxRecDepth 8000
/-! chapter 40: rows of hints -/
def hnV (x : Nat → Int) : Array Value := #[.int .i64 (x 0), .int .i64 (x 1), .int .i64 (x 2), .int .i64 (x 3), .int .i64 (x 4), .int .i64 (x 5)]
def hnc (x : Nat → Int) : List Value := (hnV x).toList
theorem hnc_len (x : Nat → Int) : (hnc x).length = 6 := rfl
theorem hnc_arr (x : Nat → Int) : (hnc x).toArray = hnV x := rfl
theorem hnc_at (x : Nat → Int) (j : Nat) (hj : j < 6) : (hnc x)[j]? = some (.int .i64 (x j)) := by
  have : j = 0 ∨ j = 1 ∨ j = 2 ∨ j = 3 ∨ j = 4 ∨ j = 5 := by omega
  rcases this with rfl | rfl | rfl | rfl | rfl | rfl <;> rfl
theorem hnc_one (x : Nat → Int) : ∀ u ∈ hnc x, u.oneCell' = true := fun u hu => by
  simp only [hnc, hnV, List.mem_cons, List.not_mem_nil, or_false] at hu
  rcases hu with rfl | rfl | rfl | rfl | rfl | rfl <;> rfl
def flatH (ps : List (Nat → Int)) : List Value := ps.flatMap hnc
theorem flatH_append (fs gs : List (Nat → Int)) : flatH (fs ++ gs) = flatH fs ++ flatH gs := by simp [flatH]
theorem flatH_one (f : Nat → Int) : flatH [f] = hnc f := by simp [flatH]
theorem flatH_cons (f : Nat → Int) (r : List (Nat → Int)) : flatH (f :: r) = hnc f ++ flatH r := rfl
theorem flatH_len (fs : List (Nat → Int)) : (flatH fs).length = fs.length * 6 := by
  induction fs with
  | nil => rfl
  | cons f r ih => rw [flatH_cons, List.length_append, ih, List.length_cons, hnc_len]; omega
theorem flatH_one' (fs : List (Nat → Int)) : ∀ u ∈ flatH fs, u.oneCell' = true := fun u hu => by
  obtain ⟨x, _, h⟩ := List.mem_flatMap.1 hu
  exact hnc_one x u h
theorem flatH_at (fs : List (Nat → Int)) : ∀ (i : Nat) (f : Nat → Int), fs[i]? = some f → ∀ j, j < 6 → (flatH fs)[i * 6 + j]? = (hnc f)[j]? := by
  induction fs with
  | nil => intro i f h; simp at h
  | cons g r ih =>
    intro i f h j hj
    rw [flatH_cons]
    cases i with
    | zero =>
      simp only [List.getElem?_cons_zero, Option.some.injEq] at h
      subst h
      rw [List.getElem?_append_left (by rw [hnc_len]; omega)]
      congr 1; omega
    | succ i =>
      rw [List.getElem?_cons_succ] at h
      rw [List.getElem?_append_right (by rw [hnc_len]; omega)]
      rw [← ih i f h j hj]
      congr 1; rw [hnc_len]; omega
theorem flatH_take (fs : List (Nat → Int)) : ∀ k, flatH (fs.take k) = (flatH fs).take (k * 6) := by
  induction fs with
  | nil => intro k; simp [flatH]
  | cons g r ih =>
    intro k
    cases k with
    | zero => simp [flatH]
    | succ k =>
      rw [List.take_succ_cons, flatH_cons, flatH_cons, ih, List.take_append, hnc_len, List.take_of_length_le (l := hnc g) (by rw [hnc_len]; omega), show (k + 1) * 6 - 6 = k * 6 by omega]
theorem flatH_drop (fs : List (Nat → Int)) : ∀ k, flatH (fs.drop k) = (flatH fs).drop (k * 6) := by
  induction fs with
  | nil => intro k; simp [flatH]
  | cons g r ih =>
    intro k
    cases k with
    | zero => simp
    | succ k =>
      rw [List.drop_succ_cons, flatH_cons, ih, List.drop_append, hnc_len, show List.drop ((k + 1) * 6) (hnc g) = [] from List.drop_eq_nil_of_le (by rw [hnc_len]; omega), List.nil_append, show (k + 1) * 6 - 6 = k * 6 by omega]
def RdH (w : World) (v : Value) (ps : List (Nat → Int)) : Prop :=
  ps.length ≤ 9223372036854775807 ∧ ∃ a cap, v = .slice a ps.length cap ∧ (ps = [] ∨ ∃ b off, a = some ⟨b, off, none⟩ ∧ b < w.heap.size ∧ ∀ i x, ps[i]? = some x → w.rangeAt b (off + i * 6) (hnc x))
theorem RdH.mono {w w' : World} {v : Value} {fs : List (Nat → Int)} (h : RdH w v fs) (hb : Bw w w') : RdH w' v fs := by
  obtain ⟨h2, a, cap, h3, h4⟩ := h
  refine ⟨h2, a, cap, h3, ?_⟩
  rcases h4 with h4 | ⟨b, off, h5, h6, h7⟩
  · exact .inl h4
  · exact .inr ⟨b, off, h5, Nat.lt_of_lt_of_le h6 hb.size, fun i f hi j u hu => hb.cell' (h7 i f hi j u hu)⟩
theorem RdH.form {w : World} {v : Value} {fs : List (Nat → Int)} (h : RdH w v fs) : ∃ a c, v = .slice a fs.length c := by obtain ⟨_, a, c, h, _⟩ := h; exact ⟨a, c, h⟩
theorem RdH.nil (w : World) : RdH w (.slice none 0 0) [] := ⟨by simp, none, 0, rfl, .inl rfl⟩
theorem RdH.at {w : World} {v : Value} {ps : List (Nat → Int)} (h : RdH w v ps) (h0 : 0 < ps.length) : ∃ b off c, v = .slice (some ⟨b, off, none⟩) ps.length c ∧ b < w.heap.size ∧ ∀ i x, ps[i]? = some x → w.rangeAt b (off + i * 6) (hnc x) := by
  obtain ⟨_, a, c, hv, h4⟩ := h
  rcases h4 with rfl | ⟨b, off, rfl, h6, h7⟩
  · simp at h0
  · exact ⟨b, off, c, hv, h6, h7⟩
theorem own_rdH {w : World} {base : Nat} {e : TypeId} {v : Value} {fs : List (Nat → Int)} (h : w.ownsRow base e 6 v fs.length (flatH fs)) (hn : fs.length ≤ 9223372036854775807) : RdH w v fs ∧ Fresh base v := by
  have h' := h
  rcases h'.2 with ⟨rfl, h2⟩ | ⟨g, cap, cur, rfl, hg, hh, _⟩
  · obtain rfl : fs = [] := List.length_eq_zero_iff.1 h2
    exact ⟨RdH.nil w, Fresh.nil _ _ _⟩
  · refine ⟨⟨hn, some ⟨g, 0, none⟩, cap, rfl, .inr ⟨g, 0, rfl, (Array.getElem?_eq_some_iff.1 hh).1, fun i f hi j u hu => ?_⟩⟩, Fresh.at hg⟩
    have hil : i < fs.length := (List.getElem?_eq_some_iff.1 hi).1
    have hj : j < 6 := (List.getElem?_eq_some_iff.1 hu).1
    rw [Nat.zero_add]
    exact (h.cellAt (i * 6 + j) (by omega)).trans ((flatH_at fs i f hi j hj).trans hu)
theorem infoHn : (Tryd.prog.info? 23).map (fun i => (i.zero, i.size, i.bytes)) = some (some (.agg #[.int .i64 0, .int .i64 0, .int .i64 0, .int .i64 0, .int .i64 0, .int .i64 0]), 6, 48) := by kernel_rfl
section
variable {ops : Array Oper} {rest : List Oper} {o : Oper} {a : Act} {w : World} {K : Act → World → Prop} {Q : Exit → Act → World → Prop}
theorem rg_newsH {w : World} {b off : Nat} {cs : List Value} (hb : w.rangeAt b off cs) : ∀ (j : Nat) (u : Value), cs[j]? = some u → w.cell? ((⟨b, off, none⟩ : Addr).add j) = some u := fun j u hu => by
  rw [Addr.add_mid]; exact hb j u hu
theorem blk_rgH {w : World} {b : Nat} {T : TypeId} {cs : List Value} (hb : Blk w b T cs.toArray) : w.rangeAt b 0 cs := fun j u hu => by
  rw [Nat.zero_add]; exact hb.cell (j := j) (v := u) (by simpa using hu)
/-- a row of pages behind a row of the call's own -/
theorem wp_append_hns (s x : Operand) (t : TypeId)
    (ho : o.op = .call { callee := .builtin .append, args := #[s, x], argTypes := #[t, t] }) (dst : Option Tmp) (hd : o.dst = dst)
    (base : Nat) (ht : Tryd.prog.underlying t = some (.slice 23))
    (v : Value) (fs gs : List (Nat → Int)) (hs : a.eval s = v) (hown : w.ownsRow base 23 6 v fs.length (flatH fs))
    (b off c : Nat) (hx : a.eval x = .slice (some ⟨b, off, none⟩) gs.length c) (hb : ∀ i x, gs[i]? = some x → w.rangeAt b (off + i * 6) (hnc x))
    (hn : fs.length + gs.length ≤ 1000000) (hbase : base ≤ w.heap.size)
    (h : ∀ v' w', w'.ownsRow base 23 6 v' (fs ++ gs).length (flatH (fs ++ gs)) → w.grownBy w' v.ownBlock → (v' = .slice none 0 0 ↔ v = .slice none 0 0 ∧ gs.length = 0) → K (a.put dst v') w') : o.wp Tryd.prog a w K Q := by
  subst hd
  obtain ⟨i, hi, hzz⟩ := Option.map_eq_some_iff.1 infoHn
  simp only [Prod.mk.injEq] at hzz
  obtain ⟨hz0, hz1, hz2⟩ := hzz
  refine wp_append_own w s x t ho base 23 i _ 6 48 ht hi hz0 hz1 hz2 rfl (by decide) v fs.length (flatH fs) hs hown ⟨b, off, none⟩ gs.length c (flatH gs) hx (flatH_len gs) (fun j u hu => ?_) (flatH_one' gs) (by unfold maxLen; omega) (by omega) hbase (fun v' w' h2 h3 h4 => h v' w' ?_ h3 h4)
  · have hj : j < gs.length * 6 := by have := (List.getElem?_eq_some_iff.1 hu).1; rwa [flatH_len] at this
    have hq : j / 6 < gs.length := by omega
    have hf := flatH_at gs (j / 6) _ (List.getElem?_eq_getElem hq) (j % 6) (by omega)
    rw [show j / 6 * 6 + j % 6 = j by omega, hu] at hf
    rw [Addr.add_mid]
    have h9 := hb (j / 6) _ (List.getElem?_eq_getElem hq) (j % 6) u hf.symm
    rwa [show off + j / 6 * 6 + j % 6 = off + j by omega] at h9
  · rw [flatH_append, List.length_append]; exact h2
theorem wpList_append_hns (hgd : o.guard = none) (s x : Operand) (t : TypeId)
    (ho : o.op = .call { callee := .builtin .append, args := #[s, x], argTypes := #[t, t] })
    (base : Nat) (ht : Tryd.prog.underlying t = some (.slice 23))
    (v : Value) (fs gs : List (Nat → Int)) (hs : a.eval s = v) (hown : w.ownsRow base 23 6 v fs.length (flatH fs))
    (b off c : Nat) (hx : a.eval x = .slice (some ⟨b, off, none⟩) gs.length c) (hb : ∀ i x, gs[i]? = some x → w.rangeAt b (off + i * 6) (hnc x))
    (hn : fs.length + gs.length ≤ 1000000) (hbase : base ≤ w.heap.size)
    (h : ∀ v' w', w'.ownsRow base 23 6 v' (fs ++ gs).length (flatH (fs ++ gs)) → w.grownBy w' v.ownBlock → (v' = .slice none 0 0 ↔ v = .slice none 0 0 ∧ gs.length = 0) → wpList Tryd.prog ops Q rest (a.put o.dst v') w') : wpList Tryd.prog ops Q (o :: rest) a w :=
  wpList_plain hgd fun _ hK => wp_append_hns s x t ho o.dst rfl base ht v fs gs hs hown b off c hx hb hn hbase (fun v' w' h1 h2 h3 => hK _ _ (h v' w' h1 h2 h3))
theorem wpList_append_noneH (hgd : o.guard = none) (s x : Operand) (t : TypeId)
    (ho : o.op = .call { callee := .builtin .append, args := #[s, x], argTypes := #[t, t] })
    (base : Nat) (ht : Tryd.prog.underlying t = some (.slice 23))
    (v : Value) (fs : List (Nat → Int)) (hs : a.eval s = v) (hown : w.ownsRow base 23 6 v fs.length (flatH fs))
    (ad : Addr) (c : Nat) (hx : a.eval x = .slice (some ad) 0 c)
    (hn : fs.length ≤ 1000000) (hbase : base ≤ w.heap.size)
    (h : ∀ v' w', w'.ownsRow base 23 6 v' fs.length (flatH fs) → w.grownBy w' v.ownBlock → (v' = .slice none 0 0 ↔ v = .slice none 0 0) → wpList Tryd.prog ops Q rest (a.put o.dst v') w') : wpList Tryd.prog ops Q (o :: rest) a w := by
  obtain ⟨i, hi, hzz⟩ := Option.map_eq_some_iff.1 infoHn
  simp only [Prod.mk.injEq] at hzz
  obtain ⟨hz0, hz1, hz2⟩ := hzz
  refine wpList_append_own w hgd s x t ho base 23 i _ 6 48 ht hi hz0 hz1 hz2 rfl (by decide) v fs.length (flatH fs) hs hown ad 0 c [] hx rfl (fun j u hu => by simp at hu) (fun u hu => by simp at hu) (by unfold maxLen; omega) (by omega) hbase (fun v' w' h2 h3 h4 => h v' w' (by simpa using h2) h3 (by simpa using h4))
theorem run_load_hn {ρ : Operand → Value} (x : Operand) (ho : o.op = .load 23 x) (g b : Nat) (hx : ρ x = .pointer (some ⟨g, b, none⟩)) {y : Nat → Int} (hB : w.rangeAt g b (hnc y)) : (execOp ρ o).run Tryd.prog w = .ok (.value (.agg (hnV y))) w := by
  have h9 : (Instr.loadAt 23 (.pointer (some ⟨g, b, none⟩))).run Tryd.prog w = .ok (.agg (hnV y)) w := run_loadAt_mid w g b 23 _ _ hB Tryd.underlying23 rfl (by kernel_rfl)
  unfold execOp
  simp only [ho, hx, Sem.run_bind, Sem.run_pure, Result.andThen_ok, h9]
theorem wp_load_hn (x : Operand) (ho : o.op = .load 23 x) (dst : Option Tmp) (hd : o.dst = dst) (g b : Nat) (hx : a.eval x = .pointer (some ⟨g, b, none⟩)) {y : Nat → Int} (hB : w.rangeAt g b (hnc y))
    (h : K (a.put dst (.agg (hnV y))) w) : o.wp Tryd.prog a w K Q := by
  subst hd
  unfold Oper.wp
  rw [run_load_hn x ho g b hx hB]
  exact h
theorem wpList_load_hn (hgd : o.guard = none) (x : Operand) (ho : o.op = .load 23 x) (g b : Nat) (hx : a.eval x = .pointer (some ⟨g, b, none⟩)) {y : Nat → Int} (hB : w.rangeAt g b (hnc y))
    (h : wpList Tryd.prog ops Q rest (a.put o.dst (.agg (hnV y))) w) : wpList Tryd.prog ops Q (o :: rest) a w :=
  wpList_plain hgd fun _ hK => wp_load_hn x ho o.dst rfl g b hx hB (hK _ _ h)
theorem wpList_load_hn_w (hw : Region.wanted o (yielded ops a.tmps) = true) (x : Operand) (ho : o.op = .load 23 x) (g b : Nat) (hx : a.eval x = .pointer (some ⟨g, b, none⟩)) {y : Nat → Int} (hB : w.rangeAt g b (hnc y))
    (h : wpList Tryd.prog ops Q rest (a.put o.dst (.agg (hnV y))) w) : wpList Tryd.prog ops Q (o :: rest) a w :=
  wpList_step fun K hK => by
    rw [if_pos hw]
    exact wp_load_hn x ho o.dst rfl g b hx hB (hK _ _ h)
end
theorem rg_oneH {w : World} {b : Nat} {x : Nat → Int} (h : w.rangeAt b 0 (hnc x)) : ∀ i y, [x][i]? = some y → w.rangeAt b (0 + i * 6) (hnc y) := fun i y hi => by
  cases i with
  | zero => simp at hi; subst hi; exact h
  | succ i => simp at hi
end Go.Proofs.Sky
