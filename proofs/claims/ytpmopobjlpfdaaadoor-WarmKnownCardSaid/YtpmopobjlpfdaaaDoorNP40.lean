/-
  lemmas for the theorems of this claim. No conditions beyond those written in the statements.
-/
import Derived.Test.YtpmopobjlpfdaaaDoorPW40
import Derived.Test.YtpmopobjlpfdaaaDoorF40
set_option linter.unusedVariables false
set_option linter.unusedSimpArgs false
set_option linter.unnecessarySimpa false
namespace Go.Proofs.Sky
open Go Go.RowKit Go.Shelf
set_option maxHeartbeats 4000000
set_option maxRecDepth 8000
/-! chapter 40: the question that Predict asks -/
def X0p (x : Nat → Int) (u0 u1 u2 r t l c m : Int) : Nat → Int := fun i => if i < 13 then x i else [u0, u1, u2, r, t, l, c, m].getD (i - 13) 0
theorem atQ_bd {l0 l1 l2 d : Int} (h0 : -524288 ≤ l0 ∧ l0 ≤ 524287) (h1 : -8192 ≤ l1 ∧ l1 ≤ 8191) (h2 : -2048 ≤ l2 ∧ l2 ≤ 2047) (hd : -14400 ≤ d ∧ d ≤ 14400) : -1000000000 ≤ atQ l0 l1 l2 d ∧ atQ l0 l1 l2 d ≤ 1000000000 := by
  have m1 := mul_bd40 (a := l1) (b := d) (A := 8192) (B := 14400) (by omega) (by omega)
  have m2 := mul_bd40 (a := l2) (b := d) (A := 2048) (B := 14400) (by omega) (by omega)
  have m3 := mul_bd40 (a := l2 * d) (b := d) (A := 29491200) (B := 14400) (by omega) (by omega)
  unfold atQ rn
  generalize l2 * d * d = q at *
  generalize l1 * d = p at *
  split <;> omega
/-- the error -/
def prE (X : Nat → Int) : Int := if erQ X ≠ 0 then erQ X else if 14400 < ageQ X then 17 else 0
def pr2 (X : Nat → Int) : Nat → Int := upX (plS X) 22 (sprQ X)
def pr3 (X : Nat → Int) : Nat → Int := upX (pr2 X) 27 (upQ40 (pr2 X))
def pr4 (X : Nat → Int) (r : Int) : Nat → Int := diQ (pr3 X) r
theorem szW_le {n A : Int} (h : szW n ≤ A) : -A ≤ n ∧ n ≤ A := by unfold szW at h; omega
theorem sprQ_bd {X : Nat → Int} (hp : errPg X = 0) (hr : rgB X = true) (ha : ageQ X ≤ 14400) : 0 ≤ sprQ X ∧ sprQ X ≤ 45000000 := by
  obtain ⟨_, _, _, _, hr17, hr18, _, _⟩ := rgB_lim hr
  obtain ⟨_, _, hp2, hp3, hpx⟩ := pg_lim hp
  have ha0 : 0 ≤ ageQ X := by unfold ageQ szW; omega
  have h1 := sprK_bd (late := X 18) (a := ageQ X) hpx hr18 ⟨ha0, ha⟩ 3 (by omega)
  have m0 : 0 ≤ X 3 * ageQ X := Int.mul_nonneg hp3.1 ha0
  have m1 : X 3 * ageQ X ≤ 1048575 * 14400 := Int.mul_le_mul hp3.2 ha ha0 (by omega)
  unfold sprQ
  generalize X 3 * ageQ X = m at *
  have : 0 ≤ upW m 3600 ∧ upW m 3600 ≤ 4194300 := by unfold upW; omega
  omega
theorem mid2 {X : Nat → Int} (hp : errPg X = 0) (hr : rgB X = true) (ha : ageQ X ≤ 14400) : Mid (pr2 X) := by
  obtain ⟨u0, u1, u2, hr16, hr17, hr18, hr19, hr20⟩ := rgB_lim hr
  obtain ⟨_, hp1, hp2, hp3, hpx⟩ := pg_lim hp
  have hsp := sprQ_bd hp hr ha
  have hd : -14400 ≤ arQ (X 17 - X 1) ∧ arQ (X 17 - X 1) ≤ 14400 := by unfold ageQ szW at ha; omega
  have HT : errTm X (X 17) = 0 := by unfold errTm; rw [if_neg (by omega), if_neg (by omega)]
  have hat : ∀ j, j < 3 → -1000000000 ≤ atP X (X 17) j ∧ atP X (X 17) j ≤ 1000000000 := fun j hj => by
    unfold atP
    rw [if_pos HT]
    exact atQ_bd (hpx j hj).1 (hpx j hj).2.1 (hpx j hj).2.2 hd
  refine ⟨fun k hk => ?_, fun k hk => ?_, hr16, ?_, hr19, hr20⟩
  · match k, hk with
    | 0, _ => exact szW_le u0
    | 1, _ => exact szW_le u1
    | 2, _ => exact szW_le u2
  · match k, hk with
    | 0, _ => exact hat 0 (by omega)
    | 1, _ => exact hat 1 (by omega)
    | 2, _ => exact hat 2 (by omega)
  · exact hsp
theorem mid3 {X : Nat → Int} (h : Mid (pr2 X)) : Mid (pr3 X) := ⟨fun k hk => by
    have h9 := h.u k hk
    unfold pr3
    rwa [upX_ne _ _ (by omega)], fun k hk => by
    have h9 := h.s k hk
    unfold pr3
    rwa [upX_ne _ _ (by omega)], h.r, h.w, h.c, h.m⟩
theorem X0_pg (x : Nat → Int) (u0 u1 u2 r t l c m : Int) : errPg (X0p x u0 u1 u2 r t l c m) = errPg x := errPg_congr (fun i hi => by unfold X0p; rw [if_pos hi])
end Go.Proofs.Sky

namespace Go.Proofs.Sky
open Go Go.RowKit Go.Shelf
attribute [local go_sem] Oper.semAt_some
set_option maxHeartbeats 4000000
set_option maxRecDepth 8000
/-! chapter 40: Predict -/
theorem X0_arr (x : Nat → Int) (u0 u1 u2 r t l c m : Int) : ((Value.int .i64 (x 0) :: Value.int .i64 (x 1) :: Value.int .i64 (x 2) :: Value.int .i64 (x 3) :: Value.int .i64 (x 4) :: Value.int .i64 (x 5) :: Value.int .i64 (x 6) :: Value.int .i64 (x 7) :: Value.int .i64 (x 8) :: Value.int .i64 (x 9) :: Value.int .i64 (x 10) :: Value.int .i64 (x 11) :: Value.int .i64 (x 12) :: Value.int .i64 u0 :: Value.int .i64 u1 :: Value.int .i64 u2 :: Value.int .i64 r :: Value.int .i64 t :: Value.int .i64 l :: Value.int .i64 c :: Value.int .i64 m :: Value.int .i64 0 :: Value.int .i64 0 :: Value.int .i64 0 :: Value.int .i64 0 :: Value.int .i64 0 :: Value.int .i64 0 :: Value.int .i64 0 :: Value.int .i64 0 :: Value.int .i64 0 :: Value.int .i64 0 :: Value.int .i64 0 :: Value.int .i64 0 :: []).toArray : Array Value) = qV (X0p x u0 u1 u2 r t l c m) := rfl
def hV (X : Nat → Int) : Array Value := #[.int .i64 (X 26), .int .i64 (X 27), .int .i64 (X 28), .int .i64 (X 29), .int .i64 (X 30), .int .i64 (X 31)]
theorem QBlk.hint {w : World} {g : Nat} {X : Nat → Int} (h : QBlk w g X) : w.rangeAt g 26 (hV X).toList := fun i u hu => by
  have hi : i < 6 := (List.getElem?_eq_some_iff.1 hu).1
  match i, hi with
  | 0, _ => simp [hV] at hu; subst hu; exact h.at 26 (by omega)
  | 1, _ => simp [hV] at hu; subst hu; exact h.at 27 (by omega)
  | 2, _ => simp [hV] at hu; subst hu; exact h.at 28 (by omega)
  | 3, _ => simp [hV] at hu; subst hu; exact h.at 29 (by omega)
  | 4, _ => simp [hV] at hu; subst hu; exact h.at 30 (by omega)
  | 5, _ => simp [hV] at hu; subst hu; exact h.at 31 (by omega)
/-- what the four steps come to -/
theorem steps_err (X : Nat → Int) (g : Nat) (he : prE X ≠ 0) (h32 : X 32 = 0) (h22 : X 22 = 0) (hu : ∀ k, k < 3 → -4000000000000000000 ≤ X (13 + k) ∧ X (13 + k) ≤ 4000000000000000000) (hg0 : 0 < g) : ∃ Y1 Y2 : Nat → Int, Y2 32 = prE X ∧
    (∀ w, WdAt w → QBlk w g X → Calls Tryd.prog 24 #[.pointer (some ⟨g, 0, none⟩)] w fun e w' => e = .returned (.pointer (some ⟨g, 0, none⟩)) ∧ QBlk w' g Y1 ∧ Kx g w w') ∧
    (∀ w, WdAt w → QBlk w g Y1 → Calls Tryd.prog 25 #[.pointer (some ⟨g, 0, none⟩)] w fun e w' => e = .returned (.pointer (some ⟨g, 0, none⟩)) ∧ QBlk w' g Y2 ∧ Kx g w w') ∧
    (∀ w, QBlk w g Y2 → Calls Tryd.prog 26 #[.pointer (some ⟨g, 0, none⟩)] w fun e w' => e = .returned (.pointer (some ⟨g, 0, none⟩)) ∧ QBlk w' g Y2 ∧ Kx g w w') ∧
    (∀ w, QBlk w g Y2 → Calls Tryd.prog 27 #[.pointer (some ⟨g, 0, none⟩)] w fun e w' => e = .returned (.pointer (some ⟨g, 0, none⟩)) ∧ QBlk w' g Y2 ∧ Kx g w w') := by
  have hck := fun w hw hq => check40_any X g w hw hq hu
  by_cases h1 : erQ X = 0
  · have hE : prE X = 17 := by
      unfold prE at he ⊢
      rw [if_neg (by simpa using h1)] at he ⊢
      by_cases h2 : 14400 < ageQ X
      · rw [if_pos h2]
      · rw [if_neg h2] at he; exact absurd rfl he
    have hag : 14400 < ageQ X := by
      unfold prE at hE
      rw [if_neg (by simpa using h1)] at hE
      by_cases h2 : 14400 < ageQ X
      · exact h2
      · rw [if_neg h2] at hE; omega
    have hpr : errPg X = 0 ∧ rgB X = true := by
      unfold erQ at h1
      by_cases h3 : errPg X = 0
      · rw [if_neg (by simpa using h3)] at h1
        refine ⟨h3, ?_⟩
        by_cases h4 : rgB X = true
        · exact h4
        · rw [if_neg h4] at h1; omega
      · rw [if_pos h3] at h1; exact absurd h1 h3
    have hX : upX X 32 (erQ X) = X := upX_id _ _ _ (by rw [h32, h1])
    rw [hX] at hck
    have hpl : plQ X = upX (plA X) 32 17 := by unfold plQ; rw [if_pos hag]
    refine ⟨X, upX (plA X) 32 17, by rw [hE]; exact upX_same _ _ _, hck, fun w hw hq => by rw [← hpl]; exact place40_any X g w hw hg0 hq h32 h22 hpr.1 hpr.2, fun w hq => height40_bad _ g w hq (by rw [upX_same]; decide), fun w hq => distance40_bad _ g w hq (by rw [upX_same]; decide)⟩
  · have hE : prE X = erQ X := by unfold prE; rw [if_pos h1]
    have hne : upX X 32 (erQ X) 32 ≠ 0 := by rw [upX_same]; exact h1
    exact ⟨upX X 32 (erQ X), upX X 32 (erQ X), by rw [hE]; exact upX_same _ _ _, hck, fun w _ hq => place40_bad _ g w hq hne, fun w hq => height40_bad _ g w hq hne, fun w hq => distance40_bad _ g w hq hne⟩
theorem er_ok {X : Nat → Int} (he : prE X = 0) : erQ X = 0 ∧ errPg X = 0 ∧ rgB X = true ∧ ageQ X ≤ 14400 := by
  unfold prE at he
  by_cases h1 : erQ X = 0
  · rw [if_neg (by simpa using h1)] at he
    refine ⟨h1, ?_⟩
    have h2 : ageQ X ≤ 14400 := by
      by_cases h2 : 14400 < ageQ X
      · rw [if_pos h2] at he; omega
      · omega
    unfold erQ at h1
    by_cases h3 : errPg X = 0
    · rw [if_neg (by simpa using h3)] at h1
      refine ⟨h3, ?_, h2⟩
      by_cases h4 : rgB X = true
      · exact h4
      · rw [if_neg h4] at h1; omega
    · rw [if_pos h3] at h1; exact absurd h1 h3
  · rw [if_pos h1] at he; exact absurd he h1
theorem steps_ok (X : Nat → Int) (g : Nat) (q : Int) (he : prE X = 0) (h32 : X 32 = 0) (h22 : X 22 = 0) (hu : ∀ k, k < 3 → -4000000000000000000 ≤ X (13 + k) ∧ X (13 + k) ≤ 4000000000000000000) (hg0 : 0 < g) (hq0 : 0 ≤ q) (hq1 : q * q ≤ sK40 (pr3 X) 3) (hq2 : sK40 (pr3 X) 3 < (q + 1) * (q + 1)) :
    (∀ w, WdAt w → QBlk w g X → Calls Tryd.prog 24 #[.pointer (some ⟨g, 0, none⟩)] w fun e w' => e = .returned (.pointer (some ⟨g, 0, none⟩)) ∧ QBlk w' g X ∧ Kx g w w') ∧
    (∀ w, WdAt w → QBlk w g X → Calls Tryd.prog 25 #[.pointer (some ⟨g, 0, none⟩)] w fun e w' => e = .returned (.pointer (some ⟨g, 0, none⟩)) ∧ QBlk w' g (pr2 X) ∧ Kx g w w') ∧
    (∀ w, QBlk w g (pr2 X) → Calls Tryd.prog 26 #[.pointer (some ⟨g, 0, none⟩)] w fun e w' => e = .returned (.pointer (some ⟨g, 0, none⟩)) ∧ QBlk w' g (pr3 X) ∧ Kx g w w') ∧
    (∀ w, QBlk w g (pr3 X) → Calls Tryd.prog 27 #[.pointer (some ⟨g, 0, none⟩)] w fun e w' => e = .returned (.pointer (some ⟨g, 0, none⟩)) ∧ QBlk w' g (pr4 X q) ∧ Kx g w w') := by
  obtain ⟨h1, hp, hr, ha⟩ := er_ok he
  have hck := fun w hw hq => check40_any X g w hw hq hu
  rw [upX_id _ _ _ (by rw [h32, h1])] at hck
  have hpl : plQ X = pr2 X := by unfold plQ; rw [if_neg (by omega)]; rfl
  have hm2 := mid2 hp hr ha
  refine ⟨hck, fun w hw hq => by rw [← hpl]; exact place40_any X g w hw hg0 hq h32 h22 hp hr, fun w hq => height40_any _ g w hq (by show X 32 = 0; exact h32) hm2, fun w hq => distance40_any _ g q w hq (by show X 32 = 0; exact h32) (mid3 hm2) hq0 hq1 hq2⟩
theorem Predict_err (x : Nat → Int) (u0 u1 u2 r t l c m : Int) (w : World) (hw : WdAt w) (he : prE (X0p x u0 u1 u2 r t l c m) ≠ 0) (hu : ∀ k, k < 3 → -4000000000000000000 ≤ [u0, u1, u2].getD k 0 ∧ [u0, u1, u2].getD k 0 ≤ 4000000000000000000) :
    Calls Tryd.prog 7 #[.agg (pgV x), .agg #[.int .i64 u0, .int .i64 u1, .int .i64 u2], .int .i64 r, .int .i64 t, .int .i64 l, .int .i64 c, .int .i64 m] w fun e w' => e = .returned (.tuple #[.agg #[.int .i64 0, .int .i64 0, .int .i64 0, .int .i64 0, .int .i64 0, .int .i64 0], .int .i64 (prE (X0p x u0 u1 u2 r t l c m))]) ∧ Bw w w' := by
  have HXA := Lib.hid (X0_arr x u0 u1 u2 r t l c m)
  have HST := Lib.hid (fun g hg0 => steps_err (X0p x u0 u1 u2 r t l c m) g he rfl rfl (fun k hk => by match k, hk with | 0, _ => exact hu 0 (by omega) | 1, _ => exact hu 1 (by omega) | 2, _ => exact hu 2 (by omega)) hg0)
  generalize X0p x u0 u1 u2 r t l c m = X at *
  have HE := Lib.hid he
  clear he hu
  have HWD := Lib.hid hw
  have hw0 := hw.1
  have HB := Lib.hid (Bw.alloc (Bw.alloc (Bw.alloc (Bw.refl w) (.cells (pgV x) 29)) (.cells #[.int .i64 u0, .int .i64 u1, .int .i64 u2] 32)) (.cells #[.int .i64 0, .int .i64 0, .int .i64 0, .int .i64 0, .int .i64 0, .int .i64 0] 23))
  have K7 := Lib.hid (((Blk.new w 29 (pgV x)).alloc (.cells #[.int .i64 u0, .int .i64 u1, .int .i64 u2] 32)).alloc (.cells #[.int .i64 0, .int .i64 0, .int .i64 0, .int .i64 0, .int .i64 0, .int .i64 0] 23))
  have K8 := Lib.hid ((Blk.new (w.alloc (.cells (pgV x) 29)) 32 #[.int .i64 u0, .int .i64 u1, .int .i64 u2]).alloc (.cells #[.int .i64 0, .int .i64 0, .int .i64 0, .int .i64 0, .int .i64 0, .int .i64 0] 23))
  have K14 := Lib.hid (Blk.new ((w.alloc (.cells (pgV x) 29)).alloc (.cells #[.int .i64 u0, .int .i64 u1, .int .i64 u2] 32)) 23 #[.int .i64 0, .int .i64 0, .int .i64 0, .int .i64 0, .int .i64 0, .int .i64 0])
  have HSZ : Hid ((Tryd.prog.info? 29).map (·.size) = some (pgV x).size) := Lib.hid (by kernel_rfl)
  simp only [World.size_alloc] at K8 K14
  obtain ⟨g, hg⟩ : ∃ g, w.heap.size = g := ⟨_, rfl⟩
  rw [hg] at K7 K8 K14
  have HG := Lib.hid hg
  have hgs : ∀ W : World, Bw (((w.alloc (.cells (pgV x) 29)).alloc (.cells #[.int .i64 u0, .int .i64 u1, .int .i64 u2] 32)).alloc (.cells #[.int .i64 0, .int .i64 0, .int .i64 0, .int .i64 0, .int .i64 0, .int .i64 0] 23)) W → g + 3 ≤ W.heap.size := fun W h => by have := h.size; simp only [World.size_alloc] at this; omega
  clear hw
  go_enter Tryd.func7, Tryd.ntmps7
  go_upto_region 1 with fail
  (try rw [hg])
  obtain ⟨W0, hW0⟩ : ∃ W0, ((w.alloc (.cells (pgV x) 29)).alloc (.cells #[.int .i64 u0, .int .i64 u1, .int .i64 u2] 32)).alloc (.cells #[.int .i64 0, .int .i64 0, .int .i64 0, .int .i64 0, .int .i64 0, .int .i64 0] 23) = W0 := ⟨_, rfl⟩
  rw [hW0] at K7 K8 K14 HB hgs ⊢
  clear hW0 hg
  have d0 := K8.out.cell (show (#[.int .i64 u0, .int .i64 u1, .int .i64 u2] : Array Value)[0]? = some (.int .i64 u0) from rfl)
  have d1 := K8.out.cell (show (#[.int .i64 u0, .int .i64 u1, .int .i64 u2] : Array Value)[1]? = some (.int .i64 u1) from rfl)
  have d2 := K8.out.cell (show (#[.int .i64 u0, .int .i64 u1, .int .i64 u2] : Array Value)[2]? = some (.int .i64 u2) from rfl)
  unfold pgV at K7 HSZ
  go_upto_region 2 with ((with_reducible refine at_load 29 (.tmp 7) ?_); refine wpList_load_row rfl 29 _ rfl g (by simp [Act.eval, Act.put]) 29 #[.int .i64 (x 0), .int .i64 (x 1), .int .i64 (x 2), .int .i64 (x 3), .int .i64 (x 4), .int .i64 (x 5), .int .i64 (x 6), .int .i64 (x 7), .int .i64 (x 8), .int .i64 (x 9), .int .i64 (x 10), .int .i64 (x 11), .int .i64 (x 12)] (0, 0) _ K7.out Tryd.underlying29 rfl HSZ.out ?_)
  obtain ⟨g16, hg16⟩ : ∃ g16, W0.heap.size = g16 := ⟨_, rfl⟩
  rw [hg16]
  have HN16 := Lib.hid (show g + 3 ≤ g16 by have := hgs W0 (Bw.refl _); omega)
  generalize hW1 : World.alloc W0 _ = W1
  have hb1 : Bw W0 W1 := by rw [← hW1]; exact Bw.alloc (Bw.refl W0) _
  have NB : Blk W1 g16 56 (qV X) := by rw [← hW1, ← HXA.out, ← hg16]; exact Blk.new W0 56 (Value.int .i64 (x 0) :: Value.int .i64 (x 1) :: Value.int .i64 (x 2) :: Value.int .i64 (x 3) :: Value.int .i64 (x 4) :: Value.int .i64 (x 5) :: Value.int .i64 (x 6) :: Value.int .i64 (x 7) :: Value.int .i64 (x 8) :: Value.int .i64 (x 9) :: Value.int .i64 (x 10) :: Value.int .i64 (x 11) :: Value.int .i64 (x 12) :: Value.int .i64 u0 :: Value.int .i64 u1 :: Value.int .i64 u2 :: Value.int .i64 r :: Value.int .i64 t :: Value.int .i64 l :: Value.int .i64 c :: Value.int .i64 m :: Value.int .i64 0 :: Value.int .i64 0 :: Value.int .i64 0 :: Value.int .i64 0 :: Value.int .i64 0 :: Value.int .i64 0 :: Value.int .i64 0 :: Value.int .i64 0 :: Value.int .i64 0 :: Value.int .i64 0 :: Value.int .i64 0 :: Value.int .i64 0 :: []).toArray
  have HQ := Lib.hid (show QBlk W1 g16 X from NB)
  have HBW := Lib.hid (HB.out.trans hb1)
  have HWG := Lib.hid (show w.heap.size ≤ g16 by have := HG.out; have := HN16.out; omega)
  replace K14 := Lib.hid (K14.out.bw hb1)
  have HWD1 := Lib.hid (HWD.out.bw HBW.out)
  clear NB hb1 hW1 hg16 d0 d1 d2 K7 K8 HSZ HB hgs HXA
  obtain ⟨Y1, Y2, hy, c1, c2, c3, c4⟩ := HST.out g16 (by have := HN16.out; omega)
  have HY := Lib.hid hy
  have C1 := Lib.hid c1
  have C2 := Lib.hid c2
  have C3 := Lib.hid c3
  have C4 := Lib.hid c4
  clear HST hy c1 c2 c3 c4
  obtain ⟨E, hE⟩ : ∃ E, E = prE X := ⟨_, rfl⟩
  have HEE := Lib.hid hE
  rw [← hE] at HE HY
  clear hE
  have hne : (E != 0) = true := by simpa using HE.out
  have hne2 : (E == 0) = false := by simpa using HE.out
  go_upto_region 3 with (first | (go_at_call 24; (with_reducible refine Calls.mono (C1.out _ HWD1.out HQ.out) ?_); rintro e1 wa ⟨rfl, hq9, hk9⟩; replace HQ := Lib.hid hq9; replace HBW := Lib.hid (hk9.bw HBW.out HWG.out); replace HWD1 := Lib.hid (HWD1.out.kx hk9 (by have := HN16.out; omega)); replace K14 := Lib.hid (hk9.blk K14.out (by have := HN16.out; omega)); clear hq9 hk9) | (go_at_call 25; (with_reducible refine Calls.mono (C2.out _ HWD1.out HQ.out) ?_); rintro e1 wb ⟨rfl, hq9, hk9⟩; replace HQ := Lib.hid hq9; replace HBW := Lib.hid (hk9.bw HBW.out HWG.out); replace HWD1 := Lib.hid (HWD1.out.kx hk9 (by have := HN16.out; omega)); replace K14 := Lib.hid (hk9.blk K14.out (by have := HN16.out; omega)); clear hq9 hk9) | (go_at_call 26; (with_reducible refine Calls.mono (C3.out _ HQ.out) ?_); rintro e1 wc ⟨rfl, hq9, hk9⟩; replace HQ := Lib.hid hq9; replace HBW := Lib.hid (hk9.bw HBW.out HWG.out); replace HWD1 := Lib.hid (HWD1.out.kx hk9 (by have := HN16.out; omega)); replace K14 := Lib.hid (hk9.blk K14.out (by have := HN16.out; omega)); clear hq9 hk9) | (go_at_call 27; (with_reducible refine Calls.mono (C4.out _ HQ.out) ?_); rintro e1 we ⟨rfl, hq9, hk9⟩; replace HQ := Lib.hid hq9; replace HBW := Lib.hid (hk9.bw HBW.out HWG.out); replace HWD1 := Lib.hid (HWD1.out.kx hk9 (by have := HN16.out; omega)); replace K14 := Lib.hid (hk9.blk K14.out (by have := HN16.out; omega)); have d32 := HQ.out.at 32 (by omega); rw [HY.out] at d32; clear hq9 hk9))
  clear d32
  obtain ⟨wd, hwd⟩ : ∃ wd, wd = we := ⟨_, rfl⟩
  subst hwd
  refine wp_region_held_drew (S := fun W => Bw w W ∧ W.cell? ⟨g16, 32, none⟩ = some (.int .i64 E)) (by kernel_rfl) ⟨Bw.drew HBW.out, by have h9 := (HQ.out.bw (Bw.drew (Bw.refl wd))).at 32 (by omega); rw [HY.out] at h9; exact h9⟩ (fun hS => ?_)
  replace K14 := Lib.hid (K14.out.bw (Bw.drew (Bw.refl wd)))
  replace HQ := Lib.hid (HQ.out.bw (Bw.drew (Bw.refl wd)))
  clear HBW HWD1
  generalize World.drew _ = wd at *
  refine take1 (i := 0) (some 41) rfl rfl (by kernel_rfl) (by kernel_rfl) (by kernel_rfl) (fun _ _ _ _ h => h) rfl hS ?_
  apply Exists.intro
  apply And.intro
  · intro W9 hW9; skip; go_simp; try with_reducible rfl
  simp only [Act.put, List.setIfInBounds_toArray, List.set_cons_zero, List.set_cons_succ]
  refine take1 (i := 1) (some 42) rfl rfl (by kernel_rfl) (by kernel_rfl) (by kernel_rfl) (fun _ _ _ _ h => h) rfl hS ?_
  apply Exists.intro
  apply And.intro
  · intro W9 hW9; skip; go_simp; try with_reducible rfl
  simp only [Act.put, List.setIfInBounds_toArray, List.set_cons_zero, List.set_cons_succ]
  refine take1 (i := 2) (some 43) rfl rfl (by kernel_rfl) (by kernel_rfl) (by kernel_rfl) (fun _ _ _ _ h => h) rfl hS ?_
  apply Exists.intro
  apply And.intro
  · intro W9 hW9; skip; go_simp; try with_reducible rfl
  simp only [Act.put, List.setIfInBounds_toArray, List.set_cons_zero, List.set_cons_succ]
  refine take1 (i := 3) (some 44) rfl rfl (by kernel_rfl) (by kernel_rfl) (by kernel_rfl) (fun _ _ _ _ h => h) rfl hS ?_
  apply Exists.intro
  apply And.intro
  · intro W9 hW9; skip; go_simp; try with_reducible rfl
  simp only [Act.put, List.setIfInBounds_toArray, List.set_cons_zero, List.set_cons_succ]
  refine take1 (i := 4) (some 45) rfl rfl (by kernel_rfl) (by kernel_rfl) (by kernel_rfl) (fun _ _ _ _ h => h) rfl hS ?_
  refine Exists.intro (.int .i64 E) ?_
  apply And.intro
  · intro W9 hW9; skip; (have c0 := hW9.2); go_simp; try with_reducible rfl
  simp only [Act.put, List.setIfInBounds_toArray, List.set_cons_zero, List.set_cons_succ]
  refine wpAnyH_ready (rs := [5]) (by kernel_rfl) (by simp) ?_
  refine AllReadyH.cons rfl (fun K hK => ?_) ?_
  rw [if_pos (by rfl)]
  refine wp_store_row0 23 _ _ rfl rfl (g + 1 + 1) #[.int .i64 0, .int .i64 0, .int .i64 0, .int .i64 0, .int .i64 0, .int .i64 0] rfl rfl 23 #[.int .i64 0, .int .i64 0, .int .i64 0, .int .i64 0, .int .i64 0, .int .i64 0] K14.out (by kernel_rfl) rfl (by simp [Value.oneCell']) ?_
  have hS9 := And.intro (Bw.setRow hS.1 (show w.heap.size ≤ g + 1 + 1 by have := HG.out; omega) #[.int .i64 0, .int .i64 0, .int .i64 0, .int .i64 0, .int .i64 0, .int .i64 0]) (show World.cell? _ ⟨g16, 32, none⟩ = some (.int .i64 E) by have h9 := (Blk.row_other HQ.out (g' := g + 1 + 1) (by have := HN16.out; omega) #[.int .i64 0, .int .i64 0, .int .i64 0, .int .i64 0, .int .i64 0, .int .i64 0]); have h8 := Blk.cell h9 (qV_at Y2 32 (by omega)); rw [HY.out] at h8; exact h8)
  replace K14 := Lib.hid (K14.out.row #[.int .i64 0, .int .i64 0, .int .i64 0, .int .i64 0, .int .i64 0, .int .i64 0])
  clear hS HQ
  refine hK.out _ _ hS9 (fun hS => ?_)
  clear hK K
  clear hS9
  refine take1 (i := 6) (some 15) rfl rfl (by kernel_rfl) (by kernel_rfl) (by kernel_rfl) (fun _ _ _ _ h => h) rfl hS ?_
  apply Exists.intro
  apply And.intro
  · intro W9 hW9; skip; go_simp; try with_reducible rfl
  simp only [Act.put, List.setIfInBounds_toArray, List.set_cons_zero, List.set_cons_succ]
  refine wpAnyH_done (by kernel_rfl) ?_ _
  rotate_left
  exact AllReadyH.nil
  all_goals
    go_wp2
    refine bodyPost_ret (v := .tuple #[.agg #[.int .i64 0, .int .i64 0, .int .i64 0, .int .i64 0, .int .i64 0, .int .i64 0], .int .i64 E]) ?_ rfl ⟨by rw [HEE.out], hS.1⟩
    exact results_two_row (p := 14) (u := 15) rfl _ _ (g + 1 + 1) _ rfl (run_loadVar_row _ (g + 1 + 1) 23 23 #[.int .i64 0, .int .i64 0, .int .i64 0, .int .i64 0, .int .i64 0, .int .i64 0] (0, 0) _ K14.out Tryd.underlying23 rfl (by kernel_rfl))
theorem Predict_ok (x : Nat → Int) (u0 u1 u2 r t l c m q : Int) (w : World) (hw : WdAt w) (he : prE (X0p x u0 u1 u2 r t l c m) = 0) (hu : ∀ k, k < 3 → -4000000000000000000 ≤ [u0, u1, u2].getD k 0 ∧ [u0, u1, u2].getD k 0 ≤ 4000000000000000000)
    (hq0 : 0 ≤ q) (hq1 : q * q ≤ sK40 (pr3 (X0p x u0 u1 u2 r t l c m)) 3) (hq2 : sK40 (pr3 (X0p x u0 u1 u2 r t l c m)) 3 < (q + 1) * (q + 1)) :
    Calls Tryd.prog 7 #[.agg (pgV x), .agg #[.int .i64 u0, .int .i64 u1, .int .i64 u2], .int .i64 r, .int .i64 t, .int .i64 l, .int .i64 c, .int .i64 m] w fun e w' => e = .returned (.tuple #[.agg (hV (pr4 (X0p x u0 u1 u2 r t l c m) q)), .int .i64 0]) ∧ Bw w w' := by
  have HXA := Lib.hid (X0_arr x u0 u1 u2 r t l c m)
  have HST := Lib.hid (fun g hg0 => steps_ok (X0p x u0 u1 u2 r t l c m) g q he rfl rfl (fun k hk => by match k, hk with | 0, _ => exact hu 0 (by omega) | 1, _ => exact hu 1 (by omega) | 2, _ => exact hu 2 (by omega)) hg0 hq0 hq1 hq2)
  have h320 : X0p x u0 u1 u2 r t l c m 32 = 0 := rfl
  generalize X0p x u0 u1 u2 r t l c m = X at *
  have H4 := Lib.hid (show pr4 X q 32 = 0 from by show X 32 = 0; exact h320)
  clear he hu hq0 hq1 hq2
  have HWD := Lib.hid hw
  have hw0 := hw.1
  have HB := Lib.hid (Bw.alloc (Bw.alloc (Bw.alloc (Bw.refl w) (.cells (pgV x) 29)) (.cells #[.int .i64 u0, .int .i64 u1, .int .i64 u2] 32)) (.cells #[.int .i64 0, .int .i64 0, .int .i64 0, .int .i64 0, .int .i64 0, .int .i64 0] 23))
  have K7 := Lib.hid (((Blk.new w 29 (pgV x)).alloc (.cells #[.int .i64 u0, .int .i64 u1, .int .i64 u2] 32)).alloc (.cells #[.int .i64 0, .int .i64 0, .int .i64 0, .int .i64 0, .int .i64 0, .int .i64 0] 23))
  have K8 := Lib.hid ((Blk.new (w.alloc (.cells (pgV x) 29)) 32 #[.int .i64 u0, .int .i64 u1, .int .i64 u2]).alloc (.cells #[.int .i64 0, .int .i64 0, .int .i64 0, .int .i64 0, .int .i64 0, .int .i64 0] 23))
  have K14 := Lib.hid (Blk.new ((w.alloc (.cells (pgV x) 29)).alloc (.cells #[.int .i64 u0, .int .i64 u1, .int .i64 u2] 32)) 23 #[.int .i64 0, .int .i64 0, .int .i64 0, .int .i64 0, .int .i64 0, .int .i64 0])
  have HSZ : Hid ((Tryd.prog.info? 29).map (·.size) = some (pgV x).size) := Lib.hid (by kernel_rfl)
  simp only [World.size_alloc] at K8 K14
  obtain ⟨g, hg⟩ : ∃ g, w.heap.size = g := ⟨_, rfl⟩
  rw [hg] at K7 K8 K14
  have HG := Lib.hid hg
  have hgs : ∀ W : World, Bw (((w.alloc (.cells (pgV x) 29)).alloc (.cells #[.int .i64 u0, .int .i64 u1, .int .i64 u2] 32)).alloc (.cells #[.int .i64 0, .int .i64 0, .int .i64 0, .int .i64 0, .int .i64 0, .int .i64 0] 23)) W → g + 3 ≤ W.heap.size := fun W h => by have := h.size; simp only [World.size_alloc] at this; omega
  clear hw
  go_enter Tryd.func7, Tryd.ntmps7
  go_upto_region 1 with fail
  (try rw [hg])
  obtain ⟨W0, hW0⟩ : ∃ W0, ((w.alloc (.cells (pgV x) 29)).alloc (.cells #[.int .i64 u0, .int .i64 u1, .int .i64 u2] 32)).alloc (.cells #[.int .i64 0, .int .i64 0, .int .i64 0, .int .i64 0, .int .i64 0, .int .i64 0] 23) = W0 := ⟨_, rfl⟩
  rw [hW0] at K7 K8 K14 HB hgs ⊢
  clear hW0 hg
  have d0 := K8.out.cell (show (#[.int .i64 u0, .int .i64 u1, .int .i64 u2] : Array Value)[0]? = some (.int .i64 u0) from rfl)
  have d1 := K8.out.cell (show (#[.int .i64 u0, .int .i64 u1, .int .i64 u2] : Array Value)[1]? = some (.int .i64 u1) from rfl)
  have d2 := K8.out.cell (show (#[.int .i64 u0, .int .i64 u1, .int .i64 u2] : Array Value)[2]? = some (.int .i64 u2) from rfl)
  unfold pgV at K7 HSZ
  go_upto_region 2 with ((with_reducible refine at_load 29 (.tmp 7) ?_); refine wpList_load_row rfl 29 _ rfl g (by simp [Act.eval, Act.put]) 29 #[.int .i64 (x 0), .int .i64 (x 1), .int .i64 (x 2), .int .i64 (x 3), .int .i64 (x 4), .int .i64 (x 5), .int .i64 (x 6), .int .i64 (x 7), .int .i64 (x 8), .int .i64 (x 9), .int .i64 (x 10), .int .i64 (x 11), .int .i64 (x 12)] (0, 0) _ K7.out Tryd.underlying29 rfl HSZ.out ?_)
  obtain ⟨g16, hg16⟩ : ∃ g16, W0.heap.size = g16 := ⟨_, rfl⟩
  rw [hg16]
  have HN16 := Lib.hid (show g + 3 ≤ g16 by have := hgs W0 (Bw.refl _); omega)
  generalize hW1 : World.alloc W0 _ = W1
  have hb1 : Bw W0 W1 := by rw [← hW1]; exact Bw.alloc (Bw.refl W0) _
  have NB : Blk W1 g16 56 (qV X) := by rw [← hW1, ← HXA.out, ← hg16]; exact Blk.new W0 56 (Value.int .i64 (x 0) :: Value.int .i64 (x 1) :: Value.int .i64 (x 2) :: Value.int .i64 (x 3) :: Value.int .i64 (x 4) :: Value.int .i64 (x 5) :: Value.int .i64 (x 6) :: Value.int .i64 (x 7) :: Value.int .i64 (x 8) :: Value.int .i64 (x 9) :: Value.int .i64 (x 10) :: Value.int .i64 (x 11) :: Value.int .i64 (x 12) :: Value.int .i64 u0 :: Value.int .i64 u1 :: Value.int .i64 u2 :: Value.int .i64 r :: Value.int .i64 t :: Value.int .i64 l :: Value.int .i64 c :: Value.int .i64 m :: Value.int .i64 0 :: Value.int .i64 0 :: Value.int .i64 0 :: Value.int .i64 0 :: Value.int .i64 0 :: Value.int .i64 0 :: Value.int .i64 0 :: Value.int .i64 0 :: Value.int .i64 0 :: Value.int .i64 0 :: Value.int .i64 0 :: Value.int .i64 0 :: []).toArray
  have HQ := Lib.hid (show QBlk W1 g16 X from NB)
  have HBW := Lib.hid (HB.out.trans hb1)
  have HWG := Lib.hid (show w.heap.size ≤ g16 by have := HG.out; have := HN16.out; omega)
  replace K14 := Lib.hid (K14.out.bw hb1)
  have HWD1 := Lib.hid (HWD.out.bw HBW.out)
  clear NB hb1 hW1 hg16 d0 d1 d2 K7 K8 HSZ HB hgs HXA
  obtain ⟨c1, c2, c3, c4⟩ := HST.out g16 (by have := HN16.out; omega)
  have C1 := Lib.hid c1
  have C2 := Lib.hid c2
  have C3 := Lib.hid c3
  have C4 := Lib.hid c4
  clear HST c1 c2 c3 c4
  generalize pr2 X = X2 at *
  generalize pr3 X = X3 at *
  obtain ⟨X4, h4⟩ : ∃ X4, X4 = pr4 X q := ⟨_, rfl⟩
  have H44 := Lib.hid h4
  rw [← h4] at C4 H4
  clear h4
  go_upto_region 4 with (first | (go_at_call 24; (with_reducible refine Calls.mono (C1.out _ HWD1.out HQ.out) ?_); rintro e1 wa ⟨rfl, hq9, hk9⟩; replace HQ := Lib.hid hq9; replace HBW := Lib.hid (hk9.bw HBW.out HWG.out); replace HWD1 := Lib.hid (HWD1.out.kx hk9 (by have := HN16.out; omega)); replace K14 := Lib.hid (hk9.blk K14.out (by have := HN16.out; omega)); clear hq9 hk9) | (go_at_call 25; (with_reducible refine Calls.mono (C2.out _ HWD1.out HQ.out) ?_); rintro e1 wb ⟨rfl, hq9, hk9⟩; replace HQ := Lib.hid hq9; replace HBW := Lib.hid (hk9.bw HBW.out HWG.out); replace HWD1 := Lib.hid (HWD1.out.kx hk9 (by have := HN16.out; omega)); replace K14 := Lib.hid (hk9.blk K14.out (by have := HN16.out; omega)); clear hq9 hk9) | (go_at_call 26; (with_reducible refine Calls.mono (C3.out _ HQ.out) ?_); rintro e1 wc ⟨rfl, hq9, hk9⟩; replace HQ := Lib.hid hq9; replace HBW := Lib.hid (hk9.bw HBW.out HWG.out); replace HWD1 := Lib.hid (HWD1.out.kx hk9 (by have := HN16.out; omega)); replace K14 := Lib.hid (hk9.blk K14.out (by have := HN16.out; omega)); clear hq9 hk9) | (go_at_call 27; (with_reducible refine Calls.mono (C4.out _ HQ.out) ?_); rintro e1 we ⟨rfl, hq9, hk9⟩; replace HQ := Lib.hid hq9; replace HBW := Lib.hid (hk9.bw HBW.out HWG.out); replace HWD1 := Lib.hid (HWD1.out.kx hk9 (by have := HN16.out; omega)); replace K14 := Lib.hid (hk9.blk K14.out (by have := HN16.out; omega)); have d32 := HQ.out.at 32 (by omega); rw [H4.out] at d32; clear hq9 hk9))
  clear d32
  have HH := Lib.hid HQ.out.hint
  have HVS : Hid ((hV X4).all (·.oneCell') = true) := Lib.hid (by simp [Value.oneCell', hV])
  go_wp2_with (first | ((with_reducible refine at_load 23 (.tmp 48) ?_); refine wpList_load_mid rfl 23 _ rfl g16 26 (by simp [Act.eval, Act.put]) _ _ HH.out Tryd.underlying23 rfl (by kernel_rfl) ?_) | ((with_reducible refine at_store 23 (.tmp 14) (.tmp 49) ?_); refine wpList_store_row rfl 23 (.tmp 14) (.tmp 49) rfl (g + 1 + 1) (hV X4) rfl rfl 23 #[.int .i64 0, .int .i64 0, .int .i64 0, .int .i64 0, .int .i64 0, .int .i64 0] K14.out (by kernel_rfl) rfl HVS.out ?_))
  refine bodyPost_ret (v := .tuple #[.agg (hV X4), .int .i64 0]) ?_ rfl ⟨by rw [H44.out], Bw.setRow HBW.out (show w.heap.size ≤ g + 1 + 1 by have := HG.out; omega) _⟩
  exact results_two_row (p := 14) (u := 15) rfl _ _ (g + 1 + 1) _ rfl (run_loadVar_row _ (g + 1 + 1) 23 23 (hV X4) (0, 0) _ (K14.out.row _) Tryd.underlying23 rfl (by kernel_rfl))
end Go.Proofs.Sky

namespace Go.Proofs.Sky
open Go Go.RowKit Go.Shelf
attribute [local go_sem] Oper.semAt_some
set_option maxHeartbeats 4000000
set_option maxRecDepth 8000
/-! chapter 40: Fits, signed, page -/
theorem Fits_ok (h0 h1 h2 h3 h4 h5 lag s : Int) (w : World) (hs : 1 ≤ s ∧ s ≤ 8192) (hl : 0 ≤ h4 ∧ h4 < s) (hm : 1 ≤ h5 ∧ h5 ≤ s) (hg : 0 ≤ lag ∧ lag < s) : Calls Tryd.prog 11 #[.agg #[.int .i64 h0, .int .i64 h1, .int .i64 h2, .int .i64 h3, .int .i64 h4, .int .i64 h5], .int .i64 lag, .int .i64 s] w fun e w' => e = .returned (.tuple #[.bool (decide ((lag - h4 + s) % s < h5)), .int .i64 0]) ∧ Bw w w' := by
  have K := Lib.hid (Blk.new w 23 #[.int .i64 h0, .int .i64 h1, .int .i64 h2, .int .i64 h3, .int .i64 h4, .int .i64 h5])
  have HW := Lib.hid (Bw.alloc (Bw.refl w) (.cells #[.int .i64 h0, .int .i64 h1, .int .i64 h2, .int .i64 h3, .int .i64 h4, .int .i64 h5] 23))
  have ht : (lag - h4 + s).tmod s = (lag - h4 + s) % s := Int.tmod_eq_emod_of_nonneg (by omega)
  have hz : ¬ s = 0 := by omega
  have hzb : (s == 0) = false := by simpa using hz
  have hw1 : IntKind.i64.wrap (lag - h4) = lag - h4 := by rw [IntKind.wrap_i64]; omega
  have hw2 : IntKind.i64.wrap (lag - h4 + s) = lag - h4 + s := by rw [IntKind.wrap_i64]; omega
  have hb : 0 ≤ (lag - h4 + s) % s ∧ (lag - h4 + s) % s < s := ⟨Int.emod_nonneg _ hz, Int.emod_lt_of_pos _ (by omega)⟩
  generalize hq : (lag - h4 + s) % s = q at *
  have HQ := Lib.hid hq
  clear hq
  have n1 : ¬ s < 1 := by omega
  have n2 : ¬ 8192 < s := by omega
  have n3 : ¬ h4 < 0 := by omega
  have n4 : ¬ s ≤ h4 := by omega
  have n5 : ¬ h5 < 1 := by omega
  have n6 : ¬ s < h5 := by omega
  have n7 : ¬ lag < 0 := by omega
  have n8 : ¬ s ≤ lag := by omega
  go_enter Tryd.func11, Tryd.ntmps11
  go_upto_region 1 with fail
  obtain ⟨g, hg⟩ : ∃ g, w.heap.size = g := ⟨_, rfl⟩
  rw [hg] at K
  (try rw [hg])
  generalize w.alloc _ = W0 at *
  have d4 := K.out.cell (show (#[.int .i64 h0, .int .i64 h1, .int .i64 h2, .int .i64 h3, .int .i64 h4, .int .i64 h5] : Array Value)[4]? = some (.int .i64 h4) from rfl)
  have d5 := K.out.cell (show (#[.int .i64 h0, .int .i64 h1, .int .i64 h2, .int .i64 h3, .int .i64 h4, .int .i64 h5] : Array Value)[5]? = some (.int .i64 h5) from rfl)
  go_upto_region 3 with fail
  have k4 := fun p : Ext W0 => Ext.cell' d4 p
  have k5 := fun p : Ext W0 => Ext.cell' d5 p
  (refine wp_region_quiet_ext (by kernel_rfl) (by kernel_rfl) ?_; (repeat (go_big_quiet_step ((fail)))); refine wpQuiet_nil ?_; rintro wq ⟨⟨_, hbq⟩, rfl⟩; obtain ⟨hccq, hffq⟩ := Bw.cells hbq; have hszq := Bw.size hbq)
  clear n1 n2 n3 n4 n5 n6 n7 n8
  go_wp2
  refine bodyPost_ret (v := .tuple #[.bool (decide (q < h5)), .int .i64 0]) ?_ rfl ⟨rfl, HW.out.trans hbq⟩
  simp [results, Tryd.results11, go_sem]
def sgW (n k : Int) : Int := bel n (2 * k + 1) - k
theorem sgW_bd (n k : Int) (hk : 0 ≤ k) : -k ≤ sgW n k ∧ sgW n k ≤ k := by have := bel_bd n (2 * k + 1) (by omega); unfold sgW; omega
theorem signed40_any (n k : Int) (hk : 0 ≤ k ∧ k ≤ 1000000000) (w : World) : Calls Tryd.prog 18 #[.int .i64 n, .int .i64 k] w fun e w' => e = .returned (.int .i64 (sgW n k)) ∧ Bw w w' := by
  have BE := Lib.hid (fun W => Below_any n (2 * k + 1) W (by omega) (by omega))
  have hb := bel_bd n (2 * k + 1) (by omega)
  unfold sgW
  generalize bel n (2 * k + 1) = B at *
  have hw1 : IntKind.i64.wrap (2 * k) = 2 * k := by rw [IntKind.wrap_i64]; omega
  have hw2 : IntKind.i64.wrap (2 * k + 1) = 2 * k + 1 := by rw [IntKind.wrap_i64]; omega
  have hw3 : IntKind.i64.wrap (B - k) = B - k := by rw [IntKind.wrap_i64]; omega
  go_enter Tryd.func18, Tryd.ntmps18
  go_wp2_with (go_at_call 15; (with_reducible refine Calls.mono (BE.out _) ?_); rintro e1 w1 ⟨rfl, hb9⟩)
  go_ret
  exact ⟨rfl, hb9⟩
/-- the page that numbers select -/
def pg4 (zs : List Int) (t : Int) : Nat → Int := fun i => if i = 0 then 1 + bel (nth zs 0) 63 else if i = 1 then bel (t + sgW (nth zs 1) 13800) 604800 else if i = 2 then bel (nth zs 2) 65536 else if i = 3 then bel (nth zs 3) 100000 else if i < 13 then sgW (nth zs (i : Nat)) (if i % 3 = 1 then 500000 else if i % 3 = 2 then 8000 else 2000) else 0
/-- what of it stands after k rounds -/
def pgK (zs : List Int) (t : Int) (k : Nat) : Nat → Int := fun i => if i < 4 + 3 * k then pg4 zs t i else 0
theorem pgK_three (zs : List Int) (t : Int) : pgV (pgK zs t 3) = pgV (pg4 zs t) := rfl
theorem pgK_zero (zs : List Int) (t : Int) : pgV (pgK zs t 0) = #[.int .i64 (1 + bel (nth zs 0) 63), .int .i64 (bel (t + sgW (nth zs 1) 13800) 604800), .int .i64 (bel (nth zs 2) 65536), .int .i64 (bel (nth zs 3) 100000), .int .i64 0, .int .i64 0, .int .i64 0, .int .i64 0, .int .i64 0, .int .i64 0, .int .i64 0, .int .i64 0, .int .i64 0] := rfl
theorem pg4_row (zs : List Int) (t : Int) (k : Nat) (hk : k < 3) : pg4 zs t (4 + 3 * k) = sgW (nth zs (4 + 3 * (k : Int))) 500000 ∧ pg4 zs t (5 + 3 * k) = sgW (nth zs (5 + 3 * (k : Int))) 8000 ∧ pg4 zs t (6 + 3 * k) = sgW (nth zs (6 + 3 * (k : Int))) 2000 := by
  match k, hk with
  | 0, _ => exact ⟨rfl, rfl, rfl⟩
  | 1, _ => exact ⟨rfl, rfl, rfl⟩
  | 2, _ => exact ⟨rfl, rfl, rfl⟩
theorem pg4_ok (zs : List Int) (t : Int) : errPg (pg4 zs t) = 0 := by
  refine errPg_yes ?_ ?_
  · have b0 := bel_bd (nth zs 0) 63 (by decide)
    have b1 := bel_bd (t + sgW (nth zs 1) 13800) 604800 (by decide)
    have b2 := bel_bd (nth zs 2) 65536 (by decide)
    have b3 := bel_bd (nth zs 3) 100000 (by decide)
    show 1 ≤ 1 + bel (nth zs 0) 63 ∧ 1 + bel (nth zs 0) 63 ≤ 63 ∧ 0 ≤ bel (t + sgW (nth zs 1) 13800) 604800 ∧ bel (t + sgW (nth zs 1) 13800) 604800 ≤ 604799 ∧ 0 ≤ bel (nth zs 2) 65536 ∧ bel (nth zs 2) 65536 ≤ 65535 ∧ 0 ≤ bel (nth zs 3) 100000 ∧ bel (nth zs 3) 100000 ≤ 1048575
    omega
  · have k20 : ∀ n, okZ 20 (sgW n 500000) = true := fun n => by
      have := sgW_bd n 500000 (by decide)
      refine decide_eq_true ?_
      rw [show lowR 20 true = -524288 from by decide, show highR 20 true = 524287 from by decide]; omega
    have k14 : ∀ n, okZ 14 (sgW n 8000) = true := fun n => by
      have := sgW_bd n 8000 (by decide)
      refine decide_eq_true ?_
      rw [show lowR 14 true = -8192 from by decide, show highR 14 true = 8191 from by decide]; omega
    have k12 : ∀ n, okZ 12 (sgW n 2000) = true := fun n => by
      have := sgW_bd n 2000 (by decide)
      refine decide_eq_true ?_
      rw [show lowR 12 true = -2048 from by decide, show highR 12 true = 2047 from by decide]; omega
    intro i hi
    match i, hi with
    | 0, _ => exact ⟨k20 _, k20 _, k20 _⟩
    | 1, _ => exact ⟨k14 _, k14 _, k14 _⟩
    | 2, _ => exact ⟨k12 _, k12 _, k12 _⟩
end Go.Proofs.Sky

namespace Go.Proofs.Sky
open Go Go.RowKit Go.Shelf
attribute [local go_sem] Oper.semAt_some
set_option maxHeartbeats 4000000
set_option maxRecDepth 8000
/-! chapter 40: page -/
theorem blk_row3 {w : World} {g : Nat} {zs : List Int} {t : Int} {k : Nat} (hk : k < 3) (h : Blk w g 29 (pgV (pgK zs t k))) : Blk (w.setCells g (4 + 3 * k) [.int .i64 (pg4 zs t (4 + 3 * k)), .int .i64 (pg4 zs t (5 + 3 * k)), .int .i64 (pg4 zs t (6 + 3 * k))]) g 29 (pgV (pgK zs t (k + 1))) := by
  have h9 := ((h.set (4 + 3 * k) (.int .i64 (pg4 zs t (4 + 3 * k)))).set (4 + 3 * k + 1) (.int .i64 (pg4 zs t (5 + 3 * k)))).set (4 + 3 * k + 2) (.int .i64 (pg4 zs t (6 + 3 * k)))
  match k, hk with
  | 0, _ => exact h9
  | 1, _ => exact h9
  | 2, _ => exact h9
theorem bw_setCells4 {W0 : World} {g : Nat} (hg : W0.heap.size ≤ g) : ∀ (vs : List Value) (o : Nat) (w : World), Bw W0 w → Bw W0 (w.setCells g o vs)
  | [], _, _, h => h
  | v :: r, o, w, h => by rw [World.setCells]; exact bw_setCells4 hg r (o + 1) _ (Bw.setCell h hg v)
theorem page40_any (zs : List Int) (v : Value) (t : Int) (ht : 0 ≤ t ∧ t ≤ 604799) (w : World) (hv : RdI w v zs) : Calls Tryd.prog 17 #[v, .int .i64 t] w fun e w' => e = .returned (.agg (pgV (pg4 zs t))) ∧ Bw w w' := by
  have HV := Lib.hid hv
  have NT := Lib.hid (fun i W h => Nth_any zs v i W h)
  have BE := Lib.hid (fun n k W (h : 1 ≤ k ∧ k ≤ 4611686018427387904) => Below_any n k W h.1 h.2)
  have SG := Lib.hid (fun n k W (h : 0 ≤ k ∧ k ≤ 1000000000) => signed40_any n k h W)
  have b0 := bel_bd (nth zs 0) 63 (by decide)
  have hsg := sgW_bd (nth zs 1) 13800 (by decide)
  have hw1 : IntKind.i64.wrap (t + sgW (nth zs 1) 13800) = t + sgW (nth zs 1) 13800 := by rw [IntKind.wrap_i64]; omega
  have hw2 : IntKind.i64.wrap (1 + bel (nth zs 0) 63) = 1 + bel (nth zs 0) 63 := by rw [IntKind.wrap_i64]; omega
  clear hv
  have K4 := Lib.hid (Blk.new w 29 #[.int .i64 0, .int .i64 0, .int .i64 0, .int .i64 0, .int .i64 0, .int .i64 0, .int .i64 0, .int .i64 0, .int .i64 0, .int .i64 0, .int .i64 0, .int .i64 0, .int .i64 0])
  have HW := Lib.hid (Bw.alloc (Bw.refl w) (.cells #[.int .i64 0, .int .i64 0, .int .i64 0, .int .i64 0, .int .i64 0, .int .i64 0, .int .i64 0, .int .i64 0, .int .i64 0, .int .i64 0, .int .i64 0, .int .i64 0, .int .i64 0] 29))
  go_enter Tryd.func17, Tryd.ntmps17
  go_upto_region 1 with fail
  obtain ⟨g4, hg4⟩ : ∃ g4, w.heap.size = g4 := ⟨_, rfl⟩
  have HG4 := Lib.hid hg4
  rw [hg4] at K4
  (try rw [hg4])
  obtain ⟨W0, hW0⟩ : ∃ W0, w.alloc (.cells #[.int .i64 0, .int .i64 0, .int .i64 0, .int .i64 0, .int .i64 0, .int .i64 0, .int .i64 0, .int .i64 0, .int .i64 0, .int .i64 0, .int .i64 0, .int .i64 0, .int .i64 0] 29) = W0 := ⟨_, rfl⟩
  rw [hW0] at K4 HW ⊢
  clear hW0 hg4
  obtain ⟨w1, hw1e⟩ : ∃ w1, w1 = W0 := ⟨_, rfl⟩
  subst hw1e
  have HZ13 := Lib.hid (fun (W : World) => Blk.new W 29 #[.int .i64 0, .int .i64 0, .int .i64 0, .int .i64 0, .int .i64 0, .int .i64 0, .int .i64 0, .int .i64 0, .int .i64 0, .int .i64 0, .int .i64 0, .int .i64 0, .int .i64 0])
  go_upto_region 2 with (first | (go_at_call 16; (with_reducible refine Calls.mono (NT.out _ _ (HV.out.mono HW.out)) ?_); rintro e1 w1 ⟨rfl, hb1⟩; replace K4 := Lib.hid (K4.out.bw hb1); replace HW := Lib.hid (HW.out.trans hb1); clear hb1) | (go_at_call 15; (with_reducible refine Calls.mono (BE.out _ _ _ ?_) ?_); exact ⟨by omega, by omega⟩; rintro e1 w1 ⟨rfl, hb1⟩; replace K4 := Lib.hid (K4.out.bw hb1); replace HW := Lib.hid (HW.out.trans hb1); clear hb1) | (go_at_call 18; (with_reducible refine Calls.mono (SG.out _ _ _ ?_) ?_); exact ⟨by omega, by omega⟩; rintro e1 w1 ⟨rfl, hb1⟩; replace K4 := Lib.hid (K4.out.bw hb1); replace HW := Lib.hid (HW.out.trans hb1); clear hb1) | ((with_reducible refine at_store 29 (.tmp 5) (.tmp 24) ?_); refine wpList_store_row rfl 29 (.tmp 5) (.tmp 24) rfl w1.heap.size (pgV (pgK zs t 0)) rfl rfl 29 #[.int .i64 0, .int .i64 0, .int .i64 0, .int .i64 0, .int .i64 0, .int .i64 0, .int .i64 0, .int .i64 0, .int .i64 0, .int .i64 0, .int .i64 0, .int .i64 0, .int .i64 0] (HZ13.out w1) (by kernel_rfl) rfl (by simp [Value.oneCell', pgV]) ?_))
  obtain ⟨g5, hg5⟩ : ∃ g5, w1.heap.size = g5 := ⟨_, rfl⟩
  have hb2 := Bw.setRow (Bw.alloc (Bw.refl w1) (.cells #[.int .i64 0, .int .i64 0, .int .i64 0, .int .i64 0, .int .i64 0, .int .i64 0, .int .i64 0, .int .i64 0, .int .i64 0, .int .i64 0, .int .i64 0, .int .i64 0, .int .i64 0] 29)) (Nat.le_of_eq hg5) (pgV (pgK zs t 0))
  have K5 := Lib.hid ((HZ13.out w1).row (pgV (pgK zs t 0)))
  have HG5 := Lib.hid (show w.heap.size ≤ g5 by have := HW.out.size; omega)
  have HN45 := Lib.hid (show g4 ≠ g5 by have := K4.out.lt; omega)
  rw [hg5] at K5 ⊢
  replace HW := Lib.hid (HW.out.trans hb2)
  replace K4 := Lib.hid (K4.out.bw hb2)
  rw [← pgK_zero zs t]
  generalize World.setRow (World.alloc w1 _) _ _ = W2 at *
  clear hb2 hg5 hw1 hw2 hsg b0
  (try simp only [Act.put])
  go_wp2_with fail
  go_loopg [6] 3 (fun gg s6 wr => ∃ k : Nat, k ≤ 3 ∧ 3 - k ≤ gg ∧ s6 = .int .i64 k ∧ Hid (Bw w wr) ∧ Hid (Blk wr g5 29 (pgV (pgK zs t k))) ∧ Hid (Blk wr g4 29 #[.int .i64 0, .int .i64 0, .int .i64 0, .int .i64 0, .int .i64 0, .int .i64 0, .int .i64 0, .int .i64 0, .int .i64 0, .int .i64 0, .int .i64 0, .int .i64 0, .int .i64 0]))
  case atStart => exact ⟨0, by omega, by omega, rfl, HW, K5, K4⟩
  case round =>
    clear HW K5 K4
    obtain ⟨k, hk, hgg, rfl, HW, K5, K4⟩ := hrel
    obtain ⟨w1, hw1e⟩ : ∃ w1, w1 = wr := ⟨_, rfl⟩
    subst hw1e
    by_cases hlk : k < 3
    · have hkz : (k : Int) < 3 := by omega
      have HP := Lib.hid (pg4_row zs t k hlk)
      have HR3 := Lib.hid (fun (W : World) h => blk_row3 (w := W) (g := g5) (zs := zs) (t := t) hlk h)
      have HZ3 := Lib.hid (fun (W : World) => Blk.new W 27 #[.int .i64 0, .int .i64 0, .int .i64 0])
      rw [HP.out.1, HP.out.2.1, HP.out.2.2] at HR3
      have hw3 : IntKind.i64.wrap (3 * (k : Int)) = 3 * (k : Int) := by rw [IntKind.wrap_i64]; omega
      have hw4 : IntKind.i64.wrap (4 + 3 * (k : Int)) = 4 + 3 * (k : Int) := by rw [IntKind.wrap_i64]; omega
      have hw5 : IntKind.i64.wrap (5 + 3 * (k : Int)) = 5 + 3 * (k : Int) := by rw [IntKind.wrap_i64]; omega
      have hw6 : IntKind.i64.wrap (6 + 3 * (k : Int)) = 6 + 3 * (k : Int) := by rw [IntKind.wrap_i64]; omega
      go_upto_region 6 with (first | (go_at_call 16; (with_reducible refine Calls.mono (NT.out _ _ (HV.out.mono HW.out)) ?_); rintro e1 w1 ⟨rfl, hb1⟩; replace K4 := Lib.hid (K4.out.bw hb1); replace K5 := Lib.hid (K5.out.bw hb1); replace HW := Lib.hid (HW.out.trans hb1); clear hb1) | (go_at_call 15; (with_reducible refine Calls.mono (BE.out _ _ _ ?_) ?_); exact ⟨by omega, by omega⟩; rintro e1 w1 ⟨rfl, hb1⟩; replace K4 := Lib.hid (K4.out.bw hb1); replace K5 := Lib.hid (K5.out.bw hb1); replace HW := Lib.hid (HW.out.trans hb1); clear hb1) | (go_at_call 18; (with_reducible refine Calls.mono (SG.out _ _ _ ?_) ?_); exact ⟨by omega, by omega⟩; rintro e1 w1 ⟨rfl, hb1⟩; replace K4 := Lib.hid (K4.out.bw hb1); replace K5 := Lib.hid (K5.out.bw hb1); replace HW := Lib.hid (HW.out.trans hb1); clear hb1) | ((with_reducible refine at_store 27 (.tmp 7) (.tmp 47) ?_); refine wpList_store_row rfl 27 (.tmp 7) (.tmp 47) rfl w1.heap.size #[.int .i64 (sgW (nth zs (4 + 3 * (k : Int))) 500000), .int .i64 (sgW (nth zs (5 + 3 * (k : Int))) 8000), .int .i64 (sgW (nth zs (6 + 3 * (k : Int))) 2000)] rfl rfl 27 #[.int .i64 0, .int .i64 0, .int .i64 0] (HZ3.out w1) (by kernel_rfl) rfl (by simp [Value.oneCell']) ?_))
      generalize sgW (nth zs (4 + 3 * (k : Int))) 500000 = s0 at *
      generalize sgW (nth zs (5 + 3 * (k : Int))) 8000 = s1 at *
      generalize sgW (nth zs (6 + 3 * (k : Int))) 2000 = s2 at *
      obtain ⟨g7, hg7⟩ : ∃ g7, w1.heap.size = g7 := ⟨_, rfl⟩
      have hb2 := Bw.setRow (Bw.alloc (Bw.refl w1) (.cells #[.int .i64 0, .int .i64 0, .int .i64 0] 27)) (Nat.le_of_eq hg7) #[.int .i64 s0, .int .i64 s1, .int .i64 s2]
      have K7 := Lib.hid ((HZ3.out w1).row #[.int .i64 s0, .int .i64 s1, .int .i64 s2])
      rw [hg7] at K7 ⊢
      replace HW := Lib.hid (HW.out.trans hb2)
      replace K4 := Lib.hid (K4.out.bw hb2)
      replace K5 := Lib.hid (K5.out.bw hb2)
      generalize World.setRow (World.alloc w1 _) _ _ = W3 at *
      clear hb2 hg7 hw3 hw4 hw5 hw6 HP
      (try simp only [Act.put])
      have HTH := Lib.hid (show W3.there g5 (4 + 3 * k) 3 from blk_there K5.out (by show 4 + 3 * k + 3 ≤ 13; omega))
      have K5N := Lib.hid (HR3.out W3 K5.out)
      have HWN := Lib.hid (bw_setCells4 HG5.out [.int .i64 s0, .int .i64 s1, .int .i64 s2] (4 + 3 * k) W3 HW.out)
      have K4N := Lib.hid (((K4.out.set_other HN45.out (4 + 3 * k) (.int .i64 s0)).set_other HN45.out (4 + 3 * k + 1) (.int .i64 s1)).set_other HN45.out (4 + 3 * k + 2) (.int .i64 s2))
      clear HR3
      rcases (by omega : k = 0 ∨ k = 1 ∨ k = 2) with rfl | rfl | rfl
      · go_wp2_with (first | ((with_reducible refine at_load 27 (.tmp 7) ?_); refine wpList_load_row rfl 27 _ rfl g7 rfl 27 #[.int .i64 s0, .int .i64 s1, .int .i64 s2] (0, 0) _ K7.out Tryd.underlying27 rfl (by kernel_rfl) ?_) | ((with_reducible refine at_store 27 (.tmp 54) (.tmp 53) ?_); refine wpList_store_mid rfl 27 (.tmp 54) (.tmp 53) rfl g5 4 #[.int .i64 s0, .int .i64 s1, .int .i64 s2] (by simp [Act.eval, Act.put]) rfl HTH.out (by kernel_rfl) (by simp [Value.oneCell']) ?_))
        go_roundg (3 - (0 + 1))
        case measure => omega
        case rel => exact ⟨0 + 1, by omega, by omega, by go_num, HWN, K5N, K4N⟩
      · go_wp2_with (first | ((with_reducible refine at_load 27 (.tmp 7) ?_); refine wpList_load_row rfl 27 _ rfl g7 rfl 27 #[.int .i64 s0, .int .i64 s1, .int .i64 s2] (0, 0) _ K7.out Tryd.underlying27 rfl (by kernel_rfl) ?_) | ((with_reducible refine at_store 27 (.tmp 58) (.tmp 57) ?_); refine wpList_store_mid rfl 27 (.tmp 58) (.tmp 57) rfl g5 7 #[.int .i64 s0, .int .i64 s1, .int .i64 s2] (by simp [Act.eval, Act.put]) rfl HTH.out (by kernel_rfl) (by simp [Value.oneCell']) ?_))
        go_roundg (3 - (1 + 1))
        case measure => omega
        case rel => exact ⟨1 + 1, by omega, by omega, by go_num, HWN, K5N, K4N⟩
      · go_wp2_with (first | ((with_reducible refine at_load 27 (.tmp 7) ?_); refine wpList_load_row rfl 27 _ rfl g7 rfl 27 #[.int .i64 s0, .int .i64 s1, .int .i64 s2] (0, 0) _ K7.out Tryd.underlying27 rfl (by kernel_rfl) ?_) | ((with_reducible refine at_store 27 (.tmp 50) (.tmp 49) ?_); refine wpList_store_mid rfl 27 (.tmp 50) (.tmp 49) rfl g5 10 #[.int .i64 s0, .int .i64 s1, .int .i64 s2] (by simp [Act.eval, Act.put]) rfl HTH.out (by kernel_rfl) (by simp [Value.oneCell']) ?_))
        go_roundg (3 - (2 + 1))
        case measure => omega
        case rel => exact ⟨2 + 1, by omega, by omega, by go_num, HWN, K5N, K4N⟩
    · obtain rfl : k = 3 := by omega
      have hkz : ¬ ((3 : Nat) : Int) < 3 := by omega
      rw [pgK_three] at K5
      have HSZ : Hid ((Tryd.prog.info? 29).map (·.size) = some (pgV (pg4 zs t)).size) := Lib.hid (by kernel_rfl)
      have HPX : Hid ((pgV (pg4 zs t)).all (·.oneCell') = true) := Lib.hid (by simp [Value.oneCell', pgV])
      have HN13 : Hid ((#[.int .i64 0, .int .i64 0, .int .i64 0, .int .i64 0, .int .i64 0, .int .i64 0, .int .i64 0, .int .i64 0, .int .i64 0, .int .i64 0, .int .i64 0, .int .i64 0, .int .i64 0] : Array Value).size = (pgV (pg4 zs t)).size) := Lib.hid rfl
      go_wp2_with (first | ((with_reducible refine at_load 29 (.tmp 5) ?_); refine wpList_load_row rfl 29 _ rfl g5 rfl 29 (pgV (pg4 zs t)) (0, 0) _ K5.out Tryd.underlying29 rfl HSZ.out ?_) | ((with_reducible refine at_store 29 (.tmp 4) (.tmp 59) ?_); refine wpList_store_row rfl 29 (.tmp 4) (.tmp 59) rfl g4 (pgV (pg4 zs t)) rfl rfl 29 #[.int .i64 0, .int .i64 0, .int .i64 0, .int .i64 0, .int .i64 0, .int .i64 0, .int .i64 0, .int .i64 0, .int .i64 0, .int .i64 0, .int .i64 0, .int .i64 0, .int .i64 0] K4.out HSZ.out HN13.out HPX.out ?_))
      refine bodyPost_ret (v := .agg (pgV (pg4 zs t))) ?_ rfl ⟨rfl, Bw.setRow HW.out (Nat.le_of_eq HG4.out) _⟩
      exact results_cell_row (p := 4) rfl _ _ g4 _ _ (0, 0) _ rfl (K4.out.row _) Tryd.underlying29 rfl (by kernel_rfl)
end Go.Proofs.Sky

namespace Go.Proofs.Sky
open Go Go.RowKit Go.Shelf
set_option maxHeartbeats 4000000
set_option maxRecDepth 8000
/-! chapter 40: smaller bounds narrow hints, plain -/
theorem mulB {a b A B : Int} (ha : 0 ≤ a ∧ a ≤ A) (hb : 0 ≤ b ∧ b ≤ B) : 0 ≤ a * b ∧ a * b ≤ A * B := ⟨Int.mul_nonneg ha.1 hb.1, Int.mul_le_mul ha.2 hb.2 hb.1 (by omega)⟩
theorem upW_mono {a a' b : Int} (h : a' ≤ a) (hb : 1 ≤ b) : upW a' b ≤ upW a b := by
  unfold upW
  have := Int.ediv_le_ediv (show 0 < b by omega) (show -a ≤ -a' by omega)
  omega
theorem mx28_mono {a b c d : Int} (h1 : a ≤ c) (h2 : b ≤ d) : mx28 a b ≤ mx28 c d := by unfold mx28; split <;> split <;> omega
theorem mn28_mono {a b c d : Int} (h1 : a ≤ c) (h2 : b ≤ d) : mn28 a b ≤ mn28 c d := by unfold mn28; split <;> split <;> omega
/-- two questions of which one has the smaller bounds -/
structure Less (X Y : Nat → Int) : Prop where
  pg : ∀ i, i < 16 → Y i = X i
  t : Y 17 = X 17
  m : Y 20 = X 20
  r : 0 ≤ Y 16 ∧ Y 16 ≤ X 16
  l : 0 ≤ Y 18 ∧ Y 18 ≤ X 18
  c : 0 ≤ Y 19 ∧ Y 19 ≤ X 19
theorem Less.age {X Y : Nat → Int} (h : Less X Y) : ageQ Y ≤ ageQ X := by
  unfold ageQ
  rw [h.t, h.pg 1 (by omega)]
  have := h.l.2
  omega
theorem vQ_mono {c1 c2 a a' : Int} (h : 0 ≤ a' ∧ a' ≤ a) : 0 ≤ vQ c1 c2 a' ∧ vQ c1 c2 a' ≤ vQ c1 c2 a := by
  have hs : 0 ≤ 2 * szW c2 := by unfold szW; omega
  have h1 : 2 * szW c2 * a' ≤ 2 * szW c2 * a := Int.mul_le_mul_of_nonneg_left h.2 hs
  have h2 := upW_mono (b := 1024) h1 (by omega)
  have h3 := (upW_bd (a := 2 * szW c2 * a') (b := 1024) (Int.mul_nonneg hs h.1) (by omega)).1
  have h4 := szW_nn c1
  unfold vQ
  omega
theorem sprK_mono {X Y : Nat → Int} (hpg : ∀ i, i < 16 → Y i = X i) {l l' a a' : Int} (hl : 0 ≤ l' ∧ l' ≤ l) (ha : 0 ≤ a' ∧ a' ≤ a) : ∀ k : Nat, k ≤ 3 → sprK Y l' a' k ≤ sprK X l a k := by
  intro k
  induction k with
  | zero => intro _; exact Int.le_refl _
  | succ k ih =>
    intro hk
    rw [sprK, sprK, hpg (5 + 3 * k) (by omega), hpg (6 + 3 * k) (by omega)]
    have hv := vQ_mono (c1 := X (5 + 3 * k)) (c2 := X (6 + 3 * k)) ha
    have hm : vQ (X (5 + 3 * k)) (X (6 + 3 * k)) a' * l' ≤ vQ (X (5 + 3 * k)) (X (6 + 3 * k)) a * l := Int.mul_le_mul hv.2 hl.2 hl.1 (by omega)
    exact mx28_mono (ih (by omega)) (by omega)
theorem Less.spr {X Y : Nat → Int} (h : Less X Y) (h3 : 0 ≤ X 3) (ha : 0 ≤ ageQ Y) : sprQ Y ≤ sprQ X := by
  have h1 := sprK_mono h.pg h.l ⟨ha, h.age⟩ 3 (by omega)
  have h2 : X 3 * ageQ Y ≤ X 3 * ageQ X := Int.mul_le_mul_of_nonneg_left h.age h3
  have h4 := upW_mono (b := 3600) h2 (by omega)
  unfold sprQ
  rw [h.pg 2 (by omega), h.pg 3 (by omega)]
  omega
theorem Less.at {X Y : Nat → Int} (h : Less X Y) (j : Nat) (hj : j < 3) : atP Y (Y 17) j = atP X (X 17) j := by
  have he : errPg Y = errPg X := errPg_congr (fun i hi => h.pg i (by omega))
  unfold atP errTm
  rw [he, h.t, h.pg 1 (by omega), h.pg (4 + 3 * j) (by omega), h.pg (5 + 3 * j) (by omega), h.pg (6 + 3 * j) (by omega)]
theorem Less.sum {X Y : Nat → Int} (h : Less X Y) : sK40 (pr3 Y) 3 = sK40 (pr3 X) 3 := by
  have e : ∀ Z : Nat → Int, sK40 (pr3 Z) 3 = 0 + (atP Z (Z 17) 0 - Z 13) * (atP Z (Z 17) 0 - Z 13) + (atP Z (Z 17) 1 - Z 14) * (atP Z (Z 17) 1 - Z 14) + (atP Z (Z 17) 2 - Z 15) * (atP Z (Z 17) 2 - Z 15) := fun _ => rfl
  rw [e, e, h.at 0 (by omega), h.at 1 (by omega), h.at 2 (by omega), h.pg 13 (by omega), h.pg 14 (by omega), h.pg 15 (by omega)]
theorem len3_nn (x y z : Int) : 0 ≤ len3 x y z := by unfold len3 szW; omega
theorem Less.narrow {X Y : Nat → Int} (h : Less X Y) (h3 : 0 ≤ X 3) (ha : 0 ≤ ageQ Y) (hw : 0 ≤ sprQ Y) (hm : 1 ≤ X 20) (q : Int) :
    ((pr4 X q) 27 = 0 ∨ (pr4 X q) 27 = (pr4 Y q) 27) ∧ (pr4 X q) 28 ≤ (pr4 Y q) 28 ∧ (pr4 Y q) 29 ≤ (pr4 X q) 29 ∧ (pr4 Y q) 31 ≤ (pr4 X q) 31 := by
  have hs := h.spr h3 ha
  obtain ⟨hr0, hr1⟩ := h.r
  obtain ⟨hc0, hc1⟩ := h.c
  have eU : ∀ Z : Nat → Int, pr4 Z q 27 = upQ40 (pr2 Z) := fun _ => rfl
  have eN : ∀ Z : Nat → Int, pr4 Z q 28 = mx28 0 (q - (2 * sprQ Z + Z 16)) := fun _ => rfl
  have eF : ∀ Z : Nat → Int, pr4 Z q 29 = q + 1 + (2 * sprQ Z + Z 16) := fun _ => rfl
  have eM : ∀ Z : Nat → Int, pr4 Z q 31 = mn28 ((pr4 Z q 29 + Z 19) * 1000 * Z 20 / 299792458 - (pr4 Z q 28 - Z 19) * 1000 * Z 20 / 299792458 + 1) (Z 20) := fun _ => rfl
  have hN : pr4 X q 28 ≤ pr4 Y q 28 := by rw [eN, eN]; exact mx28_mono (Int.le_refl _) (by omega)
  have hF : pr4 Y q 29 ≤ pr4 X q 29 := by rw [eF, eF]; omega
  refine ⟨?_, hN, hF, ?_⟩
  · rw [eU, eU]
    have eB : ∀ Z : Nat → Int, bQ40 (pr2 Z) = sprQ Z * len3 (Z 13) (Z 14) (Z 15) + Z 16 * (len3 (atP Z (Z 17) 0) (atP Z (Z 17) 1) (atP Z (Z 17) 2) + 2 * len3 (Z 13) (Z 14) (Z 15)) + 2 * sprQ Z * Z 16 + Z 16 * Z 16 := fun _ => rfl
    have eF : ∀ Z : Nat → Int, fK40 (pr2 Z) 3 = 0 + (atP Z (Z 17) 0 - Z 13) * Z 13 + (atP Z (Z 17) 1 - Z 14) * Z 14 + (atP Z (Z 17) 2 - Z 15) * Z 15 := fun _ => rfl
    have hf : fK40 (pr2 Y) 3 = fK40 (pr2 X) 3 := by
      rw [eF, eF, h.at 0 (by omega), h.at 1 (by omega), h.at 2 (by omega), h.pg 13 (by omega), h.pg 14 (by omega), h.pg 15 (by omega)]
    have hb : 0 ≤ bQ40 (pr2 Y) ∧ bQ40 (pr2 Y) ≤ bQ40 (pr2 X) := by
      rw [eB, eB, h.at 0 (by omega), h.at 1 (by omega), h.at 2 (by omega), h.pg 13 (by omega), h.pg 14 (by omega), h.pg 15 (by omega)]
      have l1 := len3_nn (X 13) (X 14) (X 15)
      have l2 := len3_nn (atP X (X 17) 0) (atP X (X 17) 1) (atP X (X 17) 2)
      generalize len3 (X 13) (X 14) (X 15) = lu at *
      generalize len3 (atP X (X 17) 0) (atP X (X 17) 1) (atP X (X 17) 2) = ls at *
      have m1 : sprQ Y * lu ≤ sprQ X * lu := Int.mul_le_mul_of_nonneg_right hs l1
      have m2 : Y 16 * (ls + 2 * lu) ≤ X 16 * (ls + 2 * lu) := Int.mul_le_mul_of_nonneg_right hr1 (by omega)
      have m3 : 2 * sprQ Y * Y 16 ≤ 2 * sprQ X * X 16 := Int.mul_le_mul (by omega) hr1 hr0 (by omega)
      have m4 : Y 16 * Y 16 ≤ X 16 * X 16 := Int.mul_le_mul hr1 hr1 hr0 (by omega)
      have n1 := Int.mul_nonneg hw l1
      have n2 := Int.mul_nonneg hr0 (show 0 ≤ ls + 2 * lu by omega)
      have n3 := Int.mul_nonneg (show 0 ≤ 2 * sprQ Y by omega) hr0
      have n4 := Int.mul_nonneg hr0 hr0
      omega
    unfold upQ40
    rw [hf]
    generalize fK40 (pr2 X) 3 = f at *
    generalize bQ40 (pr2 X) = b at *
    generalize bQ40 (pr2 Y) = b' at *
    by_cases h1 : b < f
    · right; rw [if_pos h1, if_pos (by omega)]
    · by_cases h2 : f < -b
      · right
        rw [if_neg h1, if_pos h2]
        by_cases h5 : b' < f
        · exfalso; omega
        · rw [if_neg h5, if_pos (by omega)]
      · left; rw [if_neg h1, if_neg h2]
  · rw [eM, eM, h.m]
    generalize pr4 X q 28 = n at *
    generalize pr4 Y q 28 = n' at *
    generalize pr4 X q 29 = f at *
    generalize pr4 Y q 29 = f' at *
    have k1 : (n - X 19) * 1000 * X 20 ≤ (n' - Y 19) * 1000 * X 20 := Int.mul_le_mul_of_nonneg_right (by omega) (by omega)
    have k2 : (f' + Y 19) * 1000 * X 20 ≤ (f + X 19) * 1000 * X 20 := Int.mul_le_mul_of_nonneg_right (by omega) (by omega)
    have k3 := Int.ediv_le_ediv (show (0 : Int) < 299792458 by omega) k1
    have k4 := Int.ediv_le_ediv (show (0 : Int) < 299792458 by omega) k2
    exact mn28_mono (by omega) (Int.le_refl _)
end Go.Proofs.Sky
