/-
  lemmas for the theorems of this claim. No conditions beyond those written in the statements.
-/
import Derived.Test.YtpmopobjlpfdaaaDoorSM40
import Derived.Test.YtpmopobjlpfdaaaDoorSQ40
set_option linter.unusedVariables false
set_option linter.unusedSimpArgs false
set_option linter.unnecessarySimpa false
namespace Go.Proofs.Sky
open Go Go.RowKit Go.Shelf
attribute [local go_sem] Oper.semAt_some
set_option maxHeartbeats 4000000
set_option maxRecDepth 8000
/-! chapter 40: stableCmpFunc -/
/-- the places from x to n are sorted in blocks of s -/
inductive Runs (s n : Nat) (l : List (Nat → Int)) : Nat → Prop
  | last {x : Nat} : n ≤ x + s → Srt x n l → Runs s n l x
  | more {x : Nat} : x + s ≤ n → Srt x (x + s) l → Runs s n l (x + s) → Runs s n l x
/-- the places up to x are sorted in whole blocks of s -/
inductive Pre (s : Nat) (l : List (Nat → Int)) : Nat → Prop
  | zero : Pre s l 0
  | step {x : Nat} : Pre s l x → Srt x (x + s) l → Pre s l (x + s)
theorem Srt.empty {x y : Nat} (l : List (Nat → Int)) (h : y ≤ x + 1) : Srt x y l := fun p q h1 h2 h3 => by omega
theorem Runs.keep {s n x a b : Nat} {l l' : List (Nat → Int)} (h : Runs s n l x) (hp : PI a b l l') (hb : b ≤ x) : Runs s n l' x := by
  induction h with
  | last h1 h2 => exact .last h1 (h2.keep hp (.inr hb))
  | more h1 h2 _ ih => exact .more h1 (h2.keep hp (.inr hb)) (ih (by omega))
theorem Pre.keep {s x a b : Nat} {l l' : List (Nat → Int)} (h : Pre s l x) (hp : PI a b l l') (hb : x ≤ a) : Pre s l' x := by
  induction h with
  | zero => exact .zero
  | step _ h2 ih => exact .step (ih (by omega)) (h2.keep hp (.inl hb))
theorem Pre.runs {s n x : Nat} {l : List (Nat → Int)} (h : Pre s l x) (hx : x ≤ n) (hr : Runs s n l x) : Runs s n l 0 := by
  induction h with
  | zero => exact hr
  | step _ h2 ih => exact ih (by omega) (.more hx h2 hr)
theorem Runs.done {s n : Nat} {l : List (Nat → Int)} (h : Runs s n l 0) (hs : n ≤ s) : Srt 0 n l := by
  cases h with
  | last _ h2 => exact h2
  | more h1 h2 _ => rw [show n = 0 + s by omega]; exact h2
theorem Runs.two {s n a : Nat} {l : List (Nat → Int)} (h : Runs s n l a) (hs : 0 < s) (hb : a + s + s ≤ n) : Srt a (a + s) l ∧ Srt (a + s) (a + s + s) l ∧ Runs s n l (a + s + s) := by
  cases h with
  | last h1 _ => omega
  | more _ h2 h3 =>
    cases h3 with
    | last h4 h5 => exact ⟨h2, by rw [show a + s + s = n by omega]; exact h5, .last (by omega) (Srt.empty _ (by omega))⟩
    | more _ h5 h6 => exact ⟨h2, h5, h6⟩
theorem Runs.tail {s n a : Nat} {l : List (Nat → Int)} (h : Runs s n l a) (hs : 0 < s) (hm : a + s < n) (hb : n < a + s + s) : Srt a (a + s) l ∧ Srt (a + s) n l := by
  cases h with
  | last h1 _ => omega
  | more _ h2 h3 =>
    cases h3 with
    | last h4 h5 => exact ⟨h2, h5⟩
    | more h4 _ _ => omega
theorem Runs.short {s n a : Nat} {l : List (Nat → Int)} (h : Runs s n l a) (hm : n ≤ a + s) : Srt a n l := by
  cases h with
  | last _ h2 => exact h2
  | more h1 h2 _ => rw [show n = a + s by omega]; exact h2
theorem stable_any (hs : List (Nat → Int)) (rest : List Value) (g c : Nat) (w : World) (hm : MemH w g hs rest) (hl : hs.length ≤ 1000) :
   Calls Tryd.prog 50 #[.slice (some ⟨g, 0, none⟩) hs.length c, .int .i64 hs.length, .func (.func 32) #[] #[]] w (SortP g 0 hs.length hs rest w) := by
  have HM0 := Lib.hid hm
  have hgl := hm.lt
  clear hm
  obtain ⟨n, hn⟩ : ∃ n, hs.length = n := ⟨_, rfl⟩
  have HN := Lib.hid hn
  rw [hn] at hl ⊢
  clear hn
  have SI := Lib.hid (fun (cur : List (Nat → Int)) (x y : Nat) (W : World) (h : cur.length = n) (h1 : MemH W g cur rest) (h2 : x ≤ y) (h3 : y ≤ n) => (show Calls Tryd.prog 58 #[.slice (some ⟨g, 0, none⟩) n c, .int .i64 (x : Int), .int .i64 (y : Int), .func (.func 32) #[] #[]] W (SortP g x y cur rest W) from by
    have h9 := insSortH_any cur rest g c x y W h1 (by omega) h2 (by omega)
    rwa [h] at h9))
  have SY := Lib.hid (fun (cur : List (Nat → Int)) (x y z : Nat) (W : World) (h : cur.length = n) (h1 : MemH W g cur rest) (h2 : x < y) (h3 : y < z) (h4 : z ≤ n) (h5 : Srt x y cur) (h6 : Srt y z cur) => (show Calls Tryd.prog 59 #[.slice (some ⟨g, 0, none⟩) n c, .int .i64 (x : Int), .int .i64 (y : Int), .int .i64 (z : Int), .func (.func 32) #[] #[]] W (SortP g x z cur rest W) from by
    have h9 := symMerge_any rest g c (z - x) cur x y z W (Nat.le_refl _) h1 (by omega) h2 h3 (by omega) h5 h6
    rwa [h] at h9))
  go_enter Tryd.func50, Tryd.ntmps50
  go_wp2
  go_loopg [7, 8] n (fun gg s7 s8 wr => ∃ (X Y : Nat) (cur : List (Nat → Int)), X ≤ n ∧ n - X ≤ gg ∧ s7 = .int .i64 (X : Int) ∧ s8 = .int .i64 (Y : Int) ∧ Hid (MemH wr g cur rest) ∧ Hid (Kx g w wr) ∧ Hid (Y = X + 20 ∧ PI 0 n hs cur ∧ Pre 20 cur X))
  case atStart => exact ⟨0, 20, hs, by omega, by omega, rfl, rfl, HM0, Lib.hid (Kx.of_bw (Bw.refl _) (Nat.le_of_lt hgl)), Lib.hid ⟨rfl, PI.refl _ _ _, .zero⟩⟩
  case round =>
    obtain ⟨X, Y, cur, hXn, hgg, rfl, rfl, HM, HK, HG⟩ := hrel
    obtain ⟨wi, rfl⟩ : ∃ wc, wc = wr := ⟨_, rfl⟩
    have hcl : Hid (cur.length = n) := Lib.hid (by rw [HG.out.2.1.len, HN.out])
    by_cases hlt : Y ≤ n
    · have hltz : (Y : Int) ≤ (n : Int) := by omega
      obtain ⟨Z, hZ⟩ : ∃ Z, Z = Y + 20 := ⟨_, rfl⟩
      have hwy : IntKind.i64.wrap ((Y : Int) + 20) = (Z : Int) := by rw [IntKind.wrap_i64]; omega
      have HZ := Lib.hid hZ
      clear hZ
      have SC := Lib.hid (SI.out cur X Y wi hcl.out HM.out (by have := HG.out.1; omega) hlt)
      go_wp2_with (go_at_call 58; refine SC.out.mono ?_; rintro e1 w1 ⟨⟨v1, rfl⟩, cur1, HM1, HK1, HP1, HS1⟩)
      go_roundg (n - Y)
      case measure => have := HG.out.1; omega
      case rel => exact ⟨Y, Z, cur1, hlt, Nat.le_refl _, rfl, rfl, Lib.hid HM1, Lib.hid (HK.out.trans HK1), Lib.hid ⟨HZ.out, HG.out.2.1.trans (HP1.mono (Nat.zero_le _) hlt), by
        have h9 := HG.out.1
        subst h9
        exact .step (HG.out.2.2.keep HP1 (Nat.le_refl _)) HS1⟩⟩
    · have hltz : ¬ (Y : Int) ≤ (n : Int) := by omega
      have SC := Lib.hid (SI.out cur X n wi hcl.out HM.out hXn (Nat.le_refl _))
      go_wp2_with (go_at_call 58; refine SC.out.mono ?_; rintro e1 w1 ⟨⟨v1, rfl⟩, cur1, HM1, HK1, HP1, HS1⟩)
      have HMa := Lib.hid HM1
      have HKa := Lib.hid (HK.out.trans HK1)
      have HRa := Lib.hid (show PI 0 n hs cur1 ∧ Runs 20 n cur1 0 from ⟨HG.out.2.1.trans (HP1.mono (Nat.zero_le _) (Nat.le_refl _)), (HG.out.2.2.keep HP1 (Nat.le_refl _)).runs hXn (.last (by have := HG.out.1; omega) HS1)⟩)
      clear HM1 HK1 HP1 HS1 SC HG HM HK hcl hltz
      go_loopg [6, 7, 8, 9] n (fun gg s6 _ _ _ wr => ∃ (s : Nat) (cur : List (Nat → Int)), 0 < s ∧ s ≤ 2000 ∧ n - s ≤ gg ∧ s6 = .int .i64 (s : Int) ∧ Hid (MemH wr g cur rest) ∧ Hid (Kx g w wr) ∧ Hid (PI 0 n hs cur ∧ Runs s n cur 0))
      case atStart => exact ⟨20, cur1, by omega, by omega, by omega, rfl, HMa, HKa, HRa⟩
      case round =>
        obtain ⟨s, cur2, hs0, hs2, hg2, rfl, HM, HK, HG⟩ := hrel
        obtain ⟨wi, rfl⟩ : ∃ wc, wc = wr := ⟨_, rfl⟩
        by_cases hsn : s < n
        · have hsnz : (s : Int) < (n : Int) := by omega
          obtain ⟨S, hS⟩ : ∃ S, S = s + s := ⟨_, rfl⟩
          have hw1 : IntKind.i64.wrap (2 * (s : Int)) = (S : Int) := by rw [IntKind.wrap_i64]; omega
          have hw2 : IntKind.i64.wrap ((s : Int) * 2) = (S : Int) := by rw [IntKind.wrap_i64]; omega
          have hS2 : S ≤ 2000 := by omega
          have HS := Lib.hid hS
          clear hS
          go_wp2
          go_loopg [7, 8] n (fun gg s7 s8 wr => ∃ (X Y : Nat) (cur : List (Nat → Int)), X ≤ n ∧ Y ≤ 3000 ∧ n - X ≤ gg ∧ s7 = .int .i64 (X : Int) ∧ s8 = .int .i64 (Y : Int) ∧ Hid (MemH wr g cur rest) ∧ Hid (Kx g w wr) ∧ Hid (Y = X + S ∧ PI 0 n hs cur ∧ Pre S cur X ∧ Runs s n cur X))
          case atStart => exact ⟨0, S, cur2, by omega, by omega, by omega, rfl, rfl, HM, HK, Lib.hid ⟨by omega, HG.out.1, .zero, HG.out.2⟩⟩
          case round =>
            clear HM HK HG
            obtain ⟨X, Y, cur, hXn, hY3, hg3, rfl, rfl, HM, HK, HG⟩ := hrel
            obtain ⟨wj, rfl⟩ : ∃ wc, wc = wr := ⟨_, rfl⟩
            have hcl : Hid (cur.length = n) := Lib.hid (by rw [HG.out.2.1.len, HN.out])
            obtain ⟨M, hM⟩ : ∃ M, M = X + s := ⟨_, rfl⟩
            have hwm : IntKind.i64.wrap ((X : Int) + (s : Int)) = (M : Int) := by rw [IntKind.wrap_i64]; omega
            have HMD := Lib.hid hM
            clear hM
            by_cases hlt2 : Y ≤ n
            · have hltz : (Y : Int) ≤ (n : Int) := by omega
              obtain ⟨Z, hZ⟩ : ∃ Z, Z = Y + S := ⟨_, rfl⟩
              have hwy : IntKind.i64.wrap ((Y : Int) + (S : Int)) = (Z : Int) := by rw [IntKind.wrap_i64]; omega
              have HZ := Lib.hid hZ
              have hZ3 : Z ≤ 3000 := by omega
              clear hZ
              have HT := Lib.hid (show Srt X M cur ∧ Srt M Y cur ∧ Runs s n cur Y from by
                have h9 := HG.out.2.2.2.two hs0 (by have := HG.out.1; have := HS.out; omega)
                rw [← HMD.out, show M + s = Y by have := HG.out.1; have := HS.out; have := HMD.out; omega] at h9
                exact h9)
              have SC := Lib.hid (SY.out cur X M Y wj hcl.out HM.out (by have := HMD.out; omega) (by have := HMD.out; have := HG.out.1; have := HS.out; omega) hlt2 HT.out.1 HT.out.2.1)
              go_wp2_with (go_at_call 59; refine SC.out.mono ?_; rintro e1 w1 ⟨⟨v1, rfl⟩, cur1, HM1, HK1, HP1, HS1⟩)
              go_roundg (n - Y)
              case measure => have := HG.out.1; have := HS.out; omega
              case rel => exact ⟨Y, Z, cur1, hlt2, hZ3, Nat.le_refl _, rfl, rfl, Lib.hid HM1, Lib.hid (HK.out.trans HK1), Lib.hid ⟨HZ.out, HG.out.2.1.trans (HP1.mono (Nat.zero_le _) hlt2), by
                have h9 := HG.out.1
                subst h9
                exact .step (HG.out.2.2.1.keep HP1 (Nat.le_refl _)) HS1, HT.out.2.2.keep HP1 (Nat.le_refl _)⟩⟩
            · have hltz : ¬ (Y : Int) ≤ (n : Int) := by omega
              by_cases hmn : M < n
              · have hmnz : (M : Int) < (n : Int) := by omega
                have HT := Lib.hid (show Srt X M cur ∧ Srt M n cur from by
                  have h9 := HG.out.2.2.2.tail hs0 (by have := HMD.out; omega) (by have := HG.out.1; have := HS.out; omega)
                  rw [← HMD.out] at h9
                  exact h9)
                have SC := Lib.hid (SY.out cur X M n wj hcl.out HM.out (by have := HMD.out; omega) hmn (Nat.le_refl _) HT.out.1 HT.out.2)
                go_wp2_with (go_at_call 59; refine SC.out.mono ?_; rintro e1 w1 ⟨⟨v1, rfl⟩, cur1, HM1, HK1, HP1, HS1⟩)
                go_roundg (n - S)
                case measure => have := HS.out; omega
                case rel => exact ⟨S, cur1, by have := HS.out; omega, hS2, Nat.le_refl _, rfl, Lib.hid HM1, Lib.hid (HK.out.trans HK1), Lib.hid ⟨HG.out.2.1.trans (HP1.mono (Nat.zero_le _) (Nat.le_refl _)), (HG.out.2.2.1.keep HP1 (Nat.le_refl _)).runs hXn (.last (by have := HG.out.1; omega) HS1)⟩⟩
              · have hmnz : ¬ (M : Int) < (n : Int) := by omega
                have HT := Lib.hid (show Srt X n cur from HG.out.2.2.2.short (by have := HMD.out; omega))
                go_wp2
                go_roundg (n - S)
                case measure => have := HS.out; omega
                case rel => exact ⟨S, cur, by have := HS.out; omega, hS2, Nat.le_refl _, rfl, HM, HK, Lib.hid ⟨HG.out.2.1, HG.out.2.2.1.runs hXn (.last (by have := HG.out.1; omega) HT.out)⟩⟩
        · have hsnz : ¬ (s : Int) < (n : Int) := by omega
          have HD := Lib.hid (HG.out.2.done (by omega))
          go_wp2
          go_end0
          exact ⟨⟨_, rfl⟩, cur2, HM.out, HK.out, HG.out.1, HD.out⟩
theorem sort_any (hs : List (Nat → Int)) (rest : List Value) (g c : Nat) (w : World) (hm : MemH w g hs rest) (hl : hs.length ≤ 1000) :
   Calls Tryd.prog 31 #[.slice (some ⟨g, 0, none⟩) hs.length c, .func (.func 32) #[] #[]] w (SortP g 0 hs.length hs rest w) := by
  have SI := Lib.hid (stable_any hs rest g c w hm hl)
  clear hm
  generalize hs.length = N at *
  go_enter Tryd.func31, Tryd.ntmps31
  go_wp2_with (go_at_call 50; refine SI.out.mono ?_; rintro e1 w1 ⟨⟨v1, rfl⟩, cur1, HM1, HK1, HP1, HS1⟩)
  go_end0
  exact ⟨⟨_, rfl⟩, cur1, HM1, HK1, HP1, HS1⟩
end Go.Proofs.Sky

namespace Go.Proofs.Sky
open Go Go.RowKit Go.Shelf
attribute [local go_sem] Oper.semAt_some
set_option maxHeartbeats 4000000
set_option maxRecDepth 8000
/-! chapter 40: Order on no hints; on at most 1000 -/
theorem delEmpty (v : Value) (w : World) (hv : RdH w v []) : Calls Tryd.prog 28 #[v, .func (.func 30) #[] #[]] w fun e w' => e = .returned v ∧ Bw w w' := by
  have IX := Lib.hid (indexFuncH_any (fun x => decide (x 1 = -1)) 30 (enters_of Tryd.func30 (by kernel_rfl) rfl) [] v w (fun x W => dropB_any x W) hv)
  rw [show ixH (fun x => decide (x 1 = -1)) [] = -1 from rfl] at IX
  obtain ⟨a, c, rfl⟩ := hv.form
  clear hv
  simp only [List.length_nil] at IX ⊢
  go_enter Tryd.func28, Tryd.ntmps28
  go_wp2_with (go_at_call 49; refine IX.out.mono ?_; rintro e1 w1 ⟨rfl, hb1⟩)
  go_ret
  exact ⟨rfl, hb1⟩
theorem insEmpty (a : Option Addr) (c : Nat) (fv : Value) (w : World) : Calls Tryd.prog 58 #[.slice a 0 c, .int .i64 0, .int .i64 0, fv] w fun e w' => (∃ v, e = .returned v) ∧ w' = w := by
  go_enter Tryd.func58, Tryd.ntmps58
  go_wp2
  go_loopg [8] 1 (fun gg s8 wr => s8 = .int .i64 1 ∧ wr = w)
  case atStart => exact ⟨by go_num, rfl⟩
  case round =>
    obtain ⟨rfl, rfl⟩ := hrel
    go_wp2
    go_end0
    exact ⟨⟨_, rfl⟩, rfl⟩
theorem stableEmpty (a : Option Addr) (c : Nat) (fv : Value) (w : World) : Calls Tryd.prog 50 #[.slice a 0 c, .int .i64 0, fv] w fun e w' => (∃ v, e = .returned v) ∧ w' = w := by
  have SI := Lib.hid (insEmpty a c fv w)
  go_enter Tryd.func50, Tryd.ntmps50
  go_wp2
  go_loopg [7, 8] 1 (fun gg s7 s8 wr => s7 = .int .i64 0 ∧ s8 = .int .i64 20 ∧ wr = w)
  case atStart => exact ⟨rfl, rfl, rfl⟩
  case round =>
    obtain ⟨rfl, rfl, rfl⟩ := hrel
    go_wp2_with (go_at_call 58; refine SI.out.mono ?_; rintro e1 w1 ⟨⟨v1, rfl⟩, rfl⟩)
    go_loopg [6, 7, 8, 9] 1 (fun gg s6 s7 s8 s9 wq => s6 = .int .i64 20 ∧ wq = w1)
    case atStart => exact ⟨rfl, rfl⟩
    case round =>
      obtain ⟨rfl, rfl⟩ := hrel
      go_wp2
      go_end0
      exact ⟨⟨_, rfl⟩, rfl⟩
theorem sortEmpty (a : Option Addr) (c : Nat) (fv : Value) (w : World) : Calls Tryd.prog 31 #[.slice a 0 c, fv] w fun e w' => (∃ v, e = .returned v) ∧ w' = w := by
  have SI := Lib.hid (stableEmpty a c fv w)
  go_enter Tryd.func31, Tryd.ntmps31
  go_wp2_with (go_at_call 50; refine SI.out.mono ?_; rintro e1 w1 ⟨⟨v1, rfl⟩, rfl⟩)
  go_end0
  exact ⟨⟨_, rfl⟩, rfl⟩
theorem order_empty (v : Value) (w : World) (hv : RdH w v []) : Calls Tryd.prog 10 #[v] w fun e w' => OrdQ w.heap.size [] e w' ∧ Bw w w' := by
  have CL := Lib.hid (cloneHn_any [] (by decide) v w hv)
  obtain ⟨a, c, rfl⟩ := hv.form
  clear hv
  simp only [List.length_nil] at CL ⊢
  go_enter Tryd.func10, Tryd.ntmps10
  go_wp2_with (first | (go_at_call 29; refine CL.out.mono ?_; rintro e1 w1 ⟨⟨v1, rfl, ho1⟩, hb1⟩; obtain ⟨a2, c2, rfl⟩ := (own_rdH ho1 (by decide)).1.form; have DL := Lib.hid (delEmpty _ w1 (own_rdH ho1 (by decide)).1); have SO := Lib.hid (fun W => sortEmpty a2 c2 (.func (.func 32) #[] #[]) W); simp only [List.length_nil] at DL ⊢) | (go_at_call 28; refine DL.out.mono ?_; rintro e2 w2 ⟨rfl, hb2⟩) | (go_at_call 31; refine (SO.out _).mono ?_; rintro e3 w3 ⟨⟨v3, rfl⟩, rfl⟩))
  have HW := Lib.hid (hb1.trans hb2)
  clear CL ho1 DL SO hb1 hb2
  go_loopg [4, 14] 1 (fun gg s4 s14 wr => s4 = .slice none 0 0 ∧ s14 = .int .i64 0 ∧ wr = w3)
  case atStart => exact ⟨rfl, rfl, rfl⟩
  case round =>
    obtain ⟨rfl, rfl, rfl⟩ := hrel
    go_wp2
    go_ret
    exact ⟨⟨_, rfl, RdI.nil _, Fresh.nil _ _ _⟩, HW.out⟩
/-- warm.Order on at most 1000 hints -/
theorem order_all (hs : List (Nat → Int)) (v : Value) (w : World) (hv : RdH w v hs) (hl : hs.length ≤ 1000) : Calls Tryd.prog 10 #[v] w fun e w' => OrdQ w.heap.size hs e w' ∧ Bw w w' := by
  by_cases h0 : 0 < hs.length
  · exact order_any hs v w hv h0 hl (fun cur rest g c W hm hle => sort_any cur rest g c W hm (by omega))
  · obtain rfl : hs = [] := List.length_eq_zero_iff.1 (by omega)
    exact order_empty v w hv
end Go.Proofs.Sky
