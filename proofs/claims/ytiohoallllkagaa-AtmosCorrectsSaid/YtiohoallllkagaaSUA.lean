/-
  lemmas for the theorems of this claim. No conditions beyond those written in the statements.
-/
import Derived.Test.YtiohoallllkagaaProg
import Derived.Test.YtiohoallllkagaaRdAt
import Derived.Test.YtiohoallllkagaaAppP
import Derived.Test.YtiohoallllkagaaHeld
import Derived.Test.YtiohoallllkagaaPSum
import Derived.Deep.Cut
set_option linter.unusedVariables false
set_option linter.unusedSimpArgs false
set_option linter.unnecessarySimpa false
namespace Go.Proofs.Sky
open Go Go.RowKit Go.Shelf
set_option maxHeartbeats 2000000
set_option maxRecDepth 4000
/-! the kit's sums of products: numbers in digits of 24 bits -/
theorem infoIntS : (Try.prog.info? 3).map (fun i => (i.zero, i.size, i.bytes)) = some (some (.int .i64 0), 1, 8) := by kernel_rfl
theorem bw_grownS {a b c : World} {e : TypeId} {k : Nat} {v : Value} {m n : Nat} {xs : List Value} (hn : a.heap.size = n) (h : Bw a b) (ho : b.ownsRow n e k v m xs) (hg : b.grownBy c v.ownBlock) : Bw a c := by
  subst hn; exact h.grown ho hg
theorem and24 (n : Int) : bits .and .i64 n 16777215 = n % 16777216 := by
  have h1 : (BitVec.ofInt 64 16777215).toNat = 2 ^ 24 - 1 := by decide
  have key : (BitVec.ofInt 64 n &&& BitVec.ofInt 64 16777215).toNat = (n % ((2 ^ 64 : Nat) : Int)).toNat % 2 ^ 24 := by
    rw [BitVec.toNat_and, BitVec.toNat_ofInt, h1, Nat.and_two_pow_sub_one_eq_mod]
  show IntKind.i64.wrap ((BitVec.ofInt 64 n &&& BitVec.ofInt 64 16777215).toNat : Nat) = n % 16777216
  rw [key, IntKind.wrap_i64]
  omega
/-- a number in digits: the value of a slice -/
def Wd (w : World) (base : Nat) (v : Value) (N : Int) : Prop := ∃ ds, RdI w v ds ∧ Fresh base v ∧ Dg (dg ds) ∧ Tr ds ∧ dv ds = N
theorem Wd.mono {w w' : World} {base : Nat} {v : Value} {N : Int} (h : Wd w base v N) (hb : Bw w w') : Wd w' base v N := by
  obtain ⟨ds, h1, h2⟩ := h; exact ⟨ds, h1.mono hb, h2⟩
theorem Wd.down {w : World} {base base' : Nat} {v : Value} {N : Int} (h : Wd w base v N) (hb : base' ≤ base) : Wd w base' v N := by
  obtain ⟨ds, h1, h2, h3⟩ := h; exact ⟨ds, h1, h2.mono hb, h3⟩
theorem Wd.zero (w : World) (base : Nat) : Wd w base (.slice none 0 0) 0 := ⟨[], RdI.nil _, Fresh.nil _ _ _, fun i => by simp [dg], .inl rfl, rfl⟩
theorem Wd.pos {w : World} {base : Nat} {v : Value} {N : Int} (h : Wd w base v N) : 0 ≤ N := by
  obtain ⟨ds, _, _, h3, _, rfl⟩ := h; exact (pv_bd h3 _).1
def NumP31 (base : Nat) (N : Int) (e : Ending) (w' : World) : Prop := ∃ v', e = .returned v' ∧ Wd w' base v' N
theorem rdI_take {w : World} {a : Option Addr} {n c : Nat} {zs : List Int} (h : RdI w (.slice a n c) zs) (k : Nat) (hk : k ≤ n) : RdI w (.slice a k c) (zs.take k) := by
  obtain ⟨h2, a', cap, he, h4⟩ := h
  injection he with e1 e2 e3
  subst e1 e2 e3
  have hl : (zs.take k).length = k := by rw [List.length_take]; omega
  refine ⟨by omega, _, _, by rw [hl], ?_⟩
  rcases h4 with h4 | ⟨b, off, hb, h6, h7⟩
  · left; rw [h4]; simp
  · right
    refine ⟨b, off, hb, h6, fun i hi => ?_⟩
    rw [hl] at hi
    have e : (zs.take k).getD i 0 = zs.getD i 0 := by rw [List.getD_eq_getElem?_getD, List.getElem?_take, if_pos hi, List.getD_eq_getElem?_getD]
    rw [e]
    exact h7 i (by omega)
theorem fresh_len {base : Nat} {a : Option Addr} {n c : Nat} (h : Fresh base (.slice a n c)) (k c' : Nat) : Fresh base (.slice a k c') := by
  intro b e
  cases a with
  | none => simp [Value.ownBlock] at e
  | some p => exact h b (by simpa [Value.ownBlock] using e)
theorem dg_take (ds : List Int) (k i : Nat) (h : i < k) : dg (ds.take k) i = dg ds i := by
  unfold dg
  rw [List.getD_eq_getElem?_getD, List.getElem?_take, if_pos h, List.getD_eq_getElem?_getD]
theorem Dg.take {ds : List Int} (h : Dg (dg ds)) (k : Nat) : Dg (dg (ds.take k)) := by
  intro i
  rcases Nat.lt_or_ge i k with h1 | h1
  · rw [dg_take ds k i h1]; exact h i
  · rw [dg_out _ _ (by rw [List.length_take]; omega)]; omega
theorem own_caps {w : World} {base : Nat} {e : TypeId} {k : Nat} {v : Value} {n : Nat} {xs : List Value} (h : w.ownsRow base e k v n xs) : ∀ a m c, v = .slice a m c → m ≤ c ∧ c ≤ 9223372036854775807 := by
  intro a m c hv
  rcases h.2 with ⟨rfl, rfl⟩ | ⟨g, cap, cur, rfl, _, _, hnc, hcm, _⟩
  · injection hv with h1 h2 h3; omega
  · injection hv with h1 h2 h3; subst h2 h3; exact ⟨hnc, by unfold maxLen at hcm; omega⟩
theorem trim_any (ds : List Int) (a : Option Addr) (c base : Nat) (w : World) (hv : RdI w (.slice a ds.length c) ds) (hc : ds.length ≤ c ∧ c ≤ 9223372036854775807) (hf : Fresh base (.slice a ds.length c)) (hd : Dg (dg ds)) (N : Int) (hN : dv ds = N) :
    Calls Try.prog 66 #[.slice a ds.length c] w fun e w' => NumP31 base N e w' ∧ Bw w w' := by
  have HV := Lib.hid hv
  have HF := Lib.hid hf
  have HD := Lib.hid hd
  have HN := Lib.hid hN
  have hle := hv.1
  clear hv hf hd hN
  obtain ⟨n, hn⟩ : ∃ n, n = ds.length := ⟨_, rfl⟩
  rw [← hn] at HV HF hc hle ⊢
  have HL := Lib.hid hn
  clear hn
  go_enter Try.func66, Try.ntmps66
  go_wp2
  go_loopg [0] n (fun gg s0 wr => ∃ k : Nat, k ≤ n ∧ k ≤ gg ∧ s0 = .slice a k c ∧ wr = w ∧ Hid (∀ i, k ≤ i → dg ds i = 0))
  case atStart => exact ⟨n, Nat.le_refl _, Nat.le_refl _, rfl, rfl, Lib.hid (fun i h => dg_out ds i (by have := HL.out; omega))⟩
  case round =>
    obtain ⟨k, hk, hgg, rfl, hwr, HI⟩ := hrel
    replace hwr := hwr.symm
    subst hwr
    have HG : Hid (k = 0 ∨ dg ds (k - 1) ≠ 0 → NumP31 base N (.returned (.slice a k c)) w) := Lib.hid (fun hk0 => by
      refine ⟨_, rfl, ds.take k, rdI_take HV.out k hk, fresh_len HF.out k c, HD.out.take k, ?_, ?_⟩
      · have hl : (ds.take k).length = k := by rw [List.length_take]; have := HL.out; omega
        rcases hk0 with h | h
        · left; omega
        · right; rw [hl]
          rcases Nat.eq_zero_or_pos k with h0 | h0
          · subst h0; exact absurd (HI.out _ (Nat.zero_le _)) h
          · rw [dg_take ds k (k - 1) (by omega)]; exact h
      · have hl : (ds.take k).length = k := by rw [List.length_take]; have := HL.out; omega
        rw [← HN.out]
        unfold dv
        rw [hl, pv_congr k (fun i hi => dg_take ds k i hi)]
        exact (pv_zero k ds.length (by have := HL.out; omega) (fun i h1 _ => HI.out i h1)).symm)
    rcases Nat.eq_zero_or_pos k with h0 | h0
    · subst h0
      replace HG := Lib.hid (HG.out (.inl rfl))
      go_wp2
      go_ret
      exact ⟨HG.out, Bw.refl _⟩
    · obtain ⟨b1, o1, cc, hv1, hb1, hd1⟩ := HV.out.at (by have := HL.out; omega)
      injection hv1 with i1 i2 i3; subst i1; clear i2 i3 hb1
      obtain ⟨m, rfl⟩ : ∃ m, k = m + 1 := ⟨k - 1, by omega⟩
      have d1 := hd1 m (by have := HL.out; omega)
      have hkz : (0 : Int) < ((m + 1 : Nat) : Int) := by omega
      have hkm : ((m + 1 : Nat) : Int) - 1 = (m : Int) := by omega
      have hdm : dg ds m = ds.getD m 0 := rfl
      rw [Nat.add_sub_cancel, hdm] at HG
      have HI2 := Lib.hid (show ds.getD m 0 = 0 → ∀ i, m ≤ i → dg ds i = 0 from fun h i hi => by
        rcases Nat.lt_or_ge m i with h1 | h1
        · exact HI.out i (by omega)
        · obtain rfl : i = m := by omega
          exact h)
      have hmc : m ≤ c := by omega
      clear hd1 hdm h0
      generalize ds.getD m 0 = z at d1 HG HI2
      by_cases hz : z = 0
      · subst hz
        have HI3 := Lib.hid (HI2.out rfl)
        clear HG HI2
        go_wp2
        go_roundg m
        case measure => omega
        case rel => exact ⟨m, by omega, by omega, by go_num, rfl, HI3⟩
      · have HG3 := Lib.hid (HG.out (.inr hz))
        have hzb : (z == 0) = false := by simpa using hz
        clear HG HI2 hz
        go_wp2
        go_ret
        exact ⟨HG3.out, Bw.refl _⟩
theorem dg_snoc (os : List Int) (x : Int) (i : Nat) : dg (os ++ [x]) i = if i = os.length then x else dg os i := by
  unfold dg
  rw [List.getD_eq_getElem?_getD, List.getD_eq_getElem?_getD]
  by_cases h : i < os.length
  · rw [List.getElem?_append_left h, if_neg (by omega)]
  · rw [List.getElem?_append_right (by omega)]
    by_cases h2 : i = os.length
    · rw [if_pos h2, h2]; simp
    · rw [if_neg h2, List.getElem?_eq_none (by simp; omega), List.getElem?_eq_none (by omega)]
theorem Dg.snoc {os : List Int} (h : Dg (dg os)) {x : Int} (h0 : 0 ≤ x) (h1 : x < 16777216) : Dg (dg (os ++ [x])) := by
  intro i
  rw [dg_snoc]
  split
  · omega
  · exact h i
theorem pv_snoc (os : List Int) (x : Int) (k : Nat) (h : os.length = k) : pv (dg (os ++ [x])) k = pv (dg os) k ∧ dg (os ++ [x]) k = x :=
  ⟨pv_congr k (fun i hi => by rw [dg_snoc, if_neg (by omega)]), by rw [dg_snoc, if_pos h.symm]⟩
theorem wideOf_any (n : Int) (w : World) (h0 : 0 ≤ n) (h1 : n ≤ 9223372036854775807) : Calls Try.prog 50 #[.int .i64 n] w fun e w' => NumP31 w.heap.size n e w' ∧ Bw w w' := by
  obtain ⟨BB, hBB⟩ : ∃ BB, w.heap.size = BB := ⟨_, rfl⟩
  have HB := Lib.hid hBB
  rw [hBB]
  clear hBB
  go_enter Try.func50, Try.ntmps50
  go_wp2
  go_loopg [0, 3] n.toNat (fun gg s0 s3 wr => ∃ (m : Int) (os : List Int), s0 = .int .i64 m ∧ 0 ≤ m ∧ m ≤ n ∧ m.toNat ≤ gg ∧ os.length ≤ 30 ∧ Hid (Dg (dg os)) ∧ Hid (m = 0 → Tr os) ∧ Hid (pv (dg os) os.length + m * 16777216 ^ os.length = n) ∧ Hid (Bw w wr) ∧ Hid (wr.ownsRow BB 3 1 s3 os.length (os.map (Value.int .i64))))
  case atStart => exact ⟨n, [], rfl, h0, Int.le_refl _, Nat.le_refl _, by simp, Lib.hid (fun i => by simp [dg]), Lib.hid (fun _ => .inl rfl), Lib.hid (by simp [pv]), Lib.hid (Bw.refl _), Lib.hid (World.ownsRow_nil _ _ _ _)⟩
  case round =>
    obtain ⟨m, os, rfl, hm0, hmn, hgg, hl, HD, HT, HP, HW, O1⟩ := hrel
    by_cases hm : 0 < m
    · have hl30 : os.length + 1 ≤ 30 := by
        have h2 := HP.out
        have h3 := (pv_bd HD.out os.length).1
        have h4 := pw24_pos os.length
        have h5 : 1 * (16777216 : Int) ^ os.length ≤ m * 16777216 ^ os.length := Int.mul_le_mul_of_nonneg_right (by omega) (by omega)
        rcases Nat.lt_or_ge os.length 29 with h | h
        · omega
        · have h6 := pw24_le h
          have h7 : (9223372036854775807 : Int) < 16777216 ^ 29 := by decide
          omega
      have hA := and24 m
      have HD2 := Lib.hid (HD.out.snoc (x := m % 16777216) (by omega) (by omega))
      obtain ⟨e1, e2⟩ := pv_snoc os (m % 16777216) os.length rfl
      have HP2 := Lib.hid (show pv (dg (os ++ [m % 16777216])) (os ++ [m % 16777216]).length + m / 16777216 * 16777216 ^ (os ++ [m % 16777216]).length = n by
        have h9 := carry_step (f := dg (os ++ [m % 16777216])) os.length m n n 0 (by rw [e1]; exact HP.out) (by rw [e2, Int.add_zero]) (by omega)
        rw [Int.add_zero] at h9
        simpa using h9)
      have HT2 := Lib.hid (show m / 16777216 = 0 → Tr (os ++ [m % 16777216]) from fun h => by
        right
        have hll : (os ++ [m % 16777216]).length - 1 = os.length := by simp
        rw [hll, e2]; omega)
      clear e1 e2
      go_wp2_with (at_builtin; have hba := Bw.alloc (Bw.refl wr) (.cells #[.int .i64 (m % 16777216)] 3); replace O1 := Lib.hid (own_bw O1.out hba); replace HW := Lib.hid (HW.out.trans hba); clear hba; refine wpList_append_int1 rfl (.tmp 8) (.tmp 11) _ rfl BB 3 Try.underlying57 infoIntS _ os (m % 16777216) rfl O1.out _ rfl (by simp [go_sem]) (by omega) (by have := HW.out.size; have := HB.out; simp only [World.size_alloc] at *; omega) ?_; intro v8 w8 hown hgr; replace HW := Lib.hid (bw_grownS HB.out HW.out O1.out hgr); replace O1 := Lib.hid hown; clear hown hgr)
      go_roundg (m / 16777216).toNat
      case measure => omega
      case rel => exact ⟨m / 16777216, os ++ [m % 16777216], by go_num, by omega, by omega, by omega, by simp; omega, HD2, HT2, HP2, HW, O1⟩
    · obtain rfl : m = 0 := by omega
      have HR := Lib.hid (own_rd O1.out (by omega))
      have HG : Hid (∀ v, RdI wr v os ∧ Fresh BB v → NumP31 BB n (.returned v) wr) := Lib.hid (fun v h => ⟨v, rfl, os, h.1, h.2, HD.out, HT.out rfl, by have := HP.out; unfold dv; omega⟩)
      have HG2 := Lib.hid (HG.out _ HR.out)
      clear HG HR
      go_wp2
      go_ret
      exact ⟨HG2.out, HW.out⟩
end Go.Proofs.Sky
