/-
  lemmas for the theorems of this claim. No conditions beyond those written in the statements.
-/
set_option linter.unusedVariables false
set_option linter.unusedSimpArgs false
set_option linter.unnecessarySimpa false
namespace Go.Proofs.Sky
/-! chapter 21, plain -/
def insP (a : Int × Int) : Bool := decide (-1048576 ≤ a.1 ∧ a.1 ≤ 1048576 ∧ -1048576 ≤ a.2 ∧ a.2 ≤ 1048576)
theorem insP_iff (a : Int × Int) : insP a = true ↔ (-1048576 ≤ a.1 ∧ a.1 ≤ 1048576 ∧ -1048576 ≤ a.2 ∧ a.2 ≤ 1048576) := by unfold insP; simp
def scl (a b : Int × Int) : Int := a.1 * b.1 + a.2 * b.2
def okLeft : Int → List Int → Bool
  | _, [] => true
  | left, n :: r => decide (0 ≤ n ∧ n ≤ left) && okLeft (left - n) r
def sumL : List Int → Int
  | [] => 0
  | n :: r => n + sumL r
def errS (ch : List Int) (seen : Int) (la : Int × Int) : Int :=
  if ch.length < 1 ∨ 20 < ch.length ∨ seen < 0 ∨ 1000000 < seen ∨ insP la = false then 2 else if okLeft seen ch = false then 3 else if seen = 0 ∧ la ≠ (0, 0) then 3 else 0
def addE (seen : Int) (a : Int × Int) : Int := if seen = 1000000 then 12 else if insP a then 0 else 2
def chN (ch : List Int) (seen : Int) (la a : Int × Int) : List Int := if 0 < seen ∧ scl la a < 0 then ch.set (seen.toNat % ch.length) (ch.getD (seen.toNat % ch.length) 0 + 1) else ch
def feedL : List Int → Int → Int × Int → List (Int × Int) → (List Int × Int × (Int × Int)) × Int
  | ch, seen, la, [] => ((ch, seen, la), 0)
  | ch, seen, la, a :: r => if addE seen a = 0 then feedL (chN ch seen la a) (seen + 1) a r else (([], 0, (0, 0)), addE seen a)
def feedR (ch : List Int) (seen : Int) (la : Int × Int) (l : List (Int × Int)) : (List Int × Int × (Int × Int)) × Int :=
  if errS ch seen la ≠ 0 then (([], 0, (0, 0)), errS ch seen la) else if 10000 < l.length then (([], 0, (0, 0)), 4) else feedL ch seen la l
theorem chN_len (ch : List Int) (seen : Int) (la a : Int × Int) : (chN ch seen la a).length = ch.length := by unfold chN; split <;> simp
theorem okLeft_iff (ch : List Int) : ∀ left : Int, 0 ≤ left → (okLeft left ch = true ↔ (∀ n ∈ ch, 0 ≤ n) ∧ sumL ch ≤ left) := by
  induction ch with
  | nil => intro left h; simp [okLeft, sumL]; exact h
  | cons n r ih =>
    intro left h
    simp only [okLeft, Bool.and_eq_true, decide_eq_true_iff, List.mem_cons, sumL]
    constructor
    · rintro ⟨⟨h1, h2⟩, h3⟩
      obtain ⟨h4, h5⟩ := (ih _ (by omega)).1 h3
      exact ⟨fun m hm => hm.elim (fun e => e ▸ h1) (h4 m), by omega⟩
    · rintro ⟨h1, h2⟩
      have h0 := h1 n (.inl rfl)
      have hr : ∀ m ∈ r, 0 ≤ m := fun m hm => h1 m (.inr hm)
      have hs : 0 ≤ sumL r := by
        clear ih h1 h2
        induction r with
        | nil => simp [sumL]
        | cons a r ih => have := hr a (by simp); have := ih (fun m hm => hr m (by simp [hm])); simp [sumL]; omega
      exact ⟨⟨h0, by omega⟩, (ih _ (by omega)).2 ⟨hr, by omega⟩⟩
theorem sumL_set (ch : List Int) : ∀ i, i < ch.length → sumL (ch.set i (ch.getD i 0 + 1)) = sumL ch + 1 := by
  induction ch with
  | nil => intro i h; simp at h
  | cons n r ih =>
    intro i h
    cases i with
    | zero => simp [sumL]; omega
    | succ i =>
      have := ih i (by simpa using h)
      simp only [List.set_cons_succ, sumL, List.getD_cons_succ]
      omega
/-- what a step keeps -/
theorem errS_step {ch : List Int} {seen : Int} {la a : Int × Int} (h : errS ch seen la = 0) (ha : addE seen a = 0) : errS (chN ch seen la a) (seen + 1) a = 0 := by
  unfold errS at h
  split at h
  · simp at h
  · rename_i h1
    split at h
    · simp at h
    · rename_i h2
      split at h
      · simp at h
      · unfold addE at ha
        split at ha
        · simp at ha
        · split at ha
          · rename_i h4 h5
            have h6 : ¬ (ch.length < 1) ∧ ¬ (20 < ch.length) ∧ ¬ (seen < 0) ∧ ¬ (1000000 < seen) := by
              refine ⟨fun e => h1 (.inl e), fun e => h1 (.inr (.inl e)), fun e => h1 (.inr (.inr (.inl e))), fun e => h1 (.inr (.inr (.inr (.inl e))))⟩
            have hok : okLeft seen ch = true := by simpa using h2
            obtain ⟨g1, g2⟩ := (okLeft_iff ch seen (by omega)).1 hok
            have hok2 : okLeft (seen + 1) (chN ch seen la a) = true := by
              rw [okLeft_iff _ _ (by omega)]
              unfold chN
              split
              · have hlt : seen.toNat % ch.length < ch.length := Nat.mod_lt _ (by omega)
                refine ⟨fun m hm => ?_, by rw [sumL_set _ _ hlt]; omega⟩
                rcases List.mem_or_eq_of_mem_set hm with hm | rfl
                · exact g1 m hm
                · have := g1 (ch.getD (seen.toNat % ch.length) 0) (by rw [List.getD_eq_getElem?_getD, List.getElem?_eq_getElem hlt]; exact List.getElem_mem hlt)
                  omega
              · exact ⟨g1, by omega⟩
            unfold errS
            rw [if_neg, if_neg (by rw [hok2]; simp), if_neg (by intro e; omega)]
            rw [chN_len]
            rintro (e | e | e | e | e)
            · omega
            · omega
            · omega
            · omega
            · rw [h5] at e; simp at e
          · simp at ha
def sumP : List (Int × Int) → Int × Int
  | [] => (0, 0)
  | a :: r => (a.1 + (sumP r).1, a.2 + (sumP r).2)
theorem sumP_snoc (l : List (Int × Int)) (a : Int × Int) : sumP (l ++ [a]) = ((sumP l).1 + a.1, (sumP l).2 + a.2) := by
  induction l with
  | nil => simp [sumP]
  | cons b l ih => simp only [List.cons_append, sumP, ih]; ext <;> simp only <;> omega
def bitV (l : List (Int × Int)) (p at_ j : Nat) : Int × Int := sumP ((l.drop (at_ + j * p)).take p)
def valsL (l : List (Int × Int)) (p at_ : Nat) : List (Int × Int) := (List.range ((l.length - at_) / p)).map (bitV l p at_)
def valR (l : List (Int × Int)) (p at_ : Int) : List (Int × Int) × Int :=
  if p < 1 ∨ 20 < p ∨ at_ < 0 ∨ p ≤ at_ then ([], 2) else if 10000 < l.length then ([], 4) else if l.all insP = false then ([], 2) else if valsL l p.toNat at_.toNat = [] then ([], 16) else (valsL l p.toNat at_.toNat, 0)
def bitAt (v : List (Int × Int)) : Nat → Int
  | 0 => 0
  | j + 1 => if scl (v.getD j (0, 0)) (v.getD (j + 1) (0, 0)) < 0 then 1 - bitAt v j else bitAt v j
theorem bitAt_01 (v : List (Int × Int)) (j : Nat) : bitAt v j = 0 ∨ bitAt v j = 1 := by
  induction j with
  | zero => exact .inl rfl
  | succ j ih => unfold bitAt; split <;> omega
def bitsL (v : List (Int × Int)) : List Int := (List.range v.length).map (bitAt v)
def readR (l : List (Int × Int)) (p at_ : Int) : List Int × Int := (bitsL (valR l p at_).1, (valR l p at_).2)
def amx (ch : List Int) : Nat → Nat
  | 0 => 0
  | k + 1 => if ch.getD (amx ch k) 0 < ch.getD (k + 1) 0 then k + 1 else amx ch k
def edgeR (ch : List Int) (seen : Int) (la : Int × Int) (least : Int) : Int × Int :=
  if errS ch seen la ≠ 0 then (0, errS ch seen la) else if least < 1 ∨ 1000000 < least then (0, 2) else
    if ch.getD (amx ch (ch.length - 1)) 0 < least then (0, 18) else if (List.range ch.length).any (fun i => i != amx ch (ch.length - 1) && decide (ch.getD (amx ch (ch.length - 1)) 0 ≤ 2 * ch.getD i 0)) then (0, 13) else ((amx ch (ch.length - 1) : Int), 0)
end Go.Proofs.Sky
