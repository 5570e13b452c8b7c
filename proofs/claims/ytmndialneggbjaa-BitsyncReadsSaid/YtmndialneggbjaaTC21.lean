/-
  lemmas for the theorems of this claim. No conditions beyond those written in the statements.
-/
import Derived.Test.YtmndialneggbjaaTB21
set_option linter.unusedVariables false
set_option linter.unusedSimpArgs false
set_option linter.unnecessarySimpa false
namespace Go.Proofs.Sky
open Go Go.RowKit Go.Shelf
set_option maxHeartbeats 4000000
set_option maxRecDepth 4000
theorem law_reads (l : List (Int × Int)) (v : Value) (p t : Int) (w : World) (hv : RdS w v l) (hc : Capd v) :
    Calls Try.prog 3 #[v, .int .i64 p, .int .i64 t] w fun r w' => r = .returned (.bool true) ∧ Bw w w' := by
  obtain ⟨ad, cap, rfl⟩ := hv.form
  by_cases hl : l.length ≤ 200
  · have hg : ¬ (200 : Int) < l.length := by omega
    have SL := Lib.hid hv
    have VA := Lib.hid (fun W (h : RdS W (.slice ad l.length cap) l) => Values_all l _ p t W h hc)
    have VB := Lib.hid (fun W (h : RdS W (.slice ad l.length cap) l) => rValues_any l _ p t W h)
    have RA := Lib.hid (fun W (h : RdS W (.slice ad l.length cap) l) => Read_all l _ p t W h hc)
    have RB := Lib.hid (fun W (h : RdS W (.slice ad l.length cap) l) => rRead_any l _ p t W h)
    clear hv hc
    unfold VaP at VA VB
    unfold ReP at RA RB
    generalize (valR l p t).1 = A at *
    generalize (valR l p t).2 = ea at *
    generalize (readR l p t).1 = B at *
    generalize (readR l p t).2 = eb at *
    have HBW := Lib.hid (Bw.refl w)
    go_enter Try.func3, Try.ntmps3
    go_wp2_with (first
      | (go_at_call 10; (with_reducible refine Calls.mono (VA.out _ SL.out) ?_); rintro e1 u1 ⟨⟨v9, rfl, hr, _⟩, hb⟩; obtain ⟨a1, c1, rfl⟩ := hr.form; have R1 := Lib.hid hr; replace SL := Lib.hid (SL.out.mono hb); replace HBW := Lib.hid (HBW.out.trans hb); clear hr hb VA)
      | (go_at_call 11; (with_reducible refine Calls.mono (VB.out _ SL.out) ?_); rintro e1 u2 ⟨⟨v9, rfl, hr, _⟩, hb⟩; obtain ⟨a2, c2, rfl⟩ := hr.form; have R2 := Lib.hid hr; replace SL := Lib.hid (SL.out.mono hb); replace R1 := Lib.hid (R1.out.mono hb); replace HBW := Lib.hid (HBW.out.trans hb); clear hr hb VB)
      | (go_at_call 12; (with_reducible refine Calls.mono (RA.out _ SL.out) ?_); rintro e1 u3 ⟨⟨v9, rfl, hr, _⟩, hb⟩; obtain ⟨a3, c3, rfl⟩ := hr.form; have R3 := Lib.hid hr; replace SL := Lib.hid (SL.out.mono hb); replace R1 := Lib.hid (R1.out.mono hb); replace R2 := Lib.hid (R2.out.mono hb); replace HBW := Lib.hid (HBW.out.trans hb); clear hr hb RA)
      | (go_at_call 13; (with_reducible refine Calls.mono (RB.out _ SL.out) ?_); rintro e1 u4 ⟨⟨v9, rfl, hr, _⟩, hb⟩; obtain ⟨a4, c4, rfl⟩ := hr.form; have R4 := Lib.hid hr; replace R1 := Lib.hid (R1.out.mono hb); replace R2 := Lib.hid (R2.out.mono hb); replace R3 := Lib.hid (R3.out.mono hb); replace HBW := Lib.hid (HBW.out.trans hb); clear hr hb RB)
      | (go_at_call 14; (with_reducible refine Calls.mono (samples_same A _ _ _ R1.out R2.out) ?_); rintro e1 u5 ⟨rfl, hb⟩; replace R3 := Lib.hid (R3.out.mono hb); replace R4 := Lib.hid (R4.out.mono hb); replace HBW := Lib.hid (HBW.out.trans hb); clear hb R1 R2)
      | (go_at_call 15; (with_reducible refine Calls.mono (equal_same B _ _ _ R3.out R4.out) ?_); rintro e1 u6 ⟨rfl, hb⟩; replace HBW := Lib.hid (HBW.out.trans hb); clear hb R3 R4)
      | (go_at_call 9; (with_reducible refine Calls.mono (awake_any _) ?_); rintro e1 u7 ⟨rfl, hb⟩; replace HBW := Lib.hid (HBW.out.trans hb); clear hb))
    go_ret
    exact ⟨rfl, HBW.out⟩
  · have hg : (200 : Int) < l.length := by omega
    clear hl hv hc
    go_enter Try.func3, Try.ntmps3
    go_wp2_with (go_at_call 9; (with_reducible refine Calls.mono (awake_any _) ?_); rintro e1 u7 ⟨rfl, hb⟩)
    go_ret
    exact ⟨rfl, hb⟩
end Go.Proofs.Sky
