/-
  lemmas for the theorems of this claim. No conditions beyond those written in the statements.
-/
import Derived.Test.YtmndialneggbjaaO21
set_option linter.unusedVariables false
set_option linter.unusedSimpArgs false
set_option linter.unnecessarySimpa false
namespace Go.Proofs.Sky
open Go Go.RowKit Go.Shelf
attribute [local go_sem] Oper.semAt_some
set_option maxHeartbeats 4000000
set_option maxRecDepth 100000 in
theorem bits_stops0 (A : Option Addr) (cap p : Nat) (at_ : Nat) (hp : 1 ≤ p) (hp2 : p ≤ 20) (ha : at_ < p) (B : Nat) (w : World) (hB : B + 2 < w.heap.size) (c0 : w.cell? ⟨B, 0, none⟩ = some (.slice A 0 cap)) (c1 : w.cell? ⟨B + 1, 0, none⟩ = some (.int .i64 p)) (c2 : w.cell? ⟨B + 2, 0, none⟩ = some (.int .i64 at_)) (enc : Nat → Array Value) :
    SeqStopsK Fence.wide 9 Try.prog 41 #[.pointer (some ⟨B, 0, none⟩), .pointer (some ⟨B + 2, 0, none⟩), .pointer (some ⟨B + 1, 0, none⟩)] enc (KpT B) (fun xs => xs = []) (fun pre => pre = []) 0 w := fun l J Jx W hW _ _ hY h0 => by
  have d0 := (hW.cell (p := ⟨B, 0, none⟩) (by show B < _; omega)).trans c0
  have d1 := (hW.cell (p := ⟨B + 1, 0, none⟩) (by show B + 1 < _; omega)).trans c1
  have d2 := (hW.cell (p := ⟨B + 2, 0, none⟩) (by show B + 2 < _; omega)).trans c2
  clear c0 c1 c2 hW
  refine callsIn_of_wp Try.func41 rfl trivial ?_ rfl
  simp only [Try.ntmps41, List.size_toArray, List.length_cons, List.length_nil, Nat.reduceAdd, Nat.reduceSub, Array.replicate_succ, Array.replicate_zero, List.push_toArray, List.append_toArray, List.nil_append, List.cons_append]
  have hY' := Lib.hid hY; clear hY
  have hz : ¬ (p : Int) ≤ 0 := by omega
  by_cases hx : at_ = 0
  · subst hx
    cases A with
    | none =>
      gi_wp2
      all_goals
        gi_loopw [5] (fun i wr => (∃ o C, i = .slice o 0 C) ∧ wr = W) (fun i _ => 0)
        case atStart => exact ⟨⟨_, _, rfl⟩, rfl⟩
        case round =>
          obtain ⟨⟨o, C, rfl⟩, hwr⟩ := hrel
          replace hwr := hwr.symm
          subst hwr
          gi_wp2
          go_end0
          exact ⟨⟨_, rfl⟩, .inl ⟨_, rfl, h0⟩⟩
    | some ad =>
      gi_wp2
      all_goals
        gi_loopw [5] (fun i wr => (∃ o C, i = .slice o 0 C) ∧ wr = W) (fun i _ => 0)
        case atStart => exact ⟨⟨_, _, rfl⟩, rfl⟩
        case round =>
          obtain ⟨⟨o, C, rfl⟩, hwr⟩ := hrel
          replace hwr := hwr.symm
          subst hwr
          gi_wp2
          go_end0
          exact ⟨⟨_, rfl⟩, .inl ⟨_, rfl, h0⟩⟩
  · have hx1 : (0 : Int) < at_ := by omega
    have hx2 : ¬ (at_ : Int) < 0 := by omega
    have hx3 : ¬ (at_ : Int) = 0 := by omega
    cases A with
    | none =>
      gi_wp2
      all_goals
        gi_loopw [5] (fun i wr => (∃ o C, i = .slice o 0 C) ∧ wr = W) (fun i _ => 0)
        case atStart => exact ⟨⟨_, _, rfl⟩, rfl⟩
        case round =>
          obtain ⟨⟨o, C, rfl⟩, hwr⟩ := hrel
          replace hwr := hwr.symm
          subst hwr
          gi_wp2
          go_end0
          exact ⟨⟨_, rfl⟩, .inl ⟨_, rfl, h0⟩⟩
    | some ad =>
      gi_wp2
      all_goals
        gi_loopw [5] (fun i wr => (∃ o C, i = .slice o 0 C) ∧ wr = W) (fun i _ => 0)
        case atStart => exact ⟨⟨_, _, rfl⟩, rfl⟩
        case round =>
          obtain ⟨⟨o, C, rfl⟩, hwr⟩ := hrel
          replace hwr := hwr.symm
          subst hwr
          gi_wp2
          go_end0
          exact ⟨⟨_, rfl⟩, .inl ⟨_, rfl, h0⟩⟩
theorem range_bits0 {g : Operand} {tps : Array Tmp} {assign body : Code} {Q : Exit → Act → World → Prop} {act : Act} {w : World} (A : Option Addr) (cap p : Nat) (at_ : Nat) (hp : 1 ≤ p) (hp2 : p ≤ 20) (ha : at_ < p) (B : Nat) (hB : B + 2 < w.heap.size)
    (c0 : w.cell? ⟨B, 0, none⟩ = some (.slice A 0 cap)) (c1 : w.cell? ⟨B + 1, 0, none⟩ = some (.int .i64 p)) (c2 : w.cell? ⟨B + 2, 0, none⟩ = some (.int .i64 at_))
    (hg : act.eval g = .func (.func 41) #[] #[.pointer (some ⟨B, 0, none⟩), .pointer (some ⟨B + 2, 0, none⟩), .pointer (some ⟨B + 1, 0, none⟩)]) (hps : tps.size = 1)
    (I : List Nat → World → Prop) (hI : OwnFrom w.heap.size I) (h0 : I [] w) (ups : List (Nat × Value))
    (hassign : ∀ (l : Nat) (W : World) (K : Act → World → Prop), K { tmps := ups.foldl (fun t p => t.setIfInBounds p.1 p.2) act.tmps, defers := [] } W →
      assign.wpIn (Fence.wide.inRound l) 8 Try.prog (Exit.then K (fun _ _ _ => False)) { tmps := (tps.zip #[.slice none 0 0]).foldl (fun t (p, v) => t.setIfInBounds p v) act.tmps, defers := [] } W)
    (hdone : ∀ (D : Nat) (W : World), w.heap.size ≤ D → I [] W → W.heap[D]? = some (.deferred (some [])) → Q .normal { act with defers := mk D :: act.defers } W) :
    (Code.rangeFunc g tps assign body).wp Try.prog Q act w := by
  refine wp_rangeFunc hg (enters_of Try.func41 (by kernel_rfl) rfl) (bits_stops0 A cap p at_ hp hp2 ha B w hB c0 c1 c2 (fun _ => #[.slice none 0 0])) kpT_t (kpT_b hB) (fun _ => hps.symm) I (fun _ _ _ => False)
    hI (fun c s W W' row hs hg hr => hs) h0 (fun _ => { tmps := ups.foldl (fun t p => t.setIfInBounds p.1 p.2) act.tmps, defers := [] })
    (fun l x W K hK => hassign l W K hK) (fun l pre x W hi hl => absurd hl (Nat.not_lt_zero _)) (fun D xs W hD hS hi hK => by subst hS; exact hdone D W hD hi hK) (fun D c pre W hD hS hi hK => hi.elim)
theorem Values_empty (A : Option Addr) (cap : Nat) (p at_ : Nat) (w : World) (h1 : 1 ≤ p) (h2 : p ≤ 20) (h4 : at_ < p) :
    Calls Try.prog 10 #[.slice A 0 cap, .int .i64 p, .int .i64 at_] w fun e w' => VaP w.heap.size [] 16 e w' ∧ Bw w w' := by
  have HV := Lib.hid (fun W => (⟨by simp, A, cap, rfl, .inl rfl⟩ : RdS W (.slice A 0 cap) []))
  have HS := Lib.hid (fun W => someOut_any [] (.slice A 0 cap) W (HV.out W))
  rw [all_of_any, show List.all ([] : List (Int × Int)) insP = true from rfl] at HS
  have q1 : ¬ (p : Int) < 1 := by omega
  have q2 : ¬ (20 : Int) < p := by omega
  have q3 : ¬ (at_ : Int) < 0 := by omega
  have q4 : ¬ (p : Int) ≤ at_ := by omega
  have HP := Lib.hid (fun W => bits_any A 0 cap p at_ W)
  (refine calls_of_marks (w.heap.size) Try.func10 rfl ?_; simp only [Try.ntmps10, List.size_toArray, List.length_cons, List.length_nil, Nat.reduceAdd, Nat.reduceSub, Array.replicate_succ, Array.replicate_zero, List.push_toArray, List.append_toArray, List.nil_append, List.cons_append])
  go_wp2_with (first | (go_at_call 30; (with_reducible refine Calls.mono (HS.out _) ?_); rintro e1 w1 ⟨rfl, hb1⟩) | (go_at_call 33; (with_reducible refine Calls.mono (HP.out _) ?_); rintro e1 w9 ⟨rfl, rfl⟩))
  obtain ⟨W0, hW0⟩ : ∃ W0, ((((w1.alloc (.cells #[.slice none 0 0] 22)).alloc (.cells #[.slice A 0 cap] 22)).alloc (.cells #[.int .i64 p] 3)).alloc (.cells #[.int .i64 at_] 3)) = W0 := ⟨_, rfl⟩
  have hbw : Bw w W0 := by rw [← hW0]; exact Bw.alloc (Bw.alloc (Bw.alloc (Bw.alloc hb1 _) _) _) _
  have B8 : Blk W0 w1.heap.size 22 #[.slice none 0 0] := by rw [← hW0]; exact (((Blk.new w1 _ _).alloc _).alloc _).alloc _
  have c0 : W0.cell? ⟨w1.heap.size + 1, 0, none⟩ = some (.slice A 0 cap) := by rw [← hW0]; simp [go_sem]
  have c1 : W0.cell? ⟨w1.heap.size + 1 + 1, 0, none⟩ = some (.int .i64 p) := by rw [← hW0]; simp [go_sem]
  have c2 : W0.cell? ⟨w1.heap.size + 1 + 2, 0, none⟩ = some (.int .i64 at_) := by rw [← hW0]; simp [go_sem]
  have hsB : W0.heap.size = w1.heap.size + 4 := by rw [← hW0]; simp
  rw [hW0] at ⊢
  have HS0 := Lib.hid hsB
  have HB1 := Lib.hid hb1.size
  clear hW0 hsB hb1
  refine range_bits0 A cap p at_ h1 h2 h4 (w1.heap.size + 1) (by have := HS0.out; omega) c0 c1 c2 rfl rfl
    (fun pre W => ValI w W0.heap.size w1.heap.size [] p 0 pre W)
    (fun s X Y row hs hg hr => hs.K hbw.size hg hr)
    ⟨hbw, ⟨_, B8, World.ownsRow_nil _ _ _ _⟩, Nat.le_refl _⟩
    [(37, .slice none 0 0), (9, .slice none 0 0)] ?assign ?done
  case assign =>
    intro l W K hK
    gi_wp2
    exact hK
  case done =>
    rintro D W hD ⟨hBW, ⟨v8, hB8, hO⟩, hsz⟩ hK
    obtain ⟨A8, c8, rfl⟩ := own_form2 hO
    have j8 : W.cell? ⟨w1.heap.size, 0, none⟩ = some (.slice A8 0 c8) := hB8.cell rfl
    have hd9 : w.heap.size ≤ D := Nat.le_trans hbw.size hD
    have HK := Lib.hid hK; have HBW := Lib.hid hBW
    clear hO hB8 hK hBW c0 c1 c2 B8 hsz
    go_wp2
    refine ⟨Marks.one hd9 HK.out, fun W' hS => ⟨.tuple #[.slice none 0 0, .int .i64 16], ?_, ?_, Bw.shut HBW.out hS⟩⟩
    · simp [results, Try.results10, go_sem]
    · exact vaP_nil _ _ _
theorem Values_all (l : List (Int × Int)) (v : Value) (p at_ : Int) (w : World) (hv : RdS w v l) (hc : Capd v) :
    Calls Try.prog 10 #[v, .int .i64 p, .int .i64 at_] w fun e w' => VaP w.heap.size (valR l p at_).1 (valR l p at_).2 e w' ∧ Bw w w' := by
  by_cases hne : 0 < l.length
  · exact Values_any l v p at_ w hv hc hne
  · obtain rfl : l = [] := List.eq_nil_of_length_eq_zero (by omega)
    obtain ⟨A, cap, rfl⟩ := hv.form
    by_cases h : p < 1 ∨ 20 < p ∨ at_ < 0 ∨ p ≤ at_
    · have e : valR [] p at_ = ([], 2) := by unfold valR; rw [if_pos h]
      rw [e]; exact Values_range [] _ _ _ p at_ w h
    · obtain ⟨P, rfl⟩ := Int.eq_ofNat_of_zero_le (show 0 ≤ p by omega)
      obtain ⟨A9, rfl⟩ := Int.eq_ofNat_of_zero_le (show 0 ≤ at_ by omega)
      have e : valR [] P A9 = ([], 16) := by
        unfold valR; rw [if_neg h, if_neg (by simp), if_neg (by simp), if_pos (by simp [valsL])]
      rw [e]; exact Values_empty A cap P A9 w (by omega) (by omega) (by omega)
theorem Read_all (l : List (Int × Int)) (v : Value) (p at_ : Int) (w : World) (hv : RdS w v l) (hc : Capd v) :
    Calls Try.prog 12 #[v, .int .i64 p, .int .i64 at_] w fun e w' => ReP w.heap.size (readR l p at_).1 (readR l p at_).2 e w' ∧ Bw w w' := by
  by_cases hne : 0 < l.length
  · exact Read_any l v p at_ w hv hc hne
  · obtain rfl : l = [] := List.eq_nil_of_length_eq_zero (by omega)
    have HV := Lib.hid (fun W hW => Values_all [] v p at_ W hW hc)
    have HR0 := Lib.hid hv
    obtain ⟨al, cl9, rfl⟩ := hv.form
    clear hv
    have h1 : (valR [] p at_).1 = [] ∧ (valR [] p at_).2 ≠ 0 := by
      unfold valR
      split
      · exact ⟨rfl, by decide⟩
      · rw [if_neg (by simp), if_neg (by simp), if_pos (by simp [valsL])]; exact ⟨rfl, by decide⟩
    unfold readR VaP at *
    obtain ⟨VR, hVR⟩ : ∃ VR, VR = valR [] p at_ := ⟨_, rfl⟩
    rw [← hVR] at HV h1 ⊢
    clear hVR
    obtain ⟨vs, er⟩ := VR
    dsimp only at HV h1 ⊢
    obtain ⟨rfl, h0⟩ := h1
    have hne0 : (er != 0) = true := by simpa using h0
    go_enter Try.func12, Try.ntmps12
    go_wp2_with (go_at_call 10; (with_reducible refine Calls.mono (HV.out _ HR0.out) ?_); rintro e1 w1 ⟨⟨v8, rfl, hr8, hf8⟩, hb1⟩)
    refine bodyPost_ret (v := .tuple #[.slice none 0 0, .int .i64 er]) ?_ rfl ⟨⟨_, rfl, RdI.nil _, Fresh.nil _ _ _⟩, hb1⟩
    simp [results, Try.results12, go_sem]
end Go.Proofs.Sky
