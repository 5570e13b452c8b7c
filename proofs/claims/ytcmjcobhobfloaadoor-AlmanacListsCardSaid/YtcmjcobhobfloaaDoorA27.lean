/-
  lemmas for the theorems of this claim. No conditions beyond those written in the statements.
-/
import Derived.Test.YtcmjcobhobfloaaDoorU25b
import Derived.Test.YtcmjcobhobfloaaDoorAL6
import Derived.Deep.Cut
set_option linter.unusedVariables false
set_option linter.unusedSimpArgs false
set_option linter.unnecessarySimpa false
namespace Go.Proofs.Sky
open Go Go.RowKit Go.Shelf
set_option maxHeartbeats 2000000
def unR (i : Nat) (zs out : List Int) : List Fd → List Int × (Int × Int)
  | [] => (out, (0, 0))
  | f :: r => if errT zs f.a f.n f.u f.c = 0 then unR (i + 1) zs (out ++ [getR zs f.a f.n f.g f.u f.c]) r else ([], (errT zs f.a f.n f.u f.c, (i : Int)))
def unpackR (fs : List Fd) (zs : List Int) : List Int × (Int × Int) := if (layout fs zs.length).1 = 0 then unR 0 zs [] fs else ([], layout fs zs.length)
theorem un_step (k : Nat) (zs out : List Int) (fs : List Fd) (f : Fd) (h : fs[k]? = some f) : unR k zs out (fs.drop k) = if errT zs f.a f.n f.u f.c = 0 then unR (k + 1) zs (out ++ [getR zs f.a f.n f.g f.u f.c]) (fs.drop (k + 1)) else ([], (errT zs f.a f.n f.u f.c, (k : Int))) := by
  obtain ⟨hk, e⟩ := List.getElem?_eq_some_iff.1 h
  rw [List.drop_eq_getElem_cons hk, e, unR]
theorem PkC.grow {w a b : World} {row : Option Nat} (h : PkC w a) (hg : a.grownBy b row) (hr : ∀ j, row = some j → w.heap.size + 1 ≤ j) : PkC w b := by
  have ne : some w.heap.size ≠ row := fun e => by have := hr _ e.symm; omega
  exact ⟨Below.grown h.bw.out hg h.bw.size (fun k e => by have := hr k e; omega), Nat.le_trans h.sz hg.size, hg.cell h.r0 ne, hg.cell h.r1 ne, (World.frozen?_of_block (hg.block _ (lt_of_cell h.r0) ne)).trans h.f0, (World.frozen?_of_block (hg.block _ (lt_of_cell h.r0) ne)).trans h.f1⟩
theorem unpack_lay (fs : List Fd) (zs : List Int) (vf vv : Value) (w : World) (hf : RdF w vf fs) (hv : RdI w vv zs) (hl : (layout fs zs.length).1 ≠ 0) :
    Calls Tryd.prog 52 #[vf, vv] w fun e w' => PackP w.heap.size [] (layout fs zs.length).1 (layout fs zs.length).2 e w' ∧ Bw w w' := by
  have HL := Lib.hid (fun W hW => Layout_any fs vf zs.length W hW)
  have HF := Lib.hid hf
  obtain ⟨a1, c1, rfl⟩ := hf.form
  obtain ⟨a2, c2, rfl⟩ := hv.form
  clear hf hv
  unfold LayP at HL
  have hne : ((layout fs zs.length).1 != 0) = true := by simpa using hl
  clear hl
  generalize layout fs zs.length = lay at *
  obtain ⟨l1, l2⟩ := lay
  go_enter Tryd.func52, Tryd.ntmps52
  go_wp2_with (go_at_call 63; refine (HL.out _ (HF.out.mono (by repeat (first | exact Bw.refl _ | assumption | refine Bw.alloc ?_ _ | refine Bw.drew ?_ | refine Bw.trans ?_ (by assumption) | refine Bw.setCell ?_ (by simp; try omega) _)))).mono ?_; rintro e w' ⟨rfl, hb⟩; obtain ⟨hcc, hff⟩ := Bw.cells hb; have hsz := Bw.size hb; try (have hz0 : w.heap.size < w'.heap.size := by (try simp at hsz); omega); try (have hz1 : w.heap.size + 1 < w'.heap.size := by (try simp at hsz); omega); try (have hz2 : w.heap.size + 1 + 1 < w'.heap.size := by (try simp at hsz); omega); try (have hz3 : w.heap.size + 1 + 1 + 1 < w'.heap.size := by (try simp at hsz); omega); try (have hz4 : w.heap.size + 1 + 1 + 1 + 1 < w'.heap.size := by (try simp at hsz); omega); try (have hzr : wr.heap.size < w'.heap.size := by (try simp at hsz); omega); try (have hzr1 : wr.heap.size + 1 < w'.heap.size := by (try simp at hsz); omega))
  have hC : PkC w (w'.alloc (Obj.cells #[.int .i64 l1, .int .i64 l2] 71)) := ⟨(by repeat (first | exact Bw.refl _ | assumption | refine Bw.alloc ?_ _ | refine Bw.drew ?_ | refine Bw.trans ?_ (by assumption) | refine Bw.setCell ?_ (by simp; try omega) _)), by simp; omega, by simp [*, go_sem], by simp [*, go_sem], by simp [*, go_sem], by simp [*, go_sem]⟩
  have q0 : (w'.alloc (Obj.cells #[.int .i64 l1, .int .i64 l2] 71)).cell? ⟨w'.heap.size, 0, none⟩ = some (.int .i64 l1) := by simp [go_sem]
  have q1 : (w'.alloc (Obj.cells #[.int .i64 l1, .int .i64 l2] 71)).cell? ⟨w'.heap.size, 1, none⟩ = some (.int .i64 l2) := by simp [go_sem]
  generalize (w'.alloc (Obj.cells #[.int .i64 l1, .int .i64 l2] 71)) = W0 at hC q0 q1 ⊢
  clear hcc hff
  have e0 := fun p : Ext W0 => Ext.cell' q0 p
  have e1 := fun p : Ext W0 => Ext.cell' q1 p
  (refine wp_region_ext_tail 2 (by kernel_rfl) (by kernel_rfl) ?_; simp only [List.take_succ_cons, List.take_zero, List.drop_succ_cons, List.drop_zero]; (repeat (go_big_quiet_step ((fail)))); refine wpQuiet_nil ?_; rintro wq ⟨⟨_, hbq⟩, rfl⟩; obtain ⟨hccq, hffq⟩ := Bw.cells hbq; have hszq := Bw.size hbq)
  have hC2 := hC.mono hbq
  have r0 := hC2.r0
  have r1 := hC2.r1
  have f0 := hC2.f0
  have f1 := hC2.f1
  clear hccq hffq e0 e1
  go_wp2
  have hF := hC2.fault (.int .i64 l1) (.int .i64 l2)
  refine bodyPost_ret (v := .tuple #[.slice none 0 0, .agg #[.int .i64 l1, .int .i64 l2]]) ?_ rfl ⟨?_, ?_⟩
  · simp [results, Tryd.results52, go_sem, hF.2.1, hF.2.2]
  · exact packP_nil _ _ _ _
  · exact hF.1
theorem unpack_ok (fs : List Fd) (zs : List Int) (vf vv : Value) (w : World) (hf : RdF w vf fs) (hv : RdI w vv zs) (hl : (layout fs zs.length).1 = 0) :
    Calls Tryd.prog 52 #[vf, vv] w fun e w' => PackP w.heap.size (unR 0 zs [] fs).1 (unR 0 zs [] fs).2.1 (unR 0 zs [] fs).2.2 e w' ∧ Bw w w' := by
  have HL := Lib.hid (fun W hW => Layout_any fs vf zs.length W hW)
  have HGT := Lib.hid (fun a n g u c W hW => Get_any zs vv a n g u c W hW)
  have HF := Lib.hid hf
  have HV := Lib.hid hv
  obtain ⟨hlen, a1, c1, rfl, hz⟩ := hf
  obtain ⟨hl100, hgood⟩ := layout_zero hl
  have HG := Lib.hid hgood; clear hgood
  have HZ := Lib.hid hz; clear hz
  obtain ⟨a2, c2, rfl⟩ := hv.form
  clear hv
  unfold LayP at HL
  unfold GetP at HGT
  rw [hl] at HL
  obtain ⟨m, hm⟩ : ∃ m, fs.length = m := ⟨_, rfl⟩
  have HN := Lib.hid hm
  rw [hm] at hl100 HF HL ⊢
  obtain ⟨R, hR⟩ : ∃ R, unR 0 zs [] fs = R := ⟨_, rfl⟩
  rw [hR]
  have HR := Lib.hid hR
  clear hl hm hR
  go_enter Tryd.func52, Tryd.ntmps52
  go_wp2_with (go_at_call 63; refine (HL.out _ (HF.out.mono (by repeat (first | exact Bw.refl _ | assumption | refine Bw.alloc ?_ _ | refine Bw.drew ?_ | refine Bw.trans ?_ (by assumption) | refine Bw.setCell ?_ (by simp; try omega) _)))).mono ?_; rintro e w' ⟨rfl, hb⟩; obtain ⟨hcc, hff⟩ := Bw.cells hb; have hsz := Bw.size hb; try (have hz0 : w.heap.size < w'.heap.size := by (try simp at hsz); omega); try (have hz1 : w.heap.size + 1 < w'.heap.size := by (try simp at hsz); omega); try (have hz2 : w.heap.size + 1 + 1 < w'.heap.size := by (try simp at hsz); omega); try (have hz3 : w.heap.size + 1 + 1 + 1 < w'.heap.size := by (try simp at hsz); omega); try (have hz4 : w.heap.size + 1 + 1 + 1 + 1 < w'.heap.size := by (try simp at hsz); omega); try (have hzr : wr.heap.size < w'.heap.size := by (try simp at hsz); omega); try (have hzr1 : wr.heap.size + 1 < w'.heap.size := by (try simp at hsz); omega))
  have hC : PkC w (w'.alloc (Obj.cells #[.int .i64 0, .int .i64 (layout fs zs.length).2] 71)) := ⟨(by repeat (first | exact Bw.refl _ | assumption | refine Bw.alloc ?_ _ | refine Bw.drew ?_ | refine Bw.trans ?_ (by assumption) | refine Bw.setCell ?_ (by simp; try omega) _)), by simp; omega, by simp [*, go_sem], by simp [*, go_sem], by simp [*, go_sem], by simp [*, go_sem]⟩
  generalize (w'.alloc (Obj.cells #[.int .i64 0, .int .i64 (layout fs zs.length).2] 71)) = W0 at hC ⊢
  clear hcc hff hb hsz
  go_loopw [7, 22] (fun v i wr => ∃ k : Nat, k ≤ m ∧ i = .int .i64 k ∧ PkC w wr ∧ Hid (∃ out : List Int, out.length = k ∧ wr.ownsRow (w.heap.size + 1) 3 1 v out.length (out.map (Value.int .i64)) ∧ unR k zs out (fs.drop k) = R)) (fun _ i _ => m - (intOf i).toNat)
  case atStart => exact ⟨0, Nat.zero_le _, rfl, hC, [], rfl, World.ownsRow_nil _ _ _ _, by simpa using HR.out⟩
  case round =>
    obtain ⟨k, hk, rfl, hCr, HW⟩ := hrel
    obtain ⟨out, hol, hown, hun⟩ := HW.out
    clear HW
    by_cases hlt : k < m
    · have hn2 := HN.out
      obtain ⟨b1, o1, rfl, hb1, hz1⟩ := HZ.out.resolve_left (by intro e; subst e; simp at hn2; omega)
      have hfe : fs[k]? = some fs[k] := List.getElem?_eq_getElem (by omega)
      have hgd := HG.out fs[k] (List.getElem_mem (by omega))
      have hst := un_step k zs out fs _ hfe
      generalize fs[k] = f at hfe hgd hst
      obtain ⟨fa, fn, fg, fu, fc⟩ := f
      obtain ⟨d0, d1, d2, d3, d4⟩ := hz1 k _ hfe
      replace d0 := hCr.bw.cell' d0
      replace d1 := hCr.bw.cell' d1
      replace d2 := hCr.bw.cell' d2
      replace d3 := hCr.bw.cell' d3
      replace d4 := hCr.bw.cell' d4
      dsimp only at d0 d1 d2 d3 d4 hst
      have HST := Lib.hid (hun.symm.trans hst)
      have HGX := Lib.hid (fun W hW => HGT.out fa fn fg fu fc W hW)
      have hki : (k : Int) < m := by omega
      have HO := Lib.hid hown
      have HOL := Lib.hid hol
      clear hz1 hfe hgd hst hn2 hun hown hol
      by_cases he : errT zs fa fn fu fc = 0
      · rw [he] at HGX
        have HSS := Lib.hid (show R = unR (k + 1) zs (out ++ [getR zs fa fn fg fu fc]) (fs.drop (k + 1)) by rw [HST.out, if_pos he])
        clear he HST HGT
        go_wp2_with (first | (go_at_call 69; refine (HGX.out _ (HV.out.mono (by first | exact hCr.bw | exact Bw.alloc hCr.bw _))).mono ?_; rintro e w3 ⟨rfl, hb3⟩; have hb3' : Bw wr w3 := (by first | exact hb3 | exact Bw.trans (Bw.alloc (Bw.refl _) _) hb3); have hC3 := hCr.mono hb3'; have HO3 := Lib.hid (own_bw HO.out hb3')) | (at_builtin; refine wpList_append_int1 rfl _ _ _ rfl (w.heap.size + 1) 3 Tryd.underlying22 infoInt _ out (getR zs fa fn fg fu fc) rfl (HO3.out.alloc _) w3.heap.size rfl (by simp [go_sem]) (by have := HOL.out; omega) (by have := hC3.sz; simp; omega) ?_))
        intro v' w4 hown4 hgrow4
        have hC4 : PkC w w4 := (hC3.mono (Bw.alloc (Bw.refl _) _)).grow hgrow4 (fun j hj => (HO3.out.lt j hj).1)
        have HO4 := Lib.hid hown4
        clear hown4 hgrow4
        go_wp2
        go_roundw
        case rel => exact ⟨k + 1, by omega, by go_num, hC4, out ++ [getR zs fa fn fg fu fc], by simp [HOL.out], by simpa using HO4.out, HSS.out.symm⟩
        case measure => simp [intOf]; omega
      · have HSS := Lib.hid (show R = ([], (errT zs fa fn fu fc, (k : Int))) by rw [HST.out, if_neg he])
        have hne : (errT zs fa fn fu fc != 0) = true := by simpa using he
        clear he HST HGT
        generalize errT zs fa fn fu fc = er at *
        go_wp2_with ((go_at_call 69; refine (HGX.out _ (HV.out.mono (by first | exact hCr.bw | exact Bw.alloc hCr.bw _))).mono ?_; rintro e w3 ⟨rfl, hb3⟩; have hb3' : Bw wr w3 := (by first | exact hb3 | exact Bw.trans (Bw.alloc (Bw.refl _) _) hb3); have hC3 := hCr.mono hb3'; have r0 := hC3.r0; have r1 := hC3.r1; have f0 := hC3.f0; have f1 := hC3.f1))
        have hF := hC3.fault (.int .i64 er) (.int .i64 k)
        refine bodyPost_ret (v := .tuple #[.slice none 0 0, .agg #[.int .i64 er, .int .i64 k]]) ?_ rfl ⟨?_, ?_⟩
        · simp [results, Tryd.results52, go_sem, hF.2.1, hF.2.2]
        · rw [HSS.out]; exact packP_nil _ _ _ _
        · exact hF.1
    · obtain rfl : k = m := by omega
      have hd : fs.drop k = [] := by rw [List.drop_eq_nil_iff]; have := HN.out; omega
      rw [hd] at hun
      have HSS := Lib.hid (show R = (out, ((0 : Int), (0 : Int))) from hun.symm)
      have hrd := own_rd hown (by omega)
      have hcd := own_capd hown
      have HRD := Lib.hid hrd
      obtain ⟨ao, co, rfl⟩ := hrd.1.form
      have r0 := hCr.r0
      have r1 := hCr.r1
      have f0 := hCr.f0
      have f1 := hCr.f1
      clear hd hun hown hrd
      go_wp2
      have hF := hCr.fault (.int .i64 0) (.int .i64 0)
      refine bodyPost_ret (v := .tuple #[.slice ao out.length co, .agg #[.int .i64 0, .int .i64 0]]) ?_ rfl ⟨?_, ?_⟩
      · simp [results, Tryd.results52, go_sem, hF.2.1, hF.2.2]
      · rw [HSS.out]
        exact ⟨_, rfl, ((HRD.out.1.set HRD.out.2 (by omega) _ _).set HRD.out.2 (by omega) _ _), HRD.out.2.mono (by omega), hcd⟩
      · exact hF.1
theorem Unpack_any (fs : List Fd) (zs : List Int) (vf vv : Value) (w : World) (hf : RdF w vf fs) (hv : RdI w vv zs) :
    Calls Tryd.prog 52 #[vf, vv] w fun e w' => PackP w.heap.size (unpackR fs zs).1 (unpackR fs zs).2.1 (unpackR fs zs).2.2 e w' ∧ Bw w w' := by
  by_cases hl : (layout fs zs.length).1 = 0
  · have e : unpackR fs zs = unR 0 zs [] fs := by unfold unpackR; rw [if_pos hl]
    rw [e]; exact unpack_ok fs zs vf vv w hf hv hl
  · have e : unpackR fs zs = ([], layout fs zs.length) := by unfold unpackR; rw [if_neg hl]
    rw [e]; exact unpack_lay fs zs vf vv w hf hv hl
end Go.Proofs.Sky

namespace Go.Proofs.Sky
open Go Go.RowKit Go.Shelf
attribute [local go_sem] Oper.semAt_some
set_option maxHeartbeats 4000000
set_option maxRecDepth 8000
/-! chapter 27: Frame -/
def FrP (base : Nat) (t k : Int) (l : List Int) (er : Int) (e : Ending) (w' : World) : Prop := ∃ v', e = .returned (.tuple #[.agg #[.int .i64 t, .int .i64 k, v'], .int .i64 er]) ∧ RdI w' v' l ∧ Fresh base v' ∧ Capd v'
theorem frP_nil (base : Nat) (er : Int) (w' : World) : FrP base 0 0 [] er (.returned (.tuple #[.agg #[.int .i64 0, .int .i64 0, .slice none 0 0], .int .i64 er])) w' := ⟨_, rfl, RdI.nil _, Fresh.nil _ _ _, Capd.nil⟩
def Off (g : Nat) (v : Value) (zs : List Int) : Prop := zs = [] ∨ ∀ b, v.ownBlock = some b → b ≠ g
theorem RdI.off {w : World} {v : Value} {zs : List Int} (h : RdI w v zs) {g : Nat} (hg : w.heap.size ≤ g) : Off g v zs := by
  obtain ⟨_, a, cap, rfl, h4⟩ := h
  rcases h4 with h4 | ⟨b, off, rfl, h6, _⟩
  · exact .inl h4
  · exact .inr (fun b' e => by simp [Value.ownBlock] at e; omega)
theorem Fresh.off {base g : Nat} {v : Value} (h : Fresh base v) (hg : g < base) (zs : List Int) : Off g v zs := .inr (fun b e => by have := h b e; omega)
theorem RdI.rowOff {w : World} {v : Value} {zs : List Int} (h : RdI w v zs) {g : Nat} (ho : Off g v zs) (cs : Array Value) : RdI (w.setRow g cs) v zs := by
  obtain ⟨h2, a, cap, rfl, h4⟩ := h
  refine ⟨h2, a, cap, rfl, ?_⟩
  rcases h4 with h4 | ⟨b', off, rfl, h6, h7⟩
  · exact .inl h4
  · rcases ho with ho | ho
    · exact .inl ho
    · have := ho b' rfl
      refine .inr ⟨b', off, rfl, by simpa using h6, fun i hi => ?_⟩
      rw [World.cell?_of_block (setRow_other w g b' cs this)]; exact h7 i hi
theorem zeroFl (w : World) : (zeroValue 71).run Tryd.prog w = .ok (.agg #[.int .i64 0, .int .i64 0]) w := by kernel_rfl
theorem Blk.shut {base : Nat} {w w' : World} {g : Nat} {T : TypeId} {cs : Array Value} (h : Blk w g T cs) (hS : Shut base w w') : Blk w' g T cs := hS.block _ _ h rfl
theorem RdI.shut {base : Nat} {w w' : World} {v : Value} {zs : List Int} (h : RdI w v zs) (hS : Shut base w w') : RdI w' v zs := by
  obtain ⟨h2, a, cap, h3, h4⟩ := h
  refine ⟨h2, a, cap, h3, ?_⟩
  rcases h4 with h4 | ⟨b, off, h5, h6, h7⟩
  · exact .inl h4
  · exact .inr ⟨b, off, h5, by rw [hS.size]; exact h6, fun i hi => hS.cell _ _ _ (h7 i hi)⟩
theorem blkK {W W' : World} {row : Option Nat} {B g : Nat} {T : TypeId} {cs : Array Value} (h : Blk W g T cs) (hg : W.grownBy W' row) (hr : ∀ r, row = some r → B ≤ r ∧ ∃ o : Obj, W.heap[r]? = some o ∧ o.isCells = false) : Blk W' g T cs := by
  refine (hg.block g h.lt (fun e => ?_)).trans h
  obtain ⟨_, ob, h1, h2⟩ := hr g e.symm
  have h9 := h1.symm.trans h.eq
  cases h9
  cases h2
theorem ownK {W W' : World} {row : Option Nat} {B base k n : Nat} {e : TypeId} {v : Value} {xs : List Value} (h : W.ownsRow base e k v n xs) (hg : W.grownBy W' row) (hr : ∀ r, row = some r → B ≤ r ∧ ∃ o : Obj, W.heap[r]? = some o ∧ o.isCells = false) : W'.ownsRow base e k v n xs := by
  refine ⟨h.1, ?_⟩
  rcases h.2 with h2 | ⟨g, cap, cur, h3, h4, h5, h6⟩
  · exact .inl h2
  · exact .inr ⟨g, cap, cur, h3, h4, blkK (show Blk W g e cur from h5) hg hr, h6⟩
theorem keepsFrom_own {w w' : World} {base k n B : Nat} {e : TypeId} {v : Value} {xs : List Value} (ho : w.ownsRow base e k v n xs) (hg : w.grownBy w' v.ownBlock) : KeepsFrom B w w' := by
  refine ⟨hg.size, fun b o _ hb hc => ?_⟩
  refine (hg.block b (Array.getElem?_eq_some_iff.1 hb).1 (fun e' => ?_)).trans hb
  rcases ho.2 with ⟨rfl, _⟩ | ⟨g, cap, cur, rfl, _, hh, _⟩
  · cases e'
  · have e3 : g = b := (Option.some.inj (show some b = some g from e')).symm
    subst e3
    have h9 := hh.symm.trans hb
    cases h9
    cases hc
section
variable {P : Program} {ops : Array Oper} {Q : Exit → Act → World → Prop} {n l : Nat}
theorem wpIn_region_held {S : World → Prop} {id : Nat} {a : Act} {w : World} (hm : P.follows .mixedOrders = true) (hd : ops.all noDefer = true) (hQ : ¬ LetsOut Q) (hS : S w.drew)
    (h : S w.drew → wpAnyH P .any ops Q S ops.size (Array.replicate ops.size false) a w.drew) : (Code.region id ops true).wpIn (Fence.wide.inRound l) n P Q a w :=
  wpIn_any_round hm hd hQ (wpAny_of_held _ _ _ _ (h hS))
end
theorem own_set {w : World} {base k n : Nat} {e T : TypeId} {v : Value} {xs : List Value} (ho : w.ownsRow base e k v n xs) {g : Nat} {cs : Array Value} (hB : Blk w g T cs) (hne : T ≠ e) (j : Nat) (u : Value) : (w.setCell ⟨g, j, none⟩ u).ownsRow base e k v n xs := by
  refine ⟨ho.1, ?_⟩
  rcases ho.2 with h2 | ⟨g', cap, cur, h3, h4, h5, h6⟩
  · exact .inl h2
  · refine .inr ⟨g', cap, cur, h3, h4, (heap_setCell_other w ⟨g, j, none⟩ g' u (fun e' => ?_)).trans h5, h6⟩
    subst e'
    have h9 := h5.symm.trans hB.eq
    cases h9
    exact hne rfl
theorem AlFrame_bad (x : Nat → Int) (tow : Int) (w : World) (hw : WdAt w) (h : errPg x ≠ 0) :
    Calls Tryd.prog 16 #[.agg (pgV x), .int .i64 tow] w fun e w' => FrP w.heap.size 0 0 [] (errPg x) e w' ∧ Bw w w' := by
  have HWD := Lib.hid hw
  have CK := Lib.hid (fun W h => PgCheck_any x W h)
  have HBW := Lib.hid (Bw.alloc (Bw.alloc (Bw.refl w) (.cells (pgV x) 27)) (.cells #[.int .i64 0, .int .i64 0, .slice none 0 0] 40))
  have KX := Lib.hid ((Blk.new w 27 (pgV x)).alloc (.cells #[.int .i64 0, .int .i64 0, .slice none 0 0] 40))
  have FX : Hid (Blk ((w.alloc (.cells (pgV x) 27)).alloc (.cells #[.int .i64 0, .int .i64 0, .slice none 0 0] 40)) (w.heap.size + 1) 40 #[.int .i64 0, .int .i64 0, .slice none 0 0]) := Lib.hid (by have h9 := Blk.new (w.alloc (.cells (pgV x) 27)) 40 #[.int .i64 0, .int .i64 0, .slice none 0 0]; simp only [World.size_alloc] at h9; exact h9)
  have HSZ : Hid ((Tryd.prog.info? 27).map (·.size) = some (pgV x).size) := Lib.hid (by kernel_rfl)
  have HAT := Lib.hid (fun k (h : k < 13) => pgV_at x k h)
  have HN := Lib.hid h
  clear h
  generalize errPg x = er at *
  obtain ⟨A, hA⟩ : ∃ A, A = pgV x := ⟨_, rfl⟩
  rw [← hA] at CK HBW KX FX HSZ HAT ⊢
  clear hA hw
  obtain ⟨g, hg⟩ : ∃ g, w.heap.size = g := ⟨_, rfl⟩
  rw [hg] at KX FX
  have HG := Lib.hid hg
  (refine calls_of_marks (w.heap.size) Tryd.func16 rfl ?_; simp only [Tryd.ntmps16, List.size_toArray, List.length_cons, List.length_nil, Nat.reduceAdd, Nat.reduceSub, Array.replicate_succ, Array.replicate_zero, List.push_toArray, List.append_toArray, List.nil_append, List.cons_append])
  go_upto_region 1 with fail
  obtain ⟨W0, hW0⟩ : ∃ W0, (w.alloc (.cells A 27)).alloc (.cells #[.int .i64 0, .int .i64 0, .slice none 0 0] 40) = W0 := ⟨_, rfl⟩
  rw [hW0] at HBW KX FX ⊢
  clear hW0 hg
  go_upto_region 2 with (first | ((with_reducible refine at_load 27 (.tmp 2) ?_); refine wpList_load_row rfl 27 _ rfl g rfl 27 A (0, 0) _ KX.out Tryd.underlying27 rfl HSZ.out ?_) | (go_at_call 22; (with_reducible refine Calls.mono (CK.out _ (HWD.out.bw HBW.out)) ?_); rintro e1 w1 ⟨rfl, hb1⟩; replace KX := Lib.hid (KX.out.bw hb1); replace FX := Lib.hid (FX.out.bw hb1); replace HBW := Lib.hid (HBW.out.trans hb1); clear hb1))
  have c1z : (er != 0) = true := by simpa using HN.out
  go_wp2_with ((with_reducible refine at_store 40 (.tmp 4) (.tmp 16) ?_); refine wpList_store_row rfl 40 (.tmp 4) (.tmp 16) rfl (g + 1) #[.int .i64 0, .int .i64 0, .slice none 0 0] rfl rfl 40 _ FX.out (by kernel_rfl) rfl (by simp [Value.oneCell']) ?_)
  have F9 := FX.out.row #[.int .i64 0, .int .i64 0, .slice none 0 0]
  have B9 := Bw.setRow HBW.out (show w.heap.size ≤ g + 1 by have := HG.out; omega) #[.int .i64 0, .int .i64 0, .slice none 0 0]
  refine ⟨Marks.nil _ _, fun W' hS => ⟨.tuple #[.agg #[.int .i64 0, .int .i64 0, .slice none 0 0], .int .i64 er], ?_, frP_nil _ _ _, Bw.shut B9 hS⟩⟩
  exact results_two_row (p := 4) (u := 5) rfl _ _ (g + 1) _ rfl (run_loadVar_row _ (g + 1) 40 40 #[.int .i64 0, .int .i64 0, .slice none 0 0] (0, 0) _ (F9.shut hS) Tryd.underlying40 rfl (by kernel_rfl))
theorem AlFrame_range (x : Nat → Int) (tow : Int) (w : World) (hw : WdAt w) (h : errPg x = 0) (hr : tow < 0 ∨ 131072 ≤ tow) :
    Calls Tryd.prog 16 #[.agg (pgV x), .int .i64 tow] w fun e w' => FrP w.heap.size 0 0 [] 2 e w' ∧ Bw w w' := by
  have HWD := Lib.hid hw
  have CK := Lib.hid (fun W h => PgCheck_any x W h)
  have HBW := Lib.hid (Bw.alloc (Bw.alloc (Bw.refl w) (.cells (pgV x) 27)) (.cells #[.int .i64 0, .int .i64 0, .slice none 0 0] 40))
  have KX := Lib.hid ((Blk.new w 27 (pgV x)).alloc (.cells #[.int .i64 0, .int .i64 0, .slice none 0 0] 40))
  have FX : Hid (Blk ((w.alloc (.cells (pgV x) 27)).alloc (.cells #[.int .i64 0, .int .i64 0, .slice none 0 0] 40)) (w.heap.size + 1) 40 #[.int .i64 0, .int .i64 0, .slice none 0 0]) := Lib.hid (by have h9 := Blk.new (w.alloc (.cells (pgV x) 27)) 40 #[.int .i64 0, .int .i64 0, .slice none 0 0]; simp only [World.size_alloc] at h9; exact h9)
  have HSZ : Hid ((Tryd.prog.info? 27).map (·.size) = some (pgV x).size) := Lib.hid (by kernel_rfl)
  have HAT := Lib.hid (fun k (h : k < 13) => pgV_at x k h)
  rw [h] at CK
  have HR := Lib.hid hr
  clear h hr
  obtain ⟨A, hA⟩ : ∃ A, A = pgV x := ⟨_, rfl⟩
  rw [← hA] at CK HBW KX FX HSZ HAT ⊢
  clear hA hw
  obtain ⟨g, hg⟩ : ∃ g, w.heap.size = g := ⟨_, rfl⟩
  rw [hg] at KX FX
  have HG := Lib.hid hg
  (refine calls_of_marks (w.heap.size) Tryd.func16 rfl ?_; simp only [Tryd.ntmps16, List.size_toArray, List.length_cons, List.length_nil, Nat.reduceAdd, Nat.reduceSub, Array.replicate_succ, Array.replicate_zero, List.push_toArray, List.append_toArray, List.nil_append, List.cons_append])
  go_upto_region 1 with fail
  obtain ⟨W0, hW0⟩ : ∃ W0, (w.alloc (.cells A 27)).alloc (.cells #[.int .i64 0, .int .i64 0, .slice none 0 0] 40) = W0 := ⟨_, rfl⟩
  rw [hW0] at HBW KX FX ⊢
  clear hW0 hg
  go_upto_region 2 with (first | ((with_reducible refine at_load 27 (.tmp 2) ?_); refine wpList_load_row rfl 27 _ rfl g rfl 27 A (0, 0) _ KX.out Tryd.underlying27 rfl HSZ.out ?_) | (go_at_call 22; (with_reducible refine Calls.mono (CK.out _ (HWD.out.bw HBW.out)) ?_); rintro e1 w1 ⟨rfl, hb1⟩; replace KX := Lib.hid (KX.out.bw hb1); replace FX := Lib.hid (FX.out.bw hb1); replace HBW := Lib.hid (HBW.out.trans hb1); clear hb1))
  rcases HR.out with q1 | q2
  · go_wp2_with ((with_reducible refine at_store 40 (.tmp 4) (.tmp 24) ?_); refine wpList_store_row rfl 40 (.tmp 4) (.tmp 24) rfl (g + 1) #[.int .i64 0, .int .i64 0, .slice none 0 0] rfl rfl 40 _ FX.out (by kernel_rfl) rfl (by simp [Value.oneCell']) ?_)
    have F9 := FX.out.row #[.int .i64 0, .int .i64 0, .slice none 0 0]
    have B9 := Bw.setRow HBW.out (show w.heap.size ≤ g + 1 by have := HG.out; omega) #[.int .i64 0, .int .i64 0, .slice none 0 0]
    refine ⟨Marks.nil _ _, fun W' hS => ⟨.tuple #[.agg #[.int .i64 0, .int .i64 0, .slice none 0 0], .int .i64 2], ?_, frP_nil _ _ _, Bw.shut B9 hS⟩⟩
    exact results_two_row (p := 4) (u := 5) rfl _ _ (g + 1) _ rfl (run_loadVar_row _ (g + 1) 40 40 #[.int .i64 0, .int .i64 0, .slice none 0 0] (0, 0) _ (F9.shut hS) Tryd.underlying40 rfl (by kernel_rfl))
  · have q1 : ¬ tow < 0 := by omega
    go_wp2_with ((with_reducible refine at_store 40 (.tmp 4) (.tmp 24) ?_); refine wpList_store_row rfl 40 (.tmp 4) (.tmp 24) rfl (g + 1) #[.int .i64 0, .int .i64 0, .slice none 0 0] rfl rfl 40 _ FX.out (by kernel_rfl) rfl (by simp [Value.oneCell']) ?_)
    have F9 := FX.out.row #[.int .i64 0, .int .i64 0, .slice none 0 0]
    have B9 := Bw.setRow HBW.out (show w.heap.size ≤ g + 1 by have := HG.out; omega) #[.int .i64 0, .int .i64 0, .slice none 0 0]
    refine ⟨Marks.nil _ _, fun W' hS => ⟨.tuple #[.agg #[.int .i64 0, .int .i64 0, .slice none 0 0], .int .i64 2], ?_, frP_nil _ _ _, Bw.shut B9 hS⟩⟩
    exact results_two_row (p := 4) (u := 5) rfl _ _ (g + 1) _ rfl (run_loadVar_row _ (g + 1) 40 40 #[.int .i64 0, .int .i64 0, .slice none 0 0] (0, 0) _ (F9.shut hS) Tryd.underlying40 rfl (by kernel_rfl))
theorem AlFrame_ok (x : Nat → Int) (tow : Int) (w : World) (hw : WdAt w) (h : errPg x = 0) (hr : 0 ≤ tow ∧ tow < 131072) :
    Calls Tryd.prog 16 #[.agg (pgV x), .int .i64 tow] w fun e w' => FrP w.heap.size tow 4 (packR 206 (fdsS PGL) ((List.range 13).map x)).1 0 e w' ∧ Bw w w' := by
  have HWD := Lib.hid hw
  have CK := Lib.hid (fun W h => PgCheck_any x W h)
  have HBW := Lib.hid (Bw.alloc (Bw.alloc (Bw.refl w) (.cells (pgV x) 27)) (.cells #[.int .i64 0, .int .i64 0, .slice none 0 0] 40))
  have KX := Lib.hid ((Blk.new w 27 (pgV x)).alloc (.cells #[.int .i64 0, .int .i64 0, .slice none 0 0] 40))
  have FX : Hid (Blk ((w.alloc (.cells (pgV x) 27)).alloc (.cells #[.int .i64 0, .int .i64 0, .slice none 0 0] 40)) (w.heap.size + 1) 40 #[.int .i64 0, .int .i64 0, .slice none 0 0]) := Lib.hid (by have h9 := Blk.new (w.alloc (.cells (pgV x) 27)) 40 #[.int .i64 0, .int .i64 0, .slice none 0 0]; simp only [World.size_alloc] at h9; exact h9)
  have HSZ : Hid ((Tryd.prog.info? 27).map (·.size) = some (pgV x).size) := Lib.hid (by kernel_rfl)
  have HAT := Lib.hid (fun k (h : k < 13) => pgV_at x k h)
  rw [h] at CK
  have NM := Lib.hid (fun p W => alNumbers_any p W)
  have FD := Lib.hid (fun W h => alFields_any W h)
  have PK := Lib.hid (fun W vf vv hf hv => Pack_any (fdsS PGL) ((List.range 13).map x) vf vv 206 W hf hv)
  unfold PackP at PK
  generalize hPR : packR 206 (fdsS PGL) ((List.range 13).map x) = PR at *
  obtain ⟨pl, px, py⟩ := PR
  dsimp only at *
  have q1 : ¬ tow < 0 := by omega
  have q2 : ¬ 131072 ≤ tow := by omega
  clear hr h hPR
  obtain ⟨A, hA⟩ : ∃ A, A = pgV x := ⟨_, rfl⟩
  rw [← hA] at CK HBW KX FX HSZ HAT ⊢
  clear hA hw
  obtain ⟨g, hg⟩ : ∃ g, w.heap.size = g := ⟨_, rfl⟩
  rw [hg] at KX FX
  have HG := Lib.hid hg
  (refine calls_of_marks (w.heap.size) Tryd.func16 rfl ?_; simp only [Tryd.ntmps16, List.size_toArray, List.length_cons, List.length_nil, Nat.reduceAdd, Nat.reduceSub, Array.replicate_succ, Array.replicate_zero, List.push_toArray, List.append_toArray, List.nil_append, List.cons_append])
  go_upto_region 1 with fail
  obtain ⟨W0, hW0⟩ : ∃ W0, (w.alloc (.cells A 27)).alloc (.cells #[.int .i64 0, .int .i64 0, .slice none 0 0] 40) = W0 := ⟨_, rfl⟩
  rw [hW0] at HBW KX FX ⊢
  clear hW0 hg
  go_upto_region 2 with (first | ((with_reducible refine at_load 27 (.tmp 2) ?_); refine wpList_load_row rfl 27 _ rfl g rfl 27 A (0, 0) _ KX.out Tryd.underlying27 rfl HSZ.out ?_) | (go_at_call 22; (with_reducible refine Calls.mono (CK.out _ (HWD.out.bw HBW.out)) ?_); rintro e1 w1 ⟨rfl, hb1⟩; replace KX := Lib.hid (KX.out.bw hb1); replace FX := Lib.hid (FX.out.bw hb1); replace HBW := Lib.hid (HBW.out.trans hb1); clear hb1))
  go_wp2_with (go_at_call 41; refine Calls.mono (NM.out _ _) ?_; rintro e2 w2 ⟨rfl, rfl⟩)
  obtain ⟨b1, hb1⟩ : ∃ b1, w1.heap.size = b1 := ⟨_, rfl⟩
  obtain ⟨W2, hW2⟩ : ∃ W2, (w1.alloc (.cells #[.slice none 0 0] 22)).alloc (.cells #[.pointer (some ⟨g, 0, none⟩)] 68) = W2 := ⟨_, rfl⟩
  have hb2 : Bw w1 W2 := by rw [← hW2]; exact (by repeat (first | exact Bw.refl _ | assumption | refine Bw.alloc ?_ _ | refine Bw.drew ?_ | refine Bw.trans ?_ (by assumption) | refine Bw.setCell ?_ (by simp; try omega) _))
  have K7 := Lib.hid (show Blk W2 b1 22 #[.slice none 0 0] from by rw [← hW2, ← hb1]; exact (Blk.new _ _ _).alloc _)
  have KB := Lib.hid (show Blk W2 (b1 + 1) 68 #[.pointer (some ⟨g, 0, none⟩)] from by rw [← hW2, ← hb1]; have h9 := Blk.new (w1.alloc (.cells #[.slice none 0 0] 22)) 68 #[.pointer (some ⟨g, 0, none⟩)]; simpa using h9)
  have HG2 := Lib.hid (show g + 1 < b1 by have := FX.out.lt; omega)
  replace HBW := Lib.hid (HBW.out.trans hb2)
  replace KX := Lib.hid (KX.out.bw hb2)
  replace FX := Lib.hid (FX.out.bw hb2)
  rw [hW2, hb1]
  clear hb2 hW2 hb1
  have HS0 := Lib.hid (show w.heap.size ≤ b1 by have := HG.out; have := HG2.out; omega)
  refine range_numbers g (b1 + 1) KB.out.lt (KB.out.cell rfl) KX.out.lt rfl rfl
    (fun pre W => (∃ v, Blk W b1 22 #[v] ∧ W.ownsRow w.heap.size 3 1 v (pre.map x).length ((pre.map x).map (Value.int .i64))) ∧ Blk W g 27 A ∧ Blk W (g + 1) 40 #[.int .i64 0, .int .i64 0, .slice none 0 0] ∧ Bw w W)
    (fun c _ W => False)
    (fun s X Y row hs hg hr => ⟨hs.1.elim (fun v hv => ⟨v, blkK hv.1 hg hr, ownK hv.2 hg hr⟩), blkK hs.2.1 hg hr, blkK hs.2.2.1 hg hr, bwK hs.2.2.2 HBW.out.size hg hr⟩)
    (fun c s X Y row hs hg hr => hs)
    ⟨⟨_, K7.out, World.ownsRow_nil _ _ _ _⟩, KX.out, FX.out, HBW.out⟩
    (fun y => [(26, .int .i64 y), (27, .pointer (some ⟨g, y, none⟩)), (9, .pointer (some ⟨g, y, none⟩))]) ?assign ?body ?done ?stop
  case assign =>
    intro l y W K hy hK
    gi_wp2
    exact hK
  case body =>
    rintro l pre y W hy hlen ⟨⟨v, hK7, hO⟩, hKX, hFX, hW⟩
    simp only [List.foldl, List.setIfInBounds_toArray, List.set_cons_zero, List.set_cons_succ]
    obtain ⟨va, vc, rfl⟩ := own_form2 hO
    have O1 := Lib.hid hO
    have HPL := Lib.hid (show (pre.map x).length < 13 by rw [List.length_map]; exact hlen)
    have HT := Lib.hid (show (pre ++ [y]).map x = pre.map x ++ [x y] by rw [List.map_append]; rfl)
    have hxy := HAT.out y hy
    have K7 := Lib.hid hK7
    have KX := Lib.hid hKX
    have FX := Lib.hid hFX
    have HB := Lib.hid hW
    have KF := Lib.hid (KeepsFrom.refl W2.heap.size W)
    have KP := Lib.hid (kpP_refl W)
    clear hK7 hO hKX hFX hW
    generalize pre.map x = l1 at O1 HT HPL K7 ⊢
    generalize x y = xy at *
    gi_wp2
    refine wpIn_region_held (S := fun W' => W'.cell? ⟨g, y, none⟩ = some (.int .i64 xy)) (by kernel_rfl) (by kernel_rfl) (fun ⟨_, _, h⟩ => h) ((KX.out.bw (Bw.drew (Bw.refl _))).cell hxy) (fun hS => ?_)
    have hba := Bw.drew (Bw.refl W)
    replace K7 := Lib.hid (K7.out.bw hba); replace KX := Lib.hid (KX.out.bw hba); replace FX := Lib.hid (FX.out.bw hba); replace HB := Lib.hid (HB.out.trans hba); replace O1 := Lib.hid (own_bw O1.out hba); replace KF := Lib.hid (KF.out.trans (KeepsFrom.of_bw hba)); replace KP := Lib.hid (kpP_t KP.out (kpP_bw hba))
    clear hba
    generalize World.drew W = wd at *
    refine take1 (i := 1) (some 29) rfl rfl (by kernel_rfl) (by kernel_rfl) (by kernel_rfl) (fun _ _ _ _ h => h) rfl hS ?_
    apply Exists.intro
    apply And.intro
    · intro W9 hW9; skip; go_simp; try with_reducible rfl
    simp only [Act.put, List.setIfInBounds_toArray, List.set_cons_zero, List.set_cons_succ]
    refine take1 (i := 2) (some 30) rfl rfl (by kernel_rfl) (by kernel_rfl) (by kernel_rfl) (fun _ _ _ _ h => h) rfl hS ?_
    apply Exists.intro
    apply And.intro
    · intro W9 hW9; skip; go_simp; try with_reducible rfl
    simp only [Act.put, List.setIfInBounds_toArray, List.set_cons_zero, List.set_cons_succ]
    refine take1 (i := 3) (some 31) rfl rfl (by kernel_rfl) (by kernel_rfl) (by kernel_rfl) (fun _ _ _ _ h => h) rfl hS ?_
    refine Exists.intro (.int .i64 xy) ?_
    apply And.intro
    · intro W9 hW9; skip; go_simp; (try with_reducible rfl); (try trivial)
    simp only [Act.put, List.setIfInBounds_toArray, List.set_cons_zero, List.set_cons_succ]
    refine wpAnyH_ready (rs := [0, 4]) (by kernel_rfl) (by simp) ?_
    refine AllReadyH.cons rfl (fun K hK => ?_) ?_
    have kb := K7.out.cell (show (#[_] : Array Value)[0]? = _ from rfl)
    go_simp
    clear kb
    refine hK.out _ _ (KX.out.cell hxy) (fun hS => ?_)
    clear hK K
    refine wpAnyH_ready (rs := [4]) (by kernel_rfl) (by simp) ?_
    refine AllReadyH.cons rfl (fun K hK => ?_) ?_
    go_simp
    have hba := Bw.alloc (Bw.refl wd) (.cells #[.int .i64 xy] 3)
    have NB := Lib.hid (Blk.new wd 3 #[.int .i64 xy])
    replace K7 := Lib.hid (K7.out.bw hba); replace KX := Lib.hid (KX.out.bw hba); replace FX := Lib.hid (FX.out.bw hba); replace HB := Lib.hid (HB.out.trans hba); replace O1 := Lib.hid (own_bw O1.out hba); replace KF := Lib.hid (KF.out.trans (KeepsFrom.of_bw hba)); replace KP := Lib.hid (kpP_t KP.out (kpP_bw hba))
    clear hba
    refine hK.out _ _ (KX.out.cell hxy) (fun hS => ?_)
    clear hK K
    generalize World.alloc wd _ = w5 at *
    refine wpAnyH_ready (rs := [5]) (by kernel_rfl) (by simp) ?_
    refine AllReadyH.cons rfl (fun K hK => ?_) ?_
    rw [if_pos (by rfl)]
    refine wp_append_int9 (.tmp 28) (.tmp 32) _ 3 rfl (some 33) rfl w.heap.size Tryd.underlying22 infoInt _ l1 xy rfl O1.out _ rfl (NB.out.cell rfl) (by have := HPL.out; omega) (by have := HB.out.size; omega) ?_
    intro v7 w7 hown hgr
    simp only [Act.put, List.setIfInBounds_toArray, List.set_cons_zero, List.set_cons_succ]
    obtain ⟨va7, vc7, rfl⟩ := own_form2 hown
    have hl : (l1 ++ [xy]).length = l1.length + 1 := by simp
    rw [hl] at hown ⊢
    clear hl
    replace HB := Lib.hid (bw_grownN rfl HB.out O1.out hgr)
    replace K7 := Lib.hid (K7.out.kept O1.out hgr (by decide))
    replace KX := Lib.hid (KX.out.kept O1.out hgr (by decide))
    replace FX := Lib.hid (FX.out.kept O1.out hgr (by decide))
    replace KF := Lib.hid (KF.out.trans (keepsFrom_own O1.out hgr))
    replace KP := Lib.hid (kpP_t KP.out (kpP_own O1.out (by decide) hgr))
    replace O1 := Lib.hid hown
    clear hown hgr NB
    refine hK.out _ _ (KX.out.cell hxy) (fun hS => ?_)
    clear hK K
    refine wpAnyH_ready (rs := [6]) (by kernel_rfl) (by simp) ?_
    refine AllReadyH.cons rfl (fun K hK => ?_) ?_
    have kb := K7.out.cell (show (#[_] : Array Value)[0]? = _ from rfl)
    have kf := K7.out.frozen 0
    go_simp
    clear kb kf
    replace KF := Lib.hid (KF.out.trans ((KeepsOthers.setCell w7 ⟨b1, 0, none⟩ (.slice va7 (l1.length + 1) vc7)).from _))
    replace KP := Lib.hid (kpP_t KP.out (kpP_set K7.out (by decide) 0 (.slice va7 (l1.length + 1) vc7)))
    replace O1 := Lib.hid (own_set O1.out K7.out (by decide) 0 (.slice va7 (l1.length + 1) vc7))
    replace KX := Lib.hid (KX.out.set_other (show g ≠ b1 by have := HG2.out; omega) 0 (.slice va7 (l1.length + 1) vc7))
    replace FX := Lib.hid (FX.out.set_other (show g + 1 ≠ b1 by have := HG2.out; omega) 0 (.slice va7 (l1.length + 1) vc7))
    replace HB := Lib.hid (Bw.setCell HB.out (show w.heap.size ≤ (⟨b1, 0, none⟩ : Addr).block from HS0.out) (.slice va7 (l1.length + 1) vc7))
    replace K7 := Lib.hid (show Blk (w7.setCell ⟨b1, 0, none⟩ (.slice va7 (l1.length + 1) vc7)) b1 22 #[.slice va7 (l1.length + 1) vc7] from K7.out.set 0 _)
    refine hK.out _ _ (KX.out.cell hxy) (fun hS => ?_)
    clear hK K
    refine wpAnyH_done (by kernel_rfl) ?_ _
    rotate_left
    exact AllReadyH.nil
    exact AllReadyH.nil
    exact AllReadyH.nil
    refine AllReadyH.cons rfl (fun K hK => ?_) ?_
    go_simp
    have hba := Bw.alloc (Bw.refl wd) (.cells #[.int .i64 xy] 3)
    have NB := Lib.hid (Blk.new wd 3 #[.int .i64 xy])
    replace K7 := Lib.hid (K7.out.bw hba); replace KX := Lib.hid (KX.out.bw hba); replace FX := Lib.hid (FX.out.bw hba); replace HB := Lib.hid (HB.out.trans hba); replace O1 := Lib.hid (own_bw O1.out hba); replace KF := Lib.hid (KF.out.trans (KeepsFrom.of_bw hba)); replace KP := Lib.hid (kpP_t KP.out (kpP_bw hba))
    clear hba
    refine hK.out _ _ (KX.out.cell hxy) (fun hS => ?_)
    clear hK K
    generalize World.alloc wd _ = w5 at *
    refine wpAnyH_ready (rs := [0]) (by kernel_rfl) (by simp) ?_
    refine AllReadyH.cons rfl (fun K hK => ?_) ?_
    have kb := K7.out.cell (show (#[_] : Array Value)[0]? = _ from rfl)
    go_simp
    clear kb
    refine hK.out _ _ (KX.out.cell hxy) (fun hS => ?_)
    clear hK K
    refine wpAnyH_ready (rs := [5]) (by kernel_rfl) (by simp) ?_
    refine AllReadyH.cons rfl (fun K hK => ?_) ?_
    rw [if_pos (by rfl)]
    refine wp_append_int9 (.tmp 28) (.tmp 32) _ 3 rfl (some 33) rfl w.heap.size Tryd.underlying22 infoInt _ l1 xy rfl O1.out _ rfl (NB.out.cell rfl) (by have := HPL.out; omega) (by have := HB.out.size; omega) ?_
    intro v7 w7 hown hgr
    simp only [Act.put, List.setIfInBounds_toArray, List.set_cons_zero, List.set_cons_succ]
    obtain ⟨va7, vc7, rfl⟩ := own_form2 hown
    have hl : (l1 ++ [xy]).length = l1.length + 1 := by simp
    rw [hl] at hown ⊢
    clear hl
    replace HB := Lib.hid (bw_grownN rfl HB.out O1.out hgr)
    replace K7 := Lib.hid (K7.out.kept O1.out hgr (by decide))
    replace KX := Lib.hid (KX.out.kept O1.out hgr (by decide))
    replace FX := Lib.hid (FX.out.kept O1.out hgr (by decide))
    replace KF := Lib.hid (KF.out.trans (keepsFrom_own O1.out hgr))
    replace KP := Lib.hid (kpP_t KP.out (kpP_own O1.out (by decide) hgr))
    replace O1 := Lib.hid hown
    clear hown hgr NB
    refine hK.out _ _ (KX.out.cell hxy) (fun hS => ?_)
    clear hK K
    refine wpAnyH_ready (rs := [6]) (by kernel_rfl) (by simp) ?_
    refine AllReadyH.cons rfl (fun K hK => ?_) ?_
    have kb := K7.out.cell (show (#[_] : Array Value)[0]? = _ from rfl)
    have kf := K7.out.frozen 0
    go_simp
    clear kb kf
    replace KF := Lib.hid (KF.out.trans ((KeepsOthers.setCell w7 ⟨b1, 0, none⟩ (.slice va7 (l1.length + 1) vc7)).from _))
    replace KP := Lib.hid (kpP_t KP.out (kpP_set K7.out (by decide) 0 (.slice va7 (l1.length + 1) vc7)))
    replace O1 := Lib.hid (own_set O1.out K7.out (by decide) 0 (.slice va7 (l1.length + 1) vc7))
    replace KX := Lib.hid (KX.out.set_other (show g ≠ b1 by have := HG2.out; omega) 0 (.slice va7 (l1.length + 1) vc7))
    replace FX := Lib.hid (FX.out.set_other (show g + 1 ≠ b1 by have := HG2.out; omega) 0 (.slice va7 (l1.length + 1) vc7))
    replace HB := Lib.hid (Bw.setCell HB.out (show w.heap.size ≤ (⟨b1, 0, none⟩ : Addr).block from HS0.out) (.slice va7 (l1.length + 1) vc7))
    replace K7 := Lib.hid (show Blk (w7.setCell ⟨b1, 0, none⟩ (.slice va7 (l1.length + 1) vc7)) b1 22 #[.slice va7 (l1.length + 1) vc7] from K7.out.set 0 _)
    refine hK.out _ _ (KX.out.cell hxy) (fun hS => ?_)
    clear hK K
    refine wpAnyH_done (by kernel_rfl) ?_ _
    rotate_left
    exact AllReadyH.nil
    exact AllReadyH.nil
    exact AllReadyH.nil
    exact AllReadyH.nil
    all_goals
      gi_wp2
      refine ⟨KF.out, KP.out, ⟨_, K7.out, ?_⟩, KX.out, FX.out, HB.out⟩
      have hl : (l1 ++ [xy]).length = l1.length + 1 := by simp
      rw [HT.out, hl]
      exact O1.out
  case done =>
    rintro D W hD ⟨⟨v, hK7, hO⟩, hKX, hFX, hW⟩ hK
    have HV := Lib.hid (own_rd hO (by rw [List.length_map, List.length_range]; decide)).1
    obtain ⟨va0, vc0, rfl⟩ := own_form2 hO
    have HKD := Lib.hid hK
    have HWF := Lib.hid (And.intro hFX hW)
    have K7 := Lib.hid hK7
    have HWS := Lib.hid (show w.heap.size ≤ W.heap.size from hW.size)
    have HDL := Lib.hid (show g + 1 < D by have := HG2.out; have := K7.out.lt; have := KB.out.lt; omega)
    replace HWD := Lib.hid (HWD.out.bw hW)
    clear hK7 hO hKX hFX hW hK hD KX FX HBW
    generalize ((List.range 13).map x).length = vl at *
    obtain ⟨v, hv⟩ : ∃ v : Value, v = .slice va0 vl vc0 := ⟨_, rfl⟩
    go_upto_region 10 with fail
    go_cut [10, 11] from 35 (fun s10 s11 wc => ∃ va vc g11, s10 = .slice va pl.length vc ∧ s11 = .pointer (some ⟨g11, 0, none⟩) ∧ Hid (Bw W wc) ∧ Hid (RdI wc (.slice va pl.length vc) pl ∧ Fresh W.heap.size (.slice va pl.length vc) ∧ Capd (.slice va pl.length vc)))
    case first =>
      rw [← hv] at HV K7
      clear hv
      refine wp_region_held_drew (S := Bw W) (by kernel_rfl) (Bw.drew (Bw.refl _)) (fun hS => ?_)
      generalize World.drew _ = wd at hS ⊢
      refine take1 (i := 1) (some 36) rfl rfl (by kernel_rfl) (by kernel_rfl) (by kernel_rfl) (fun _ _ _ _ h => h) rfl hS ?_
      apply Exists.intro
      apply And.intro
      · intro W9 hW9; have y7 := K7.out.bw hW9; have y8 := y7.cell (show (#[v] : Array Value)[0]? = _ from rfl); go_simp; try with_reducible rfl
      simp only [Act.put, List.setIfInBounds_toArray, List.set_cons_zero, List.set_cons_succ]
      refine wpAnyH_ready (rs := [0, 6]) (by kernel_rfl) (by simp) ?_
      refine AllReadyH.cons rfl (fun K hK => ?_) ?_
      go_simp
      go_wp2_with (go_at_call 43; (with_reducible refine Calls.mono (FD.out _ (HWD.out.bw hS)) ?_); rintro e1 w10 ⟨⟨vf, rfl, hrf, _⟩, hb10⟩)
      have HF := Lib.hid hrf
      clear hrf
      refine hK.out _ _ (hS.trans hb10) (fun hS => ?_)
      clear hK K
      refine wpAnyH_ready (rs := [2, 6]) (by kernel_rfl) (by simp) ?_
      refine AllReadyH.cons rfl (fun K hK => ?_) ?_
      go_simp
      go_wp2_with (go_at_call 42; (with_reducible refine Calls.mono (PK.out _ _ _ HF.out (HV.out.mono hS)) ?_); rintro e1 w13 ⟨⟨vd, rfl, hrd, hfr, hcd⟩, hb13⟩)
      obtain ⟨va, vc, rfl⟩ := hrd.form
      have HRD := Lib.hid (And.intro hrd (And.intro (hfr.mono hS.size) hcd))
      clear hrd hfr hcd
      refine hK.out _ _ (hS.trans hb13) (fun hS => ?_)
      clear hK K
      refine take1 (i := 3) (some 34) rfl rfl (by kernel_rfl) (by kernel_rfl) (by kernel_rfl) (fun _ _ _ _ h => h) rfl hS ?_
      apply Exists.intro
      apply And.intro
      · intro W9 hW9; have y7 := K7.out.bw hW9; have y8 := y7.cell (show (#[v] : Array Value)[0]? = _ from rfl); go_simp; try with_reducible rfl
      simp only [Act.put, List.setIfInBounds_toArray, List.set_cons_zero, List.set_cons_succ]
      refine take1 (i := 4) (some 38) rfl rfl (by kernel_rfl) (by kernel_rfl) (by kernel_rfl) (fun _ _ _ _ h => h) rfl hS ?_
      apply Exists.intro
      apply And.intro
      · intro W9 hW9; have y7 := K7.out.bw hW9; have y8 := y7.cell (show (#[v] : Array Value)[0]? = _ from rfl); go_simp; try with_reducible rfl
      simp only [Act.put, List.setIfInBounds_toArray, List.set_cons_zero, List.set_cons_succ]
      refine take1 (i := 5) (some 39) rfl rfl (by kernel_rfl) (by kernel_rfl) (by kernel_rfl) (fun _ _ _ _ h => h) rfl hS ?_
      apply Exists.intro
      apply And.intro
      · intro W9 hW9; have y7 := K7.out.bw hW9; have y8 := y7.cell (show (#[v] : Array Value)[0]? = _ from rfl); go_simp; try with_reducible rfl
      simp only [Act.put, List.setIfInBounds_toArray, List.set_cons_zero, List.set_cons_succ]
      refine wpAnyH_ready (rs := [6]) (by kernel_rfl) (by simp) ?_
      refine AllReadyH.cons rfl (fun K hK => ?_) ?_
      rw [if_pos (by rfl)]
      refine wp_alloc_new28 71 rfl (some 11) rfl _ (zeroFl _) ?_
      intro g11 w5 hg5 hN hbw
      simp only [Act.put, List.setIfInBounds_toArray, List.set_cons_zero, List.set_cons_succ]
      have NB := Lib.hid hN
      have HG11 := Lib.hid (Nat.le_trans hS.size hg5)
      have NE := Lib.hid (HRD.out.1.off hg5)
      replace HRD := Lib.hid (And.intro (HRD.out.1.mono hbw) HRD.out.2)
      clear hN
      refine hK.out _ _ (hS.trans hbw) (fun hS => ?_)
      clear hK K
      refine take1 (i := 7) (some 10) rfl rfl (by kernel_rfl) (by kernel_rfl) (by kernel_rfl) (fun _ _ _ _ h => h) rfl hS ?_
      apply Exists.intro
      apply And.intro
      · intro W9 hW9; have y7 := K7.out.bw hW9; have y8 := y7.cell (show (#[v] : Array Value)[0]? = _ from rfl); go_simp; try with_reducible rfl
      simp only [Act.put, List.setIfInBounds_toArray, List.set_cons_zero, List.set_cons_succ]
      refine wpAnyH_ready (rs := [8]) (by kernel_rfl) (by simp) ?_
      refine AllReadyH.cons rfl (fun K hK => ?_) ?_
      rw [if_pos (by rfl)]
      refine wp_store_row0 71 _ _ rfl rfl g11 #[.int .i64 px, .int .i64 py] rfl rfl 71 #[.int .i64 0, .int .i64 0] NB.out (by kernel_rfl) rfl (by simp [Value.oneCell']) ?_
      replace HRD := Lib.hid (And.intro (HRD.out.1.rowOff NE.out #[.int .i64 px, .int .i64 py]) HRD.out.2)
      refine hK.out _ _ (Bw.setRow hS HG11.out #[.int .i64 px, .int .i64 py]) (fun hS => ?_)
      clear hK K
      refine wpAnyH_done (by kernel_rfl) ?_ _
      rotate_left
      exact AllReadyH.nil
      exact AllReadyH.nil
      refine AllReadyH.cons rfl (fun K hK => ?_) ?_
      rw [if_pos (by rfl)]
      refine wp_alloc_new28 71 rfl (some 11) rfl _ (zeroFl _) ?_
      intro g11 w5 hg5 hN hbw
      simp only [Act.put, List.setIfInBounds_toArray, List.set_cons_zero, List.set_cons_succ]
      have NB := Lib.hid hN
      have HG11 := Lib.hid (Nat.le_trans hS.size hg5)
      replace HF := Lib.hid (HF.out.mono hbw)
      clear hN
      refine hK.out _ _ (hS.trans hbw) (fun hS => ?_)
      clear hK K
      refine wpAnyH_ready (rs := [2]) (by kernel_rfl) (by simp) ?_
      refine AllReadyH.cons rfl (fun K hK => ?_) ?_
      go_simp
      go_wp2_with (go_at_call 42; (with_reducible refine Calls.mono (PK.out _ _ _ HF.out (HV.out.mono hS)) ?_); rintro e1 w13 ⟨⟨vd, rfl, hrd, hfr, hcd⟩, hb13⟩)
      obtain ⟨va, vc, rfl⟩ := hrd.form
      have NE := Lib.hid (hfr.off (Nat.lt_of_lt_of_le NB.out.lt (Nat.le_refl _)) pl)
      replace NB := Lib.hid (NB.out.bw hb13)
      have HRD := Lib.hid (And.intro hrd (And.intro (hfr.mono hS.size) hcd))
      clear hrd hfr hcd
      refine hK.out _ _ (hS.trans hb13) (fun hS => ?_)
      clear hK K
      refine take1 (i := 3) (some 34) rfl rfl (by kernel_rfl) (by kernel_rfl) (by kernel_rfl) (fun _ _ _ _ h => h) rfl hS ?_
      apply Exists.intro
      apply And.intro
      · intro W9 hW9; have y7 := K7.out.bw hW9; have y8 := y7.cell (show (#[v] : Array Value)[0]? = _ from rfl); go_simp; try with_reducible rfl
      simp only [Act.put, List.setIfInBounds_toArray, List.set_cons_zero, List.set_cons_succ]
      refine take1 (i := 4) (some 38) rfl rfl (by kernel_rfl) (by kernel_rfl) (by kernel_rfl) (fun _ _ _ _ h => h) rfl hS ?_
      apply Exists.intro
      apply And.intro
      · intro W9 hW9; have y7 := K7.out.bw hW9; have y8 := y7.cell (show (#[v] : Array Value)[0]? = _ from rfl); go_simp; try with_reducible rfl
      simp only [Act.put, List.setIfInBounds_toArray, List.set_cons_zero, List.set_cons_succ]
      refine take1 (i := 5) (some 39) rfl rfl (by kernel_rfl) (by kernel_rfl) (by kernel_rfl) (fun _ _ _ _ h => h) rfl hS ?_
      apply Exists.intro
      apply And.intro
      · intro W9 hW9; have y7 := K7.out.bw hW9; have y8 := y7.cell (show (#[v] : Array Value)[0]? = _ from rfl); go_simp; try with_reducible rfl
      simp only [Act.put, List.setIfInBounds_toArray, List.set_cons_zero, List.set_cons_succ]
      refine take1 (i := 7) (some 10) rfl rfl (by kernel_rfl) (by kernel_rfl) (by kernel_rfl) (fun _ _ _ _ h => h) rfl hS ?_
      apply Exists.intro
      apply And.intro
      · intro W9 hW9; have y7 := K7.out.bw hW9; have y8 := y7.cell (show (#[v] : Array Value)[0]? = _ from rfl); go_simp; try with_reducible rfl
      simp only [Act.put, List.setIfInBounds_toArray, List.set_cons_zero, List.set_cons_succ]
      refine wpAnyH_ready (rs := [8]) (by kernel_rfl) (by simp) ?_
      refine AllReadyH.cons rfl (fun K hK => ?_) ?_
      rw [if_pos (by rfl)]
      refine wp_store_row0 71 _ _ rfl rfl g11 #[.int .i64 px, .int .i64 py] rfl rfl 71 #[.int .i64 0, .int .i64 0] NB.out (by kernel_rfl) rfl (by simp [Value.oneCell']) ?_
      replace HRD := Lib.hid (And.intro (HRD.out.1.rowOff NE.out #[.int .i64 px, .int .i64 py]) HRD.out.2)
      refine hK.out _ _ (Bw.setRow hS HG11.out #[.int .i64 px, .int .i64 py]) (fun hS => ?_)
      clear hK K
      refine wpAnyH_done (by kernel_rfl) ?_ _
      rotate_left
      exact AllReadyH.nil
      exact AllReadyH.nil
      exact AllReadyH.nil
      refine AllReadyH.cons rfl (fun K hK => ?_) ?_
      rw [if_pos (by rfl)]
      refine wp_alloc_new28 71 rfl (some 11) rfl _ (zeroFl _) ?_
      intro g11 w5 hg5 hN hbw
      simp only [Act.put, List.setIfInBounds_toArray, List.set_cons_zero, List.set_cons_succ]
      have NB := Lib.hid hN
      have HG11 := Lib.hid (Nat.le_trans hS.size hg5)
      clear hN
      refine hK.out _ _ (hS.trans hbw) (fun hS => ?_)
      clear hK K
      refine wpAnyH_ready (rs := [0]) (by kernel_rfl) (by simp) ?_
      refine AllReadyH.cons rfl (fun K hK => ?_) ?_
      go_simp
      go_wp2_with (go_at_call 43; (with_reducible refine Calls.mono (FD.out _ (HWD.out.bw hS)) ?_); rintro e1 w10 ⟨⟨vf, rfl, hrf, _⟩, hb10⟩)
      have HF := Lib.hid hrf
      clear hrf
      replace NB := Lib.hid (NB.out.bw hb10)
      refine hK.out _ _ (hS.trans hb10) (fun hS => ?_)
      clear hK K
      refine wpAnyH_ready (rs := [2]) (by kernel_rfl) (by simp) ?_
      refine AllReadyH.cons rfl (fun K hK => ?_) ?_
      go_simp
      go_wp2_with (go_at_call 42; (with_reducible refine Calls.mono (PK.out _ _ _ HF.out (HV.out.mono hS)) ?_); rintro e1 w13 ⟨⟨vd, rfl, hrd, hfr, hcd⟩, hb13⟩)
      obtain ⟨va, vc, rfl⟩ := hrd.form
      have NE := Lib.hid (hfr.off (Nat.lt_of_lt_of_le NB.out.lt (Nat.le_refl _)) pl)
      replace NB := Lib.hid (NB.out.bw hb13)
      have HRD := Lib.hid (And.intro hrd (And.intro (hfr.mono hS.size) hcd))
      clear hrd hfr hcd
      refine hK.out _ _ (hS.trans hb13) (fun hS => ?_)
      clear hK K
      refine take1 (i := 3) (some 34) rfl rfl (by kernel_rfl) (by kernel_rfl) (by kernel_rfl) (fun _ _ _ _ h => h) rfl hS ?_
      apply Exists.intro
      apply And.intro
      · intro W9 hW9; have y7 := K7.out.bw hW9; have y8 := y7.cell (show (#[v] : Array Value)[0]? = _ from rfl); go_simp; try with_reducible rfl
      simp only [Act.put, List.setIfInBounds_toArray, List.set_cons_zero, List.set_cons_succ]
      refine take1 (i := 4) (some 38) rfl rfl (by kernel_rfl) (by kernel_rfl) (by kernel_rfl) (fun _ _ _ _ h => h) rfl hS ?_
      apply Exists.intro
      apply And.intro
      · intro W9 hW9; have y7 := K7.out.bw hW9; have y8 := y7.cell (show (#[v] : Array Value)[0]? = _ from rfl); go_simp; try with_reducible rfl
      simp only [Act.put, List.setIfInBounds_toArray, List.set_cons_zero, List.set_cons_succ]
      refine take1 (i := 5) (some 39) rfl rfl (by kernel_rfl) (by kernel_rfl) (by kernel_rfl) (fun _ _ _ _ h => h) rfl hS ?_
      apply Exists.intro
      apply And.intro
      · intro W9 hW9; have y7 := K7.out.bw hW9; have y8 := y7.cell (show (#[v] : Array Value)[0]? = _ from rfl); go_simp; try with_reducible rfl
      simp only [Act.put, List.setIfInBounds_toArray, List.set_cons_zero, List.set_cons_succ]
      refine take1 (i := 7) (some 10) rfl rfl (by kernel_rfl) (by kernel_rfl) (by kernel_rfl) (fun _ _ _ _ h => h) rfl hS ?_
      apply Exists.intro
      apply And.intro
      · intro W9 hW9; have y7 := K7.out.bw hW9; have y8 := y7.cell (show (#[v] : Array Value)[0]? = _ from rfl); go_simp; try with_reducible rfl
      simp only [Act.put, List.setIfInBounds_toArray, List.set_cons_zero, List.set_cons_succ]
      refine wpAnyH_ready (rs := [8]) (by kernel_rfl) (by simp) ?_
      refine AllReadyH.cons rfl (fun K hK => ?_) ?_
      rw [if_pos (by rfl)]
      refine wp_store_row0 71 _ _ rfl rfl g11 #[.int .i64 px, .int .i64 py] rfl rfl 71 #[.int .i64 0, .int .i64 0] NB.out (by kernel_rfl) rfl (by simp [Value.oneCell']) ?_
      replace HRD := Lib.hid (And.intro (HRD.out.1.rowOff NE.out #[.int .i64 px, .int .i64 py]) HRD.out.2)
      refine hK.out _ _ (Bw.setRow hS HG11.out #[.int .i64 px, .int .i64 py]) (fun hS => ?_)
      clear hK K
      refine wpAnyH_done (by kernel_rfl) ?_ _
      rotate_left
      exact AllReadyH.nil
      exact AllReadyH.nil
      exact AllReadyH.nil
      exact AllReadyH.nil
      all_goals
        go_wp2
        go_meet
        exact ⟨va, vc, g11, rfl, rfl, Lib.hid hS, HRD⟩
    case rest =>
      obtain ⟨va, vc, g11, rfl, rfl, hbc, HRD⟩ := hcut
      have HB2 := Lib.hid (HWF.out.2.trans hbc.out)
      have FX := Lib.hid (HWF.out.1.bw hbc.out)
      have HKD2 := Lib.hid ((hbc.out.out.block D (Array.getElem?_eq_some_iff.1 HKD.out).1).trans HKD.out)
      go_wp2_with ((with_reducible refine at_store 40 (.tmp 4) (.tmp 42) ?_); refine wpList_store_row rfl 40 (.tmp 4) (.tmp 42) rfl (g + 1) #[.int .i64 tow, .int .i64 4, .slice va pl.length vc] rfl rfl 40 _ FX.out (by kernel_rfl) rfl (by simp [Value.oneCell']) ?_)
      have F9 := FX.out.row #[.int .i64 tow, .int .i64 4, .slice va pl.length vc]
      have B9 := Bw.setRow HB2.out (show w.heap.size ≤ g + 1 by have := HG.out; omega) #[.int .i64 tow, .int .i64 4, .slice va pl.length vc]
      have R9 := HRD.out.1.rowOff (HRD.out.2.1.off (show g + 1 < W.heap.size from HWF.out.1.lt) pl) #[.int .i64 tow, .int .i64 4, .slice va pl.length vc]
      refine ⟨Marks.one (by have := HDL.out; have := HG.out; omega) ((setRow_other _ _ _ _ (by have := HDL.out; omega)).trans HKD2.out), fun W' hS => ⟨.tuple #[.agg #[.int .i64 tow, .int .i64 4, .slice va pl.length vc], .int .i64 0], ?_, ⟨_, rfl, R9.shut hS, HRD.out.2.1.mono HWS.out, HRD.out.2.2⟩, Bw.shut B9 hS⟩⟩
      exact results_two_row (p := 4) (u := 5) rfl _ _ (g + 1) _ rfl (run_loadVar_row _ (g + 1) 40 40 #[.int .i64 tow, .int .i64 4, .slice va pl.length vc] (0, 0) _ (F9.shut hS) Tryd.underlying40 rfl (by kernel_rfl))
  case stop =>
    rintro D c k W hD _ h _
    exact h.elim
end Go.Proofs.Sky
