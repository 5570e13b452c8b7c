/-
  Proved: the statement EphemMixes. No conditions beyond those written in the statements.
-/
import Derived.Test.YtmfiiocadhdhaaaRows
import Derived.WalkKit
import Derived.ProofKit
import Derived.OpenShut
import Derived.ShutString
import Derived.ChangeOld
import Derived.Below
import Derived.Lib.SmallJoins
import Derived.Test.YtmfiiocadhdhaaaZA26
import Derived.Test.YtmfiiocadhdhaaaAR26
import Derived.SizedLaws
set_option linter.unusedVariables false
set_option linter.unusedSimpArgs false
set_option linter.unnecessarySimpa false
namespace Go.Proofs.Ytmfiiocadhdhaaa.ephemMixes
open Go.ChangeShapes Go.WideShapes Go.ChangeAt Go.RowKit Go.Joins Go.Proofs.Sky
set_option linter.unusedVariables false
theorem own : ownKnob Try.prog.godebug = none := by kernel_rfl
theorem laidOut : laidOutB Try.prog = true := by kernel_rfl
theorem rdI_of_trod_len {H : Type} {enc : TypeId × Value → H} {P : Program} {W : World} {base : Nat} {held : Bool} {t e : TypeId} {a : Option Addr} {len cap : Nat} {d : DataW H} {p : List MemPlace} (ht : P.underlying t = some (.slice e)) (he : P.underlying e = some (.int .i64)) (ce : P.cellsOf e = 1)
    (h : DataW.Trod enc P W base (fun _ => true) held t (.slice a len cap) d p) : ∃ zs : List Int, RdI W (.slice a len cap) zs ∧ (zs = [] ∨ ∃ el sp, d = .slice el sp ∧ zs.length ≤ el.length + sp.length) := by
  obtain ⟨zs, hr⟩ := rdI_of_trod ht he ce h
  refine ⟨zs, hr, ?_⟩
  obtain ⟨a', c', e'⟩ := hr.form
  injection e' with e1 e2 e3
  obtain ⟨fuel, hf⟩ := h
  rcases open_ints ht he ce hf with ⟨hcs, _⟩ | ⟨x, l, c, ys, hcs, _, hl, hm, hz, hd, hcell, hwz⟩
  · simp [Value.cells] at hcs
    exact .inl (List.length_eq_zero_iff.1 (by omega))
  · simp [Value.cells] at hcs
    injection hd with hd1 hd2
    refine .inr ⟨_, _, hd1, ?_⟩
    have hz' : ys.length = c := by simpa using hz
    simp [lits]
    omega

set_option maxRecDepth 100000 in
theorem lifted (os : Os) (started : os.Started) (H : Type) (enc : TypeId × Value → H) :
    ReturnsInHanded {} Try.checked os 8 .any (Rows.ephemMixesSpec.pre6 enc Try.prog Try.f8 Rows.ephemMixesRow.domain false) (Rows.ephemMixesSpec.post enc Try.prog Try.f8 false true false false) := by
  refine returnsInHanded_of_change_sized (C := Try.checked) own started (by kernel_rfl) Try.func8
    (ChangeSpec.witness6 (enc := enc) (C := Try.checked) false ⟨#[], #[.slice none 0 0, .slice none 0 0, .bool false], []⟩ 8 (by kernel_rfl) (by kernel_rfl) (by kernel_rfl) (by kernel_rfl)) ?_
  intro W base args ds gs before hval0 hW hcnd hsz _
  have hval : ∀ (j : Nat) t v, Try.f8.params[j]? = some t → args[j]? = some v → Value.okWide Try.prog W .any base t v := hval0
  have hW' := hW
  obtain ⟨p, q, hA0, hV, rfl, hfz, hnd⟩ := hW
  have hA : DataW.TrodAll enc Try.prog W 0 (fun _ => true) true Try.f8.params.toList args.toList ds p := hA0
  rw [Try.params8] at hA hval
  obtain ⟨v0, vs0, d0, ds0, p0, q0, hargs, rfl, rfl, h0, r0⟩ := trodAll_cons hA
  obtain ⟨v1, vs1, d1, ds1, p1, q1, rfl, rfl, rfl, h1, r1⟩ := trodAll_cons r0
  obtain ⟨v2, vs2, d2, ds2, p2, q2, rfl, rfl, rfl, h2, r2⟩ := trodAll_cons r1
  obtain ⟨rfl, rfl, rfl⟩ := trodAll_nil r2
  obtain rfl : args = #[v0, v1, v2] := by cases args; simp_all
  obtain ⟨rfl, rfl⟩ := trodVars_none hV
  have k0 := h0
  have lt0 : ∀ x ∈ p0, x.block < W.heap.size := by obtain ⟨m, hm⟩ := k0; exact DataW.trod_lt m _ _ _ hm
  have k1 := h1
  have lt1 : ∀ x ∈ p1, x.block < W.heap.size := by obtain ⟨m, hm⟩ := k1; exact DataW.trod_lt m _ _ _ hm
  have k2 := h2
  have lt2 : ∀ x ∈ p2, x.block < W.heap.size := by obtain ⟨m, hm⟩ := k2; exact DataW.trod_lt m _ _ _ hm
  obtain ⟨a0, len0, cap0, rfl⟩ := okWide_slice Try.underlying40 (hval 0 40 v0 rfl rfl)
  obtain ⟨zs0, rd0, hz0⟩ := rdI_of_trod_len Try.underlying40 Try.underlying3 (by kernel_rfl) h0
  have hl0 : zs0.length ≤ 17592186044414 := by
    rcases hz0 with rfl | ⟨el, sp, rfl, hle⟩
    · simp
    · have hrw : (el.length + sp.length) * Try.prog.bytesOf 3 ≤ reachBytes := sized_slice hsz (j := 0) (t := 40) (e := 3) rfl rfl Try.underlying40
      rw [show Try.prog.bytesOf 3 = 8 from by kernel_rfl] at hrw
      unfold reachBytes at hrw
      omega
  obtain ⟨a1, len1, cap1, rfl⟩ := okWide_slice Try.underlying40 (hval 1 40 v1 rfl rfl)
  obtain ⟨zs1, rd1⟩ := rdI_of_trod Try.underlying40 Try.underlying3 (by kernel_rfl) h1
  obtain ⟨x2, rfl⟩ : ∃ x : Bool, v2 = .bool x := by
    obtain ⟨x, e, _, _⟩ := open_bool Try.underlying4 (hval 2 4 v2 rfl rfl) h2
    exact ⟨x, e⟩
  clear hA0 hval0
  refine (law_mixes zs0 zs1 x2 _ _ W rd0 rd1 hl0).mono fun e W' ⟨he, bel⟩ => ?_
  subst he
  exact ⟨_, rfl, _, _, _, [], _, [], hW', trodAll_mk1 (shut_bool Try.underlying4 _), (trodAll_cons_mk (Below.trod laidOut (by kernel_rfl) (of_decide_eq_true (by kernel_rfl)) k0 bel lt0) (trodAll_cons_mk (Below.trod laidOut (by kernel_rfl) (of_decide_eq_true (by kernel_rfl)) k1 bel lt1) (trodAll_cons_mk (Below.trod laidOut (by kernel_rfl) (of_decide_eq_true (by kernel_rfl)) k2 bel lt2) trodAll_mk0))), rfl, bel.out.frame _, fun h => by cases h⟩

theorem over : Rows.ephemMixesRow.holds Try.pinned (OpenSpec.ofChange Rows.ephemMixesSpec) :=
  OpenClaim.holds_of_wide 8 Try.f8 rfl rfl rfl rfl rfl rfl rfl ⟨rfl, rfl, rfl, rfl, rfl⟩ rfl rfl rfl rfl rfl (by kernel_rfl) Try.func8 (by kernel_rfl)
    (of_decide_eq_true (by kernel_rfl)) (by unfold Func.isWrapper; first | (rw [if_pos (by decide +kernel)]; kernel_rfl) | (rw [if_neg (by decide +kernel)]; exact ⟨rfl, rfl⟩))
    (fun os started H enc _ => lifted os started H enc)
theorem proved : Rows.EphemMixesSaid := over
#print axioms proved
end Go.Proofs.Ytmfiiocadhdhaaa.ephemMixes
