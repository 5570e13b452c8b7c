/-
  No cell of these rows narrows 'for every input' (looked for: loops, veiled, ifaces, maps, wideKeys, modest, calm, conditions, laid).
  DERIVED. THE GIVEN ROWS OF THIS SEAT. 6 by the template 'for every input the law returns true; each argument reads behind the call as it read before'; 0 by the template 'total and deterministic' (their statements: YtcbkjfakedngbaaTotals.lean).
  GIVEN WITH THE SEED: the statements are not yours to turn. If you find one false, say at which input.
  Laid BY PROGRAM, IN A SANDBOX (cutbox-rows.mjs): the forced cells as the released guide's own fill.sh prints them over the translation 9b13afc16cae49b9… (all of the seat's roots in one cut). By AI agents, Wed Nov 11 2026. No macro, syntax, notation, axiom, sorry.
-/
import Derived.Test.YtcbkjfakedngbaaChecked
import GoSem.Claim
import GoSem.ClaimJoined
import GoSem.ClaimMapViews
import Derived.JoinedTies
import Derived.KernelRfl
namespace Go.Proofs.Ytcbkjfakedngbaa
/- THE CELL 'sum', in the pinned program and in every row, IS THE sha256 OF THE DUMP (.gsa) THAT YtcbkjfakedngbaaProg.lean LOADS. Nothing in Lean hashes anything: it is a label: what it is worth is what the hold of that sum in a sandbox is worth. -/
noncomputable def Try.pinned : Pinned := { name := "ytcbkjfakedngbaa", sum := "9b13afc16cae49b93e02b774479fd80ba5a358f275782e8f3c37a66175844082", checked := Try.checked }
namespace Rows
def none {H : Type} : Left H := { results := [], args := [] }

/-- 'skyfixlaw25.FieldPuts': WHATEVER THE INPUT: true; the input reads as it did. -/
def fieldPutsSpec : ChangeSpec := { name := "fieldPuts", fn := fun _ => fun
  | [d1, d2, d3] => { results := [.lit (.bool true)], args := [d1, d2, d3] }
  | _ => none }
def fieldPutsRow : OpenClaim := { program := "ytcbkjfakedngbaa", sum := "9b13afc16cae49b93e02b774479fd80ba5a358f275782e8f3c37a66175844082", func := "skyfix/skyfixlaw25.FieldPuts", spec := "fieldPuts", unfollowed := true, recurses := true, apart := false }
def FieldPutsSaid : Prop := fieldPutsRow.holds Try.pinned (OpenSpec.ofChange fieldPutsSpec)

/-- ITS FALSE NEIGHBOUR: 'it returns false'. Refute it at one input. -/
def fieldPutsWrong : ChangeSpec := { name := "fieldPuts", fn := fun _ => fun
  | [d1, d2, d3] => { results := [.lit (.bool false)], args := [d1, d2, d3] }
  | _ => none }
def FieldPutsWrongFalsely : Prop := fieldPutsRow.holds Try.pinned (OpenSpec.ofChange fieldPutsWrong)

/-- 'skyfixlaw25.FieldBack': WHATEVER THE INPUT: true; the input reads as it did. -/
def fieldBackSpec : ChangeSpec := { name := "fieldBack", fn := fun _ => fun
  | [d1, d2] => { results := [.lit (.bool true)], args := [d1, d2] }
  | _ => none }
def fieldBackRow : OpenClaim := { program := "ytcbkjfakedngbaa", sum := "9b13afc16cae49b93e02b774479fd80ba5a358f275782e8f3c37a66175844082", func := "skyfix/skyfixlaw25.FieldBack", spec := "fieldBack", unfollowed := true, recurses := true, apart := false }
def FieldBackSaid : Prop := fieldBackRow.holds Try.pinned (OpenSpec.ofChange fieldBackSpec)

/-- ITS FALSE NEIGHBOUR: 'it returns false'. Refute it at one input. -/
def fieldBackWrong : ChangeSpec := { name := "fieldBack", fn := fun _ => fun
  | [d1, d2] => { results := [.lit (.bool false)], args := [d1, d2] }
  | _ => none }
def FieldBackWrongFalsely : Prop := fieldBackRow.holds Try.pinned (OpenSpec.ofChange fieldBackWrong)

/-- 'skyfixlaw25.FieldLayouts': WHATEVER THE INPUT: true; the input reads as it did. -/
def fieldLayoutsSpec : ChangeSpec := { name := "fieldLayouts", fn := fun _ => fun
  | [d1, d2] => { results := [.lit (.bool true)], args := [d1, d2] }
  | _ => none }
def fieldLayoutsRow : OpenClaim := { program := "ytcbkjfakedngbaa", sum := "9b13afc16cae49b93e02b774479fd80ba5a358f275782e8f3c37a66175844082", func := "skyfix/skyfixlaw25.FieldLayouts", spec := "fieldLayouts", unfollowed := true, recurses := true, apart := false }
def FieldLayoutsSaid : Prop := fieldLayoutsRow.holds Try.pinned (OpenSpec.ofChange fieldLayoutsSpec)

/-- ITS FALSE NEIGHBOUR: 'it returns false'. Refute it at one input. -/
def fieldLayoutsWrong : ChangeSpec := { name := "fieldLayouts", fn := fun _ => fun
  | [d1, d2] => { results := [.lit (.bool false)], args := [d1, d2] }
  | _ => none }
def FieldLayoutsWrongFalsely : Prop := fieldLayoutsRow.holds Try.pinned (OpenSpec.ofChange fieldLayoutsWrong)

/-- 'skyfixlaw25.FieldPacks': WHATEVER THE INPUT: true; the input reads as it did. -/
def fieldPacksSpec : ChangeSpec := { name := "fieldPacks", fn := fun _ => fun
  | [d1, d2, d3, d4] => { results := [.lit (.bool true)], args := [d1, d2, d3, d4] }
  | _ => none }
def fieldPacksRow : OpenClaim := { program := "ytcbkjfakedngbaa", sum := "9b13afc16cae49b93e02b774479fd80ba5a358f275782e8f3c37a66175844082", func := "skyfix/skyfixlaw25.FieldPacks", spec := "fieldPacks", unfollowed := true, recurses := true, apart := false }
def FieldPacksSaid : Prop := fieldPacksRow.holds Try.pinned (OpenSpec.ofChange fieldPacksSpec)

/-- ITS FALSE NEIGHBOUR: 'it returns false'. Refute it at one input. -/
def fieldPacksWrong : ChangeSpec := { name := "fieldPacks", fn := fun _ => fun
  | [d1, d2, d3, d4] => { results := [.lit (.bool false)], args := [d1, d2, d3, d4] }
  | _ => none }
def FieldPacksWrongFalsely : Prop := fieldPacksRow.holds Try.pinned (OpenSpec.ofChange fieldPacksWrong)

/-- 'skyfixlaw25.FieldKnown': WHATEVER THE INPUT: true; the input reads as it did. -/
def fieldKnownSpec : ChangeSpec := { name := "fieldKnown", fn := fun _ => fun
  | [] => { results := [.lit (.bool true)], args := [] }
  | _ => none }
def fieldKnownRow : OpenClaim := { program := "ytcbkjfakedngbaa", sum := "9b13afc16cae49b93e02b774479fd80ba5a358f275782e8f3c37a66175844082", func := "skyfix/skyfixlaw25.FieldKnown", spec := "fieldKnown", unfollowed := true, recurses := true, apart := false }
def FieldKnownSaid : Prop := fieldKnownRow.holds Try.pinned (OpenSpec.ofChange fieldKnownSpec)

/-- ITS FALSE NEIGHBOUR: 'it returns false'. Refute it at one input. -/
def fieldKnownWrong : ChangeSpec := { name := "fieldKnown", fn := fun _ => fun
  | [] => { results := [.lit (.bool false)], args := [] }
  | _ => none }
def FieldKnownWrongFalsely : Prop := fieldKnownRow.holds Try.pinned (OpenSpec.ofChange fieldKnownWrong)

/-- 'skyfixlaw25.FieldOrders': WHATEVER THE INPUT: true; the input reads as it did. -/
def fieldOrdersSpec : ChangeSpec := { name := "fieldOrders", fn := fun _ => fun
  | [d1, d2] => { results := [.lit (.bool true)], args := [d1, d2] }
  | _ => none }
def fieldOrdersRow : OpenClaim := { program := "ytcbkjfakedngbaa", sum := "9b13afc16cae49b93e02b774479fd80ba5a358f275782e8f3c37a66175844082", func := "skyfix/skyfixlaw25.FieldOrders", spec := "fieldOrders", unfollowed := true, recurses := true, apart := false }
def FieldOrdersSaid : Prop := fieldOrdersRow.holds Try.pinned (OpenSpec.ofChange fieldOrdersSpec)

/-- ITS FALSE NEIGHBOUR: 'it returns false'. Refute it at one input. -/
def fieldOrdersWrong : ChangeSpec := { name := "fieldOrders", fn := fun _ => fun
  | [d1, d2] => { results := [.lit (.bool false)], args := [d1, d2] }
  | _ => none }
def FieldOrdersWrongFalsely : Prop := fieldOrdersRow.holds Try.pinned (OpenSpec.ofChange fieldOrdersWrong)

/- THE SECOND FORM. 'bulk': how many values and letters a reading holds, each counted each time it is reached (what is shared counts as often as it is met; a slice's spare places count too). A statement '..UptoSaid' is the law's where the arguments, and the package variables that the reading takes, are together of bulk at most 1048576: NARROWER than '..Said'. Prove '..Said' where nothing that the law and all that it calls make is longer than what came in: it says more and counts as full. Else prove '..UptoSaid'. A law counts once. -/
mutual
def uptoBulk {H : Type} : DataW H → Nat
  | .lit (.string bytes) => bytes.length + 1
  | .lit _ => 1
  | .nil => 1
  | .ptr d => uptoBulk d + 1
  | .slice elems spare => uptoBulkAll elems + uptoBulkAll spare + 1
  | .agg parts => uptoBulkAll parts + 1
  | .iface _ d => uptoBulk d + 1
  | .map entries => uptoBulkEntries entries + 1
  | .held _ => 1
def uptoBulkAll {H : Type} : List (DataW H) → Nat
  | [] => 0
  | d :: r => uptoBulk d + uptoBulkAll r
def uptoBulkEntries {H : Type} : List (Lit × DataW H) → Nat
  | [] => 0
  | x :: r => uptoBulkEntry x + uptoBulkEntries r
def uptoBulkEntry {H : Type} : Lit × DataW H → Nat
  | (.string bytes, d) => bytes.length + uptoBulk d + 1
  | (_, d) => uptoBulk d + 1
 end
def uptoSmall : (H : Type) → List (DataW H) → Bool := fun _ ds => decide (uptoBulkAll ds ≤ 1048576)
def OpenSpec.upto (s : _root_.Go.ChangeSpec) : _root_.Go.OpenSpec := { _root_.Go.OpenSpec.ofChange s with cond := some uptoSmall }

/-- 'skyfixlaw25.FieldPuts', WHERE WHAT IT READS IS OF BULK AT MOST 1048576: true; the input reads as it did. -/
def fieldPutsUptoRow : OpenClaim := { program := "ytcbkjfakedngbaa", sum := "9b13afc16cae49b93e02b774479fd80ba5a358f275782e8f3c37a66175844082", func := "skyfix/skyfixlaw25.FieldPuts", spec := "fieldPuts", unfollowed := true, recurses := true, apart := false, narrowed := true }
def FieldPutsUptoSaid : Prop := fieldPutsUptoRow.holds Try.pinned (OpenSpec.upto fieldPutsSpec)

/-- 'skyfixlaw25.FieldBack', WHERE WHAT IT READS IS OF BULK AT MOST 1048576: true; the input reads as it did. -/
def fieldBackUptoRow : OpenClaim := { program := "ytcbkjfakedngbaa", sum := "9b13afc16cae49b93e02b774479fd80ba5a358f275782e8f3c37a66175844082", func := "skyfix/skyfixlaw25.FieldBack", spec := "fieldBack", unfollowed := true, recurses := true, apart := false, narrowed := true }
def FieldBackUptoSaid : Prop := fieldBackUptoRow.holds Try.pinned (OpenSpec.upto fieldBackSpec)

/-- 'skyfixlaw25.FieldLayouts', WHERE WHAT IT READS IS OF BULK AT MOST 1048576: true; the input reads as it did. -/
def fieldLayoutsUptoRow : OpenClaim := { program := "ytcbkjfakedngbaa", sum := "9b13afc16cae49b93e02b774479fd80ba5a358f275782e8f3c37a66175844082", func := "skyfix/skyfixlaw25.FieldLayouts", spec := "fieldLayouts", unfollowed := true, recurses := true, apart := false, narrowed := true }
def FieldLayoutsUptoSaid : Prop := fieldLayoutsUptoRow.holds Try.pinned (OpenSpec.upto fieldLayoutsSpec)

/-- 'skyfixlaw25.FieldPacks', WHERE WHAT IT READS IS OF BULK AT MOST 1048576: true; the input reads as it did. -/
def fieldPacksUptoRow : OpenClaim := { program := "ytcbkjfakedngbaa", sum := "9b13afc16cae49b93e02b774479fd80ba5a358f275782e8f3c37a66175844082", func := "skyfix/skyfixlaw25.FieldPacks", spec := "fieldPacks", unfollowed := true, recurses := true, apart := false, narrowed := true }
def FieldPacksUptoSaid : Prop := fieldPacksUptoRow.holds Try.pinned (OpenSpec.upto fieldPacksSpec)

/-- 'skyfixlaw25.FieldKnown', WHERE WHAT IT READS IS OF BULK AT MOST 1048576: true; the input reads as it did. -/
def fieldKnownUptoRow : OpenClaim := { program := "ytcbkjfakedngbaa", sum := "9b13afc16cae49b93e02b774479fd80ba5a358f275782e8f3c37a66175844082", func := "skyfix/skyfixlaw25.FieldKnown", spec := "fieldKnown", unfollowed := true, recurses := true, apart := false, narrowed := true }
def FieldKnownUptoSaid : Prop := fieldKnownUptoRow.holds Try.pinned (OpenSpec.upto fieldKnownSpec)

/-- 'skyfixlaw25.FieldOrders', WHERE WHAT IT READS IS OF BULK AT MOST 1048576: true; the input reads as it did. -/
def fieldOrdersUptoRow : OpenClaim := { program := "ytcbkjfakedngbaa", sum := "9b13afc16cae49b93e02b774479fd80ba5a358f275782e8f3c37a66175844082", func := "skyfix/skyfixlaw25.FieldOrders", spec := "fieldOrders", unfollowed := true, recurses := true, apart := false, narrowed := true }
def FieldOrdersUptoSaid : Prop := fieldOrdersUptoRow.holds Try.pinned (OpenSpec.upto fieldOrdersSpec)

end Rows
end Go.Proofs.Ytcbkjfakedngbaa
