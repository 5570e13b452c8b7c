/-
  No cell of these rows narrows 'for every input' (looked for: loops, veiled, ifaces, maps, wideKeys, modest, calm, conditions, laid).
  DERIVED. THE GIVEN ROWS OF THIS SEAT. 6 by the template 'for every input the law returns true; each argument reads behind the call as it read before'; 0 by the template 'total and deterministic' (their statements: YtmfiiocadhdhaaaTotals.lean).
  GIVEN WITH THE SEED: the statements are not yours to turn. If you find one false, say at which input.
  Laid BY PROGRAM, IN A SANDBOX (cutbox-rows.mjs): the forced cells as the released guide's own fill.sh prints them over the translation 53ca01eedeb03b18… (all of the seat's roots in one cut). By AI agents, Wed Nov 11 2026. No macro, syntax, notation, axiom, sorry.
-/
import Derived.Test.YtmfiiocadhdhaaaChecked
import GoSem.Claim
import GoSem.ClaimJoined
import GoSem.ClaimMapViews
import Derived.JoinedTies
import Derived.KernelRfl
namespace Go.Proofs.Ytmfiiocadhdhaaa
/- THE CELL 'sum', in the pinned program and in every row, IS THE sha256 OF THE DUMP (.gsa) THAT YtmfiiocadhdhaaaProg.lean LOADS. Nothing in Lean hashes anything: it is a label: what it is worth is what the hold of that sum in a sandbox is worth. -/
noncomputable def Try.pinned : Pinned := { name := "ytmfiiocadhdhaaa", sum := "53ca01eedeb03b1888b39ca0fc1f5c54b1cddd2928237eb66360494758204990", checked := Try.checked }
namespace Rows
def none {H : Type} : Left H := { results := [], args := [] }

/-- 'skyfixlaw26.EphemChecks': WHATEVER THE INPUT: true; the input reads as it did. -/
def ephemChecksSpec : ChangeSpec := { name := "ephemChecks", fn := fun _ => fun
  | [d1, d2, d3] => { results := [.lit (.bool true)], args := [d1, d2, d3] }
  | _ => none }
def ephemChecksRow : OpenClaim := { program := "ytmfiiocadhdhaaa", sum := "53ca01eedeb03b1888b39ca0fc1f5c54b1cddd2928237eb66360494758204990", func := "skyfix/skyfixlaw26.EphemChecks", spec := "ephemChecks", unfollowed := true, recurses := true, apart := false }
def EphemChecksSaid : Prop := ephemChecksRow.holds Try.pinned (OpenSpec.ofChange ephemChecksSpec)

/-- ITS FALSE NEIGHBOUR: 'it returns false'. Refute it at one input. -/
def ephemChecksWrong : ChangeSpec := { name := "ephemChecks", fn := fun _ => fun
  | [d1, d2, d3] => { results := [.lit (.bool false)], args := [d1, d2, d3] }
  | _ => none }
def EphemChecksWrongFalsely : Prop := ephemChecksRow.holds Try.pinned (OpenSpec.ofChange ephemChecksWrong)

/-- 'skyfixlaw26.EphemReads': WHATEVER THE INPUT: true; the input reads as it did. -/
def ephemReadsSpec : ChangeSpec := { name := "ephemReads", fn := fun _ => fun
  | [d] => { results := [.lit (.bool true)], args := [d] }
  | _ => none }
def ephemReadsRow : OpenClaim := { program := "ytmfiiocadhdhaaa", sum := "53ca01eedeb03b1888b39ca0fc1f5c54b1cddd2928237eb66360494758204990", func := "skyfix/skyfixlaw26.EphemReads", spec := "ephemReads", unfollowed := true, recurses := true, apart := false }
def EphemReadsSaid : Prop := ephemReadsRow.holds Try.pinned (OpenSpec.ofChange ephemReadsSpec)

/-- ITS FALSE NEIGHBOUR: 'it returns false'. Refute it at one input. -/
def ephemReadsWrong : ChangeSpec := { name := "ephemReads", fn := fun _ => fun
  | [d] => { results := [.lit (.bool false)], args := [d] }
  | _ => none }
def EphemReadsWrongFalsely : Prop := ephemReadsRow.holds Try.pinned (OpenSpec.ofChange ephemReadsWrong)

/-- 'skyfixlaw26.EphemAdds': WHATEVER THE INPUT: true; the input reads as it did. -/
def ephemAddsSpec : ChangeSpec := { name := "ephemAdds", fn := fun _ => fun
  | [d1, d2] => { results := [.lit (.bool true)], args := [d1, d2] }
  | _ => none }
def ephemAddsRow : OpenClaim := { program := "ytmfiiocadhdhaaa", sum := "53ca01eedeb03b1888b39ca0fc1f5c54b1cddd2928237eb66360494758204990", func := "skyfix/skyfixlaw26.EphemAdds", spec := "ephemAdds", unfollowed := true, recurses := true, apart := false }
def EphemAddsSaid : Prop := ephemAddsRow.holds Try.pinned (OpenSpec.ofChange ephemAddsSpec)

/-- ITS FALSE NEIGHBOUR: 'it returns false'. Refute it at one input. -/
def ephemAddsWrong : ChangeSpec := { name := "ephemAdds", fn := fun _ => fun
  | [d1, d2] => { results := [.lit (.bool false)], args := [d1, d2] }
  | _ => none }
def EphemAddsWrongFalsely : Prop := ephemAddsRow.holds Try.pinned (OpenSpec.ofChange ephemAddsWrong)

/-- 'skyfixlaw26.EphemKnown': WHATEVER THE INPUT: true; the input reads as it did. -/
def ephemKnownSpec : ChangeSpec := { name := "ephemKnown", fn := fun _ => fun
  | [] => { results := [.lit (.bool true)], args := [] }
  | _ => none }
def ephemKnownRow : OpenClaim := { program := "ytmfiiocadhdhaaa", sum := "53ca01eedeb03b1888b39ca0fc1f5c54b1cddd2928237eb66360494758204990", func := "skyfix/skyfixlaw26.EphemKnown", spec := "ephemKnown", unfollowed := true, recurses := true, apart := false }
def EphemKnownSaid : Prop := ephemKnownRow.holds Try.pinned (OpenSpec.ofChange ephemKnownSpec)

/-- ITS FALSE NEIGHBOUR: 'it returns false'. Refute it at one input. -/
def ephemKnownWrong : ChangeSpec := { name := "ephemKnown", fn := fun _ => fun
  | [] => { results := [.lit (.bool false)], args := [] }
  | _ => none }
def EphemKnownWrongFalsely : Prop := ephemKnownRow.holds Try.pinned (OpenSpec.ofChange ephemKnownWrong)

/-- 'skyfixlaw26.EphemBack': WHATEVER THE INPUT: true; the input reads as it did. -/
def ephemBackSpec : ChangeSpec := { name := "ephemBack", fn := fun _ => fun
  | [d1, d2, d3] => { results := [.lit (.bool true)], args := [d1, d2, d3] }
  | _ => none }
def ephemBackRow : OpenClaim := { program := "ytmfiiocadhdhaaa", sum := "53ca01eedeb03b1888b39ca0fc1f5c54b1cddd2928237eb66360494758204990", func := "skyfix/skyfixlaw26.EphemBack", spec := "ephemBack", unfollowed := true, recurses := true, apart := false }
def EphemBackSaid : Prop := ephemBackRow.holds Try.pinned (OpenSpec.ofChange ephemBackSpec)

/-- ITS FALSE NEIGHBOUR: 'it returns false'. Refute it at one input. -/
def ephemBackWrong : ChangeSpec := { name := "ephemBack", fn := fun _ => fun
  | [d1, d2, d3] => { results := [.lit (.bool false)], args := [d1, d2, d3] }
  | _ => none }
def EphemBackWrongFalsely : Prop := ephemBackRow.holds Try.pinned (OpenSpec.ofChange ephemBackWrong)

/-- 'skyfixlaw26.EphemMixes': WHATEVER THE INPUT: true; the input reads as it did. -/
def ephemMixesSpec : ChangeSpec := { name := "ephemMixes", fn := fun _ => fun
  | [d1, d2, d3] => { results := [.lit (.bool true)], args := [d1, d2, d3] }
  | _ => none }
def ephemMixesRow : OpenClaim := { program := "ytmfiiocadhdhaaa", sum := "53ca01eedeb03b1888b39ca0fc1f5c54b1cddd2928237eb66360494758204990", func := "skyfix/skyfixlaw26.EphemMixes", spec := "ephemMixes", unfollowed := true, recurses := true, apart := false }
def EphemMixesSaid : Prop := ephemMixesRow.holds Try.pinned (OpenSpec.ofChange ephemMixesSpec)

/-- ITS FALSE NEIGHBOUR: 'it returns false'. Refute it at one input. -/
def ephemMixesWrong : ChangeSpec := { name := "ephemMixes", fn := fun _ => fun
  | [d1, d2, d3] => { results := [.lit (.bool false)], args := [d1, d2, d3] }
  | _ => none }
def EphemMixesWrongFalsely : Prop := ephemMixesRow.holds Try.pinned (OpenSpec.ofChange ephemMixesWrong)

/- THE SECOND FORM. 'bulk': how many values and letters a reading holds, each counted each time it is reached (what is shared counts as often as it is met; a slice's spare places count too). A statement '..UptoSaid' is the law's where the arguments, and the package variables that the reading takes, are together of bulk at most 1048576: NARROWER than '..Said'. Prove '..Said' where nothing that the law and all that it calls make is longer than what came in: it says more and counts as full. Else prove '..UptoSaid'. A law counts once. -/
mutual
def uptoBulk {H : Type} : DataW H → Nat
  | .lit (.string bytes) => bytes.length + 1
  | .lit _ => 1
  | .nil => 1
  | .ptr d => uptoBulk d + 1
  | .slice elems spare => uptoBulkAll elems + uptoBulkAll spare + 1
  | .agg parts => uptoBulkAll parts + 1
  | .iface _ d => uptoBulk d + 1
  | .map entries => uptoBulkEntries entries + 1
  | .held _ => 1
def uptoBulkAll {H : Type} : List (DataW H) → Nat
  | [] => 0
  | d :: r => uptoBulk d + uptoBulkAll r
def uptoBulkEntries {H : Type} : List (Lit × DataW H) → Nat
  | [] => 0
  | x :: r => uptoBulkEntry x + uptoBulkEntries r
def uptoBulkEntry {H : Type} : Lit × DataW H → Nat
  | (.string bytes, d) => bytes.length + uptoBulk d + 1
  | (_, d) => uptoBulk d + 1
 end
def uptoSmall : (H : Type) → List (DataW H) → Bool := fun _ ds => decide (uptoBulkAll ds ≤ 1048576)
def OpenSpec.upto (s : _root_.Go.ChangeSpec) : _root_.Go.OpenSpec := { _root_.Go.OpenSpec.ofChange s with cond := some uptoSmall }

/-- 'skyfixlaw26.EphemChecks', WHERE WHAT IT READS IS OF BULK AT MOST 1048576: true; the input reads as it did. -/
def ephemChecksUptoRow : OpenClaim := { program := "ytmfiiocadhdhaaa", sum := "53ca01eedeb03b1888b39ca0fc1f5c54b1cddd2928237eb66360494758204990", func := "skyfix/skyfixlaw26.EphemChecks", spec := "ephemChecks", unfollowed := true, recurses := true, apart := false, narrowed := true }
def EphemChecksUptoSaid : Prop := ephemChecksUptoRow.holds Try.pinned (OpenSpec.upto ephemChecksSpec)

/-- 'skyfixlaw26.EphemReads', WHERE WHAT IT READS IS OF BULK AT MOST 1048576: true; the input reads as it did. -/
def ephemReadsUptoRow : OpenClaim := { program := "ytmfiiocadhdhaaa", sum := "53ca01eedeb03b1888b39ca0fc1f5c54b1cddd2928237eb66360494758204990", func := "skyfix/skyfixlaw26.EphemReads", spec := "ephemReads", unfollowed := true, recurses := true, apart := false, narrowed := true }
def EphemReadsUptoSaid : Prop := ephemReadsUptoRow.holds Try.pinned (OpenSpec.upto ephemReadsSpec)

/-- 'skyfixlaw26.EphemAdds', WHERE WHAT IT READS IS OF BULK AT MOST 1048576: true; the input reads as it did. -/
def ephemAddsUptoRow : OpenClaim := { program := "ytmfiiocadhdhaaa", sum := "53ca01eedeb03b1888b39ca0fc1f5c54b1cddd2928237eb66360494758204990", func := "skyfix/skyfixlaw26.EphemAdds", spec := "ephemAdds", unfollowed := true, recurses := true, apart := false, narrowed := true }
def EphemAddsUptoSaid : Prop := ephemAddsUptoRow.holds Try.pinned (OpenSpec.upto ephemAddsSpec)

/-- 'skyfixlaw26.EphemKnown', WHERE WHAT IT READS IS OF BULK AT MOST 1048576: true; the input reads as it did. -/
def ephemKnownUptoRow : OpenClaim := { program := "ytmfiiocadhdhaaa", sum := "53ca01eedeb03b1888b39ca0fc1f5c54b1cddd2928237eb66360494758204990", func := "skyfix/skyfixlaw26.EphemKnown", spec := "ephemKnown", unfollowed := true, recurses := true, apart := false, narrowed := true }
def EphemKnownUptoSaid : Prop := ephemKnownUptoRow.holds Try.pinned (OpenSpec.upto ephemKnownSpec)

/-- 'skyfixlaw26.EphemBack', WHERE WHAT IT READS IS OF BULK AT MOST 1048576: true; the input reads as it did. -/
def ephemBackUptoRow : OpenClaim := { program := "ytmfiiocadhdhaaa", sum := "53ca01eedeb03b1888b39ca0fc1f5c54b1cddd2928237eb66360494758204990", func := "skyfix/skyfixlaw26.EphemBack", spec := "ephemBack", unfollowed := true, recurses := true, apart := false, narrowed := true }
def EphemBackUptoSaid : Prop := ephemBackUptoRow.holds Try.pinned (OpenSpec.upto ephemBackSpec)

/-- 'skyfixlaw26.EphemMixes', WHERE WHAT IT READS IS OF BULK AT MOST 1048576: true; the input reads as it did. -/
def ephemMixesUptoRow : OpenClaim := { program := "ytmfiiocadhdhaaa", sum := "53ca01eedeb03b1888b39ca0fc1f5c54b1cddd2928237eb66360494758204990", func := "skyfix/skyfixlaw26.EphemMixes", spec := "ephemMixes", unfollowed := true, recurses := true, apart := false, narrowed := true }
def EphemMixesUptoSaid : Prop := ephemMixesUptoRow.holds Try.pinned (OpenSpec.upto ephemMixesSpec)

end Rows
end Go.Proofs.Ytmfiiocadhdhaaa
