/-
  No cell of these rows narrows 'for every input' (looked for: loops, veiled, ifaces, maps, wideKeys, modest, calm, conditions, laid).
  DERIVED. THE GIVEN ROWS OF THIS SEAT. 6 by the template 'for every input the law returns true; each argument reads behind the call as it read before'; 0 by the template 'total and deterministic' (their statements: YtiohoallllkagaaTotals.lean).
  GIVEN WITH THE SEED: the statements are not yours to turn. If you find one false, say at which input.
  Laid BY PROGRAM, IN A SANDBOX (cutbox-rows.mjs): the forced cells as the released guide's own fill.sh prints them over the translation d734fe60dbcb58e8… (all of the seat's roots in one cut). By AI agents, Wed Nov 11 2026. No macro, syntax, notation, axiom, sorry.
-/
import Derived.Test.YtiohoallllkagaaChecked
import GoSem.Claim
import GoSem.ClaimJoined
import GoSem.ClaimMapViews
import Derived.JoinedTies
import Derived.KernelRfl
namespace Go.Proofs.Ytiohoallllkagaa
/- THE CELL 'sum', in the pinned program and in every row, IS THE sha256 OF THE DUMP (.gsa) THAT YtiohoallllkagaaProg.lean LOADS. Nothing in Lean hashes anything: it is a label: what it is worth is what the hold of that sum in a sandbox is worth. -/
noncomputable def Try.pinned : Pinned := { name := "ytiohoallllkagaa", sum := "d734fe60dbcb58e8d5507d1f2096500528ed102ba5d1af7df94a4df9562f689d", checked := Try.checked }
namespace Rows
def none {H : Type} : Left H := { results := [], args := [] }

/-- 'skyfixlaw31.AtmosDelays': WHATEVER THE INPUT: true; the input reads as it did. -/
def atmosDelaysSpec : ChangeSpec := { name := "atmosDelays", fn := fun _ => fun
  | [d1, d2] => { results := [.lit (.bool true)], args := [d1, d2] }
  | _ => none }
def atmosDelaysRow : OpenClaim := { program := "ytiohoallllkagaa", sum := "d734fe60dbcb58e8d5507d1f2096500528ed102ba5d1af7df94a4df9562f689d", func := "skyfix/skyfixlaw31.AtmosDelays", spec := "atmosDelays", inPlace := ["math/bits.Add64", "math/bits.Sub64"], unfollowed := true, recurses := true, apart := false }
def AtmosDelaysSaid : Prop := atmosDelaysRow.holds Try.pinned (OpenSpec.ofChange atmosDelaysSpec)

/-- ITS FALSE NEIGHBOUR: 'it returns false'. Refute it at one input. -/
def atmosDelaysWrong : ChangeSpec := { name := "atmosDelays", fn := fun _ => fun
  | [d1, d2] => { results := [.lit (.bool false)], args := [d1, d2] }
  | _ => none }
def AtmosDelaysWrongFalsely : Prop := atmosDelaysRow.holds Try.pinned (OpenSpec.ofChange atmosDelaysWrong)

/-- 'skyfixlaw31.AtmosCorrects': WHATEVER THE INPUT: true; the input reads as it did. -/
def atmosCorrectsSpec : ChangeSpec := { name := "atmosCorrects", fn := fun _ => fun
  | [d1, d2, d3, d4, d5] => { results := [.lit (.bool true)], args := [d1, d2, d3, d4, d5] }
  | _ => none }
def atmosCorrectsRow : OpenClaim := { program := "ytiohoallllkagaa", sum := "d734fe60dbcb58e8d5507d1f2096500528ed102ba5d1af7df94a4df9562f689d", func := "skyfix/skyfixlaw31.AtmosCorrects", spec := "atmosCorrects", inPlace := ["math/bits.Add64", "math/bits.Sub64"], unfollowed := true, recurses := true, apart := false }
def AtmosCorrectsSaid : Prop := atmosCorrectsRow.holds Try.pinned (OpenSpec.ofChange atmosCorrectsSpec)

/-- ITS FALSE NEIGHBOUR: 'it returns false'. Refute it at one input. -/
def atmosCorrectsWrong : ChangeSpec := { name := "atmosCorrects", fn := fun _ => fun
  | [d1, d2, d3, d4, d5] => { results := [.lit (.bool false)], args := [d1, d2, d3, d4, d5] }
  | _ => none }
def AtmosCorrectsWrongFalsely : Prop := atmosCorrectsRow.holds Try.pinned (OpenSpec.ofChange atmosCorrectsWrong)

/-- 'skyfixlaw31.AtmosReads': WHATEVER THE INPUT: true; the input reads as it did. -/
def atmosReadsSpec : ChangeSpec := { name := "atmosReads", fn := fun _ => fun
  | [d1, d2, d3] => { results := [.lit (.bool true)], args := [d1, d2, d3] }
  | _ => none }
def atmosReadsRow : OpenClaim := { program := "ytiohoallllkagaa", sum := "d734fe60dbcb58e8d5507d1f2096500528ed102ba5d1af7df94a4df9562f689d", func := "skyfix/skyfixlaw31.AtmosReads", spec := "atmosReads", inPlace := ["math/bits.Add64", "math/bits.Sub64"], unfollowed := true, recurses := true, apart := false }
def AtmosReadsSaid : Prop := atmosReadsRow.holds Try.pinned (OpenSpec.ofChange atmosReadsSpec)

/-- ITS FALSE NEIGHBOUR: 'it returns false'. Refute it at one input. -/
def atmosReadsWrong : ChangeSpec := { name := "atmosReads", fn := fun _ => fun
  | [d1, d2, d3] => { results := [.lit (.bool false)], args := [d1, d2, d3] }
  | _ => none }
def AtmosReadsWrongFalsely : Prop := atmosReadsRow.holds Try.pinned (OpenSpec.ofChange atmosReadsWrong)

/-- 'skyfixlaw31.AtmosKnown': WHATEVER THE INPUT: true; the input reads as it did. -/
def atmosKnownSpec : ChangeSpec := { name := "atmosKnown", fn := fun _ => fun
  | [] => { results := [.lit (.bool true)], args := [] }
  | _ => none }
def atmosKnownRow : OpenClaim := { program := "ytiohoallllkagaa", sum := "d734fe60dbcb58e8d5507d1f2096500528ed102ba5d1af7df94a4df9562f689d", func := "skyfix/skyfixlaw31.AtmosKnown", spec := "atmosKnown", inPlace := ["math/bits.Add64", "math/bits.Sub64"], unfollowed := true, recurses := true, apart := false }
def AtmosKnownSaid : Prop := atmosKnownRow.holds Try.pinned (OpenSpec.ofChange atmosKnownSpec)

/-- ITS FALSE NEIGHBOUR: 'it returns false'. Refute it at one input. -/
def atmosKnownWrong : ChangeSpec := { name := "atmosKnown", fn := fun _ => fun
  | [] => { results := [.lit (.bool false)], args := [] }
  | _ => none }
def AtmosKnownWrongFalsely : Prop := atmosKnownRow.holds Try.pinned (OpenSpec.ofChange atmosKnownWrong)

/-- 'skyfixlaw31.AtmosTrue': WHATEVER THE INPUT: true; the input reads as it did. -/
def atmosTrueSpec : ChangeSpec := { name := "atmosTrue", fn := fun _ => fun
  | [d1, d2, d3, d4, d5] => { results := [.lit (.bool true)], args := [d1, d2, d3, d4, d5] }
  | _ => none }
def atmosTrueRow : OpenClaim := { program := "ytiohoallllkagaa", sum := "d734fe60dbcb58e8d5507d1f2096500528ed102ba5d1af7df94a4df9562f689d", func := "skyfix/skyfixlaw31.AtmosTrue", spec := "atmosTrue", inPlace := ["math/bits.Add64", "math/bits.Sub64"], unfollowed := true, recurses := true, apart := false }
def AtmosTrueSaid : Prop := atmosTrueRow.holds Try.pinned (OpenSpec.ofChange atmosTrueSpec)

/-- ITS FALSE NEIGHBOUR: 'it returns false'. Refute it at one input. -/
def atmosTrueWrong : ChangeSpec := { name := "atmosTrue", fn := fun _ => fun
  | [d1, d2, d3, d4, d5] => { results := [.lit (.bool false)], args := [d1, d2, d3, d4, d5] }
  | _ => none }
def AtmosTrueWrongFalsely : Prop := atmosTrueRow.holds Try.pinned (OpenSpec.ofChange atmosTrueWrong)

/-- 'skyfixlaw31.AtmosSlopes': WHATEVER THE INPUT: true; the input reads as it did. -/
def atmosSlopesSpec : ChangeSpec := { name := "atmosSlopes", fn := fun _ => fun
  | [d1, d2, d3, d4] => { results := [.lit (.bool true)], args := [d1, d2, d3, d4] }
  | _ => none }
def atmosSlopesRow : OpenClaim := { program := "ytiohoallllkagaa", sum := "d734fe60dbcb58e8d5507d1f2096500528ed102ba5d1af7df94a4df9562f689d", func := "skyfix/skyfixlaw31.AtmosSlopes", spec := "atmosSlopes", inPlace := ["math/bits.Add64", "math/bits.Sub64"], unfollowed := true, recurses := true, apart := false }
def AtmosSlopesSaid : Prop := atmosSlopesRow.holds Try.pinned (OpenSpec.ofChange atmosSlopesSpec)

/-- ITS FALSE NEIGHBOUR: 'it returns false'. Refute it at one input. -/
def atmosSlopesWrong : ChangeSpec := { name := "atmosSlopes", fn := fun _ => fun
  | [d1, d2, d3, d4] => { results := [.lit (.bool false)], args := [d1, d2, d3, d4] }
  | _ => none }
def AtmosSlopesWrongFalsely : Prop := atmosSlopesRow.holds Try.pinned (OpenSpec.ofChange atmosSlopesWrong)

/- THE SECOND FORM. 'bulk': how many values and letters a reading holds, each counted each time it is reached (what is shared counts as often as it is met; a slice's spare places count too). A statement '..UptoSaid' is the law's where the arguments, and the package variables that the reading takes, are together of bulk at most 1048576: NARROWER than '..Said'. Prove '..Said' where nothing that the law and all that it calls make is longer than what came in: it says more and counts as full. Else prove '..UptoSaid'. A law counts once. -/
mutual
def uptoBulk {H : Type} : DataW H → Nat
  | .lit (.string bytes) => bytes.length + 1
  | .lit _ => 1
  | .nil => 1
  | .ptr d => uptoBulk d + 1
  | .slice elems spare => uptoBulkAll elems + uptoBulkAll spare + 1
  | .agg parts => uptoBulkAll parts + 1
  | .iface _ d => uptoBulk d + 1
  | .map entries => uptoBulkEntries entries + 1
  | .held _ => 1
def uptoBulkAll {H : Type} : List (DataW H) → Nat
  | [] => 0
  | d :: r => uptoBulk d + uptoBulkAll r
def uptoBulkEntries {H : Type} : List (Lit × DataW H) → Nat
  | [] => 0
  | x :: r => uptoBulkEntry x + uptoBulkEntries r
def uptoBulkEntry {H : Type} : Lit × DataW H → Nat
  | (.string bytes, d) => bytes.length + uptoBulk d + 1
  | (_, d) => uptoBulk d + 1
 end
def uptoSmall : (H : Type) → List (DataW H) → Bool := fun _ ds => decide (uptoBulkAll ds ≤ 1048576)
def OpenSpec.upto (s : _root_.Go.ChangeSpec) : _root_.Go.OpenSpec := { _root_.Go.OpenSpec.ofChange s with cond := some uptoSmall }

/-- 'skyfixlaw31.AtmosDelays', WHERE WHAT IT READS IS OF BULK AT MOST 1048576: true; the input reads as it did. -/
def atmosDelaysUptoRow : OpenClaim := { program := "ytiohoallllkagaa", sum := "d734fe60dbcb58e8d5507d1f2096500528ed102ba5d1af7df94a4df9562f689d", func := "skyfix/skyfixlaw31.AtmosDelays", spec := "atmosDelays", inPlace := ["math/bits.Add64", "math/bits.Sub64"], unfollowed := true, recurses := true, apart := false, narrowed := true }
def AtmosDelaysUptoSaid : Prop := atmosDelaysUptoRow.holds Try.pinned (OpenSpec.upto atmosDelaysSpec)

/-- 'skyfixlaw31.AtmosCorrects', WHERE WHAT IT READS IS OF BULK AT MOST 1048576: true; the input reads as it did. -/
def atmosCorrectsUptoRow : OpenClaim := { program := "ytiohoallllkagaa", sum := "d734fe60dbcb58e8d5507d1f2096500528ed102ba5d1af7df94a4df9562f689d", func := "skyfix/skyfixlaw31.AtmosCorrects", spec := "atmosCorrects", inPlace := ["math/bits.Add64", "math/bits.Sub64"], unfollowed := true, recurses := true, apart := false, narrowed := true }
def AtmosCorrectsUptoSaid : Prop := atmosCorrectsUptoRow.holds Try.pinned (OpenSpec.upto atmosCorrectsSpec)

/-- 'skyfixlaw31.AtmosReads', WHERE WHAT IT READS IS OF BULK AT MOST 1048576: true; the input reads as it did. -/
def atmosReadsUptoRow : OpenClaim := { program := "ytiohoallllkagaa", sum := "d734fe60dbcb58e8d5507d1f2096500528ed102ba5d1af7df94a4df9562f689d", func := "skyfix/skyfixlaw31.AtmosReads", spec := "atmosReads", inPlace := ["math/bits.Add64", "math/bits.Sub64"], unfollowed := true, recurses := true, apart := false, narrowed := true }
def AtmosReadsUptoSaid : Prop := atmosReadsUptoRow.holds Try.pinned (OpenSpec.upto atmosReadsSpec)

/-- 'skyfixlaw31.AtmosKnown', WHERE WHAT IT READS IS OF BULK AT MOST 1048576: true; the input reads as it did. -/
def atmosKnownUptoRow : OpenClaim := { program := "ytiohoallllkagaa", sum := "d734fe60dbcb58e8d5507d1f2096500528ed102ba5d1af7df94a4df9562f689d", func := "skyfix/skyfixlaw31.AtmosKnown", spec := "atmosKnown", inPlace := ["math/bits.Add64", "math/bits.Sub64"], unfollowed := true, recurses := true, apart := false, narrowed := true }
def AtmosKnownUptoSaid : Prop := atmosKnownUptoRow.holds Try.pinned (OpenSpec.upto atmosKnownSpec)

/-- 'skyfixlaw31.AtmosTrue', WHERE WHAT IT READS IS OF BULK AT MOST 1048576: true; the input reads as it did. -/
def atmosTrueUptoRow : OpenClaim := { program := "ytiohoallllkagaa", sum := "d734fe60dbcb58e8d5507d1f2096500528ed102ba5d1af7df94a4df9562f689d", func := "skyfix/skyfixlaw31.AtmosTrue", spec := "atmosTrue", inPlace := ["math/bits.Add64", "math/bits.Sub64"], unfollowed := true, recurses := true, apart := false, narrowed := true }
def AtmosTrueUptoSaid : Prop := atmosTrueUptoRow.holds Try.pinned (OpenSpec.upto atmosTrueSpec)

/-- 'skyfixlaw31.AtmosSlopes', WHERE WHAT IT READS IS OF BULK AT MOST 1048576: true; the input reads as it did. -/
def atmosSlopesUptoRow : OpenClaim := { program := "ytiohoallllkagaa", sum := "d734fe60dbcb58e8d5507d1f2096500528ed102ba5d1af7df94a4df9562f689d", func := "skyfix/skyfixlaw31.AtmosSlopes", spec := "atmosSlopes", inPlace := ["math/bits.Add64", "math/bits.Sub64"], unfollowed := true, recurses := true, apart := false, narrowed := true }
def AtmosSlopesUptoSaid : Prop := atmosSlopesUptoRow.holds Try.pinned (OpenSpec.upto atmosSlopesSpec)

end Rows
end Go.Proofs.Ytiohoallllkagaa
