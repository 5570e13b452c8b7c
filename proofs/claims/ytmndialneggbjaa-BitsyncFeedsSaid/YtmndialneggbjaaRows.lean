/-
  No cell of these rows narrows 'for every input' (looked for: loops, veiled, ifaces, maps, wideKeys, modest, calm, conditions, laid).
  DERIVED. THE GIVEN ROWS OF THIS SEAT. 6 by the template 'for every input the law returns true; each argument reads behind the call as it read before'; 0 by the template 'total and deterministic' (their statements: YtmndialneggbjaaTotals.lean).
  GIVEN WITH THE SEED: the statements are not yours to turn. If you find one false, say at which input.
  Laid BY PROGRAM, IN A SANDBOX (cutbox-rows.mjs): the forced cells as the released guide's own fill.sh prints them over the translation 497b48b0118a832b… (all of the seat's roots in one cut). By AI agents, Wed Nov 11 2026. No macro, syntax, notation, axiom, sorry.
-/
import Derived.Test.YtmndialneggbjaaChecked
import GoSem.Claim
import GoSem.ClaimJoined
import GoSem.ClaimMapViews
import Derived.JoinedTies
import Derived.KernelRfl
namespace Go.Proofs.Ytmndialneggbjaa
/- THE CELL 'sum', in the pinned program and in every row, IS THE sha256 OF THE DUMP (.gsa) THAT YtmndialneggbjaaProg.lean LOADS. Nothing in Lean hashes anything: it is a label: what it is worth is what the hold of that sum in a sandbox is worth. -/
noncomputable def Try.pinned : Pinned := { name := "ytmndialneggbjaa", sum := "497b48b0118a832bc704d6181733888763fa4533e46491404f247f7d6e10ac81", checked := Try.checked }
namespace Rows
def none {H : Type} : Left H := { results := [], args := [] }

/-- 'skyfixlaw21.BitsyncReads': WHATEVER THE INPUT: true; the input reads as it did. -/
def bitsyncReadsSpec : ChangeSpec := { name := "bitsyncReads", fn := fun _ => fun
  | [d1, d2, d3] => { results := [.lit (.bool true)], args := [d1, d2, d3] }
  | _ => none }
def bitsyncReadsRow : OpenClaim := { program := "ytmndialneggbjaa", sum := "497b48b0118a832bc704d6181733888763fa4533e46491404f247f7d6e10ac81", func := "skyfix/skyfixlaw21.BitsyncReads", spec := "bitsyncReads", unfollowed := true, recurses := true, apart := false }
def BitsyncReadsSaid : Prop := bitsyncReadsRow.holds Try.pinned (OpenSpec.ofChange bitsyncReadsSpec)

/-- ITS FALSE NEIGHBOUR: 'it returns false'. Refute it at one input. -/
def bitsyncReadsWrong : ChangeSpec := { name := "bitsyncReads", fn := fun _ => fun
  | [d1, d2, d3] => { results := [.lit (.bool false)], args := [d1, d2, d3] }
  | _ => none }
def BitsyncReadsWrongFalsely : Prop := bitsyncReadsRow.holds Try.pinned (OpenSpec.ofChange bitsyncReadsWrong)

/-- 'skyfixlaw21.BitsyncKnown': WHATEVER THE INPUT: true; the input reads as it did. -/
def bitsyncKnownSpec : ChangeSpec := { name := "bitsyncKnown", fn := fun _ => fun
  | [] => { results := [.lit (.bool true)], args := [] }
  | _ => none }
def bitsyncKnownRow : OpenClaim := { program := "ytmndialneggbjaa", sum := "497b48b0118a832bc704d6181733888763fa4533e46491404f247f7d6e10ac81", func := "skyfix/skyfixlaw21.BitsyncKnown", spec := "bitsyncKnown", unfollowed := true, recurses := true, apart := false }
def BitsyncKnownSaid : Prop := bitsyncKnownRow.holds Try.pinned (OpenSpec.ofChange bitsyncKnownSpec)

/-- ITS FALSE NEIGHBOUR: 'it returns false'. Refute it at one input. -/
def bitsyncKnownWrong : ChangeSpec := { name := "bitsyncKnown", fn := fun _ => fun
  | [] => { results := [.lit (.bool false)], args := [] }
  | _ => none }
def BitsyncKnownWrongFalsely : Prop := bitsyncKnownRow.holds Try.pinned (OpenSpec.ofChange bitsyncKnownWrong)

/-- 'skyfixlaw21.BitsyncParts': WHATEVER THE INPUT: true; the input reads as it did. -/
def bitsyncPartsSpec : ChangeSpec := { name := "bitsyncParts", fn := fun _ => fun
  | [d1, d2, d3] => { results := [.lit (.bool true)], args := [d1, d2, d3] }
  | _ => none }
def bitsyncPartsRow : OpenClaim := { program := "ytmndialneggbjaa", sum := "497b48b0118a832bc704d6181733888763fa4533e46491404f247f7d6e10ac81", func := "skyfix/skyfixlaw21.BitsyncParts", spec := "bitsyncParts", unfollowed := true, recurses := true, apart := false }
def BitsyncPartsSaid : Prop := bitsyncPartsRow.holds Try.pinned (OpenSpec.ofChange bitsyncPartsSpec)

/-- ITS FALSE NEIGHBOUR: 'it returns false'. Refute it at one input. -/
def bitsyncPartsWrong : ChangeSpec := { name := "bitsyncParts", fn := fun _ => fun
  | [d1, d2, d3] => { results := [.lit (.bool false)], args := [d1, d2, d3] }
  | _ => none }
def BitsyncPartsWrongFalsely : Prop := bitsyncPartsRow.holds Try.pinned (OpenSpec.ofChange bitsyncPartsWrong)

/-- 'skyfixlaw21.BitsyncTurned': WHATEVER THE INPUT: true; the input reads as it did. -/
def bitsyncTurnedSpec : ChangeSpec := { name := "bitsyncTurned", fn := fun _ => fun
  | [d1, d2, d3, d4] => { results := [.lit (.bool true)], args := [d1, d2, d3, d4] }
  | _ => none }
def bitsyncTurnedRow : OpenClaim := { program := "ytmndialneggbjaa", sum := "497b48b0118a832bc704d6181733888763fa4533e46491404f247f7d6e10ac81", func := "skyfix/skyfixlaw21.BitsyncTurned", spec := "bitsyncTurned", unfollowed := true, recurses := true, apart := false }
def BitsyncTurnedSaid : Prop := bitsyncTurnedRow.holds Try.pinned (OpenSpec.ofChange bitsyncTurnedSpec)

/-- ITS FALSE NEIGHBOUR: 'it returns false'. Refute it at one input. -/
def bitsyncTurnedWrong : ChangeSpec := { name := "bitsyncTurned", fn := fun _ => fun
  | [d1, d2, d3, d4] => { results := [.lit (.bool false)], args := [d1, d2, d3, d4] }
  | _ => none }
def BitsyncTurnedWrongFalsely : Prop := bitsyncTurnedRow.holds Try.pinned (OpenSpec.ofChange bitsyncTurnedWrong)

/-- 'skyfixlaw21.BitsyncRight': WHATEVER THE INPUT: true; the input reads as it did. -/
def bitsyncRightSpec : ChangeSpec := { name := "bitsyncRight", fn := fun _ => fun
  | [d1, d2, d3, d4, d5] => { results := [.lit (.bool true)], args := [d1, d2, d3, d4, d5] }
  | _ => none }
def bitsyncRightRow : OpenClaim := { program := "ytmndialneggbjaa", sum := "497b48b0118a832bc704d6181733888763fa4533e46491404f247f7d6e10ac81", func := "skyfix/skyfixlaw21.BitsyncRight", spec := "bitsyncRight", unfollowed := true, recurses := true, apart := false }
def BitsyncRightSaid : Prop := bitsyncRightRow.holds Try.pinned (OpenSpec.ofChange bitsyncRightSpec)

/-- ITS FALSE NEIGHBOUR: 'it returns false'. Refute it at one input. -/
def bitsyncRightWrong : ChangeSpec := { name := "bitsyncRight", fn := fun _ => fun
  | [d1, d2, d3, d4, d5] => { results := [.lit (.bool false)], args := [d1, d2, d3, d4, d5] }
  | _ => none }
def BitsyncRightWrongFalsely : Prop := bitsyncRightRow.holds Try.pinned (OpenSpec.ofChange bitsyncRightWrong)

/-- 'skyfixlaw21.BitsyncFeeds': WHATEVER THE INPUT: true; the input reads as it did. -/
def bitsyncFeedsSpec : ChangeSpec := { name := "bitsyncFeeds", fn := fun _ => fun
  | [d1, d2, d3, d4] => { results := [.lit (.bool true)], args := [d1, d2, d3, d4] }
  | _ => none }
def bitsyncFeedsRow : OpenClaim := { program := "ytmndialneggbjaa", sum := "497b48b0118a832bc704d6181733888763fa4533e46491404f247f7d6e10ac81", func := "skyfix/skyfixlaw21.BitsyncFeeds", spec := "bitsyncFeeds", unfollowed := true, recurses := true, apart := false }
def BitsyncFeedsSaid : Prop := bitsyncFeedsRow.holds Try.pinned (OpenSpec.ofChange bitsyncFeedsSpec)

/-- ITS FALSE NEIGHBOUR: 'it returns false'. Refute it at one input. -/
def bitsyncFeedsWrong : ChangeSpec := { name := "bitsyncFeeds", fn := fun _ => fun
  | [d1, d2, d3, d4] => { results := [.lit (.bool false)], args := [d1, d2, d3, d4] }
  | _ => none }
def BitsyncFeedsWrongFalsely : Prop := bitsyncFeedsRow.holds Try.pinned (OpenSpec.ofChange bitsyncFeedsWrong)

/- THE SECOND FORM. 'bulk': how many values and letters a reading holds, each counted each time it is reached (what is shared counts as often as it is met; a slice's spare places count too). A statement '..UptoSaid' is the law's where the arguments, and the package variables that the reading takes, are together of bulk at most 1048576: NARROWER than '..Said'. Prove '..Said' where nothing that the law and all that it calls make is longer than what came in: it says more and counts as full. Else prove '..UptoSaid'. A law counts once. -/
mutual
def uptoBulk {H : Type} : DataW H → Nat
  | .lit (.string bytes) => bytes.length + 1
  | .lit _ => 1
  | .nil => 1
  | .ptr d => uptoBulk d + 1
  | .slice elems spare => uptoBulkAll elems + uptoBulkAll spare + 1
  | .agg parts => uptoBulkAll parts + 1
  | .iface _ d => uptoBulk d + 1
  | .map entries => uptoBulkEntries entries + 1
  | .held _ => 1
def uptoBulkAll {H : Type} : List (DataW H) → Nat
  | [] => 0
  | d :: r => uptoBulk d + uptoBulkAll r
def uptoBulkEntries {H : Type} : List (Lit × DataW H) → Nat
  | [] => 0
  | x :: r => uptoBulkEntry x + uptoBulkEntries r
def uptoBulkEntry {H : Type} : Lit × DataW H → Nat
  | (.string bytes, d) => bytes.length + uptoBulk d + 1
  | (_, d) => uptoBulk d + 1
 end
def uptoSmall : (H : Type) → List (DataW H) → Bool := fun _ ds => decide (uptoBulkAll ds ≤ 1048576)
def OpenSpec.upto (s : _root_.Go.ChangeSpec) : _root_.Go.OpenSpec := { _root_.Go.OpenSpec.ofChange s with cond := some uptoSmall }

/-- 'skyfixlaw21.BitsyncReads', WHERE WHAT IT READS IS OF BULK AT MOST 1048576: true; the input reads as it did. -/
def bitsyncReadsUptoRow : OpenClaim := { program := "ytmndialneggbjaa", sum := "497b48b0118a832bc704d6181733888763fa4533e46491404f247f7d6e10ac81", func := "skyfix/skyfixlaw21.BitsyncReads", spec := "bitsyncReads", unfollowed := true, recurses := true, apart := false, narrowed := true }
def BitsyncReadsUptoSaid : Prop := bitsyncReadsUptoRow.holds Try.pinned (OpenSpec.upto bitsyncReadsSpec)

/-- 'skyfixlaw21.BitsyncKnown', WHERE WHAT IT READS IS OF BULK AT MOST 1048576: true; the input reads as it did. -/
def bitsyncKnownUptoRow : OpenClaim := { program := "ytmndialneggbjaa", sum := "497b48b0118a832bc704d6181733888763fa4533e46491404f247f7d6e10ac81", func := "skyfix/skyfixlaw21.BitsyncKnown", spec := "bitsyncKnown", unfollowed := true, recurses := true, apart := false, narrowed := true }
def BitsyncKnownUptoSaid : Prop := bitsyncKnownUptoRow.holds Try.pinned (OpenSpec.upto bitsyncKnownSpec)

/-- 'skyfixlaw21.BitsyncParts', WHERE WHAT IT READS IS OF BULK AT MOST 1048576: true; the input reads as it did. -/
def bitsyncPartsUptoRow : OpenClaim := { program := "ytmndialneggbjaa", sum := "497b48b0118a832bc704d6181733888763fa4533e46491404f247f7d6e10ac81", func := "skyfix/skyfixlaw21.BitsyncParts", spec := "bitsyncParts", unfollowed := true, recurses := true, apart := false, narrowed := true }
def BitsyncPartsUptoSaid : Prop := bitsyncPartsUptoRow.holds Try.pinned (OpenSpec.upto bitsyncPartsSpec)

/-- 'skyfixlaw21.BitsyncTurned', WHERE WHAT IT READS IS OF BULK AT MOST 1048576: true; the input reads as it did. -/
def bitsyncTurnedUptoRow : OpenClaim := { program := "ytmndialneggbjaa", sum := "497b48b0118a832bc704d6181733888763fa4533e46491404f247f7d6e10ac81", func := "skyfix/skyfixlaw21.BitsyncTurned", spec := "bitsyncTurned", unfollowed := true, recurses := true, apart := false, narrowed := true }
def BitsyncTurnedUptoSaid : Prop := bitsyncTurnedUptoRow.holds Try.pinned (OpenSpec.upto bitsyncTurnedSpec)

/-- 'skyfixlaw21.BitsyncRight', WHERE WHAT IT READS IS OF BULK AT MOST 1048576: true; the input reads as it did. -/
def bitsyncRightUptoRow : OpenClaim := { program := "ytmndialneggbjaa", sum := "497b48b0118a832bc704d6181733888763fa4533e46491404f247f7d6e10ac81", func := "skyfix/skyfixlaw21.BitsyncRight", spec := "bitsyncRight", unfollowed := true, recurses := true, apart := false, narrowed := true }
def BitsyncRightUptoSaid : Prop := bitsyncRightUptoRow.holds Try.pinned (OpenSpec.upto bitsyncRightSpec)

/-- 'skyfixlaw21.BitsyncFeeds', WHERE WHAT IT READS IS OF BULK AT MOST 1048576: true; the input reads as it did. -/
def bitsyncFeedsUptoRow : OpenClaim := { program := "ytmndialneggbjaa", sum := "497b48b0118a832bc704d6181733888763fa4533e46491404f247f7d6e10ac81", func := "skyfix/skyfixlaw21.BitsyncFeeds", spec := "bitsyncFeeds", unfollowed := true, recurses := true, apart := false, narrowed := true }
def BitsyncFeedsUptoSaid : Prop := bitsyncFeedsUptoRow.holds Try.pinned (OpenSpec.upto bitsyncFeedsSpec)

end Rows
end Go.Proofs.Ytmndialneggbjaa
