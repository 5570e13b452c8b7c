/-
  No cell of these rows narrows 'for every input' (looked for: loops, veiled, ifaces, maps, wideKeys, modest, calm, conditions, laid).
  DERIVED. THE GIVEN ROWS OF THIS SEAT. 4 by the template 'for every input the law returns true; each argument reads behind the call as it read before'; 0 by the template 'total and deterministic' (their statements: YtgeojbmhkmmedaaTotals.lean).
  GIVEN WITH THE SEED: the statements are not yours to turn. If you find one false, say at which input.
  Laid BY PROGRAM, IN A SANDBOX (cutbox-rows.mjs): the forced cells as the released guide's own fill.sh prints them over the translation 5c3e667feee6e8a0… (all of the seat's roots in one cut). By AI agents, Wed Nov 11 2026. No macro, syntax, notation, axiom, sorry.
-/
import Derived.Test.YtgeojbmhkmmedaaChecked
import GoSem.Claim
import GoSem.ClaimJoined
import GoSem.ClaimMapViews
import Derived.JoinedTies
import Derived.KernelRfl
namespace Go.Proofs.Ytgeojbmhkmmedaa
/- THE CELL 'sum', in the pinned program and in every row, IS THE sha256 OF THE DUMP (.gsa) THAT YtgeojbmhkmmedaaProg.lean LOADS. Nothing in Lean hashes anything: it is a label: what it is worth is what the hold of that sum in a sandbox is worth. -/
noncomputable def Try.pinned : Pinned := { name := "ytgeojbmhkmmedaa", sum := "5c3e667feee6e8a039678076ae38c1a4051179bdf10c188022d773aa4cff5bd9", checked := Try.checked }
namespace Rows
def none {H : Type} : Left H := { results := [], args := [] }

/-- 'skyfixlaw28.OrbitPlaces': WHATEVER THE INPUT: true; the input reads as it did. -/
def orbitPlacesSpec : ChangeSpec := { name := "orbitPlaces", fn := fun _ => fun
  | [d1, d2] => { results := [.lit (.bool true)], args := [d1, d2] }
  | _ => none }
def orbitPlacesRow : OpenClaim := { program := "ytgeojbmhkmmedaa", sum := "5c3e667feee6e8a039678076ae38c1a4051179bdf10c188022d773aa4cff5bd9", func := "skyfix/skyfixlaw28.OrbitPlaces", spec := "orbitPlaces", inPlace := ["math/bits.Add64", "math/bits.Sub64"], unfollowed := true, recurses := true, apart := false }
def OrbitPlacesSaid : Prop := orbitPlacesRow.holds Try.pinned (OpenSpec.ofChange orbitPlacesSpec)

/-- ITS FALSE NEIGHBOUR: 'it returns false'. Refute it at one input. -/
def orbitPlacesWrong : ChangeSpec := { name := "orbitPlaces", fn := fun _ => fun
  | [d1, d2] => { results := [.lit (.bool false)], args := [d1, d2] }
  | _ => none }
def OrbitPlacesWrongFalsely : Prop := orbitPlacesRow.holds Try.pinned (OpenSpec.ofChange orbitPlacesWrong)

/-- 'skyfixlaw28.OrbitClocks': WHATEVER THE INPUT: true; the input reads as it did. -/
def orbitClocksSpec : ChangeSpec := { name := "orbitClocks", fn := fun _ => fun
  | [d1, d2] => { results := [.lit (.bool true)], args := [d1, d2] }
  | _ => none }
def orbitClocksRow : OpenClaim := { program := "ytgeojbmhkmmedaa", sum := "5c3e667feee6e8a039678076ae38c1a4051179bdf10c188022d773aa4cff5bd9", func := "skyfix/skyfixlaw28.OrbitClocks", spec := "orbitClocks", inPlace := ["math/bits.Add64", "math/bits.Sub64"], unfollowed := true, recurses := true, apart := false }
def OrbitClocksSaid : Prop := orbitClocksRow.holds Try.pinned (OpenSpec.ofChange orbitClocksSpec)

/-- ITS FALSE NEIGHBOUR: 'it returns false'. Refute it at one input. -/
def orbitClocksWrong : ChangeSpec := { name := "orbitClocks", fn := fun _ => fun
  | [d1, d2] => { results := [.lit (.bool false)], args := [d1, d2] }
  | _ => none }
def OrbitClocksWrongFalsely : Prop := orbitClocksRow.holds Try.pinned (OpenSpec.ofChange orbitClocksWrong)

/-- 'skyfixlaw28.OrbitMoves': WHATEVER THE INPUT: true; the input reads as it did. -/
def orbitMovesSpec : ChangeSpec := { name := "orbitMoves", fn := fun _ => fun
  | [d1, d2, d3] => { results := [.lit (.bool true)], args := [d1, d2, d3] }
  | _ => none }
def orbitMovesRow : OpenClaim := { program := "ytgeojbmhkmmedaa", sum := "5c3e667feee6e8a039678076ae38c1a4051179bdf10c188022d773aa4cff5bd9", func := "skyfix/skyfixlaw28.OrbitMoves", spec := "orbitMoves", inPlace := ["math/bits.Add64", "math/bits.Sub64"], unfollowed := true, recurses := true, apart := false }
def OrbitMovesSaid : Prop := orbitMovesRow.holds Try.pinned (OpenSpec.ofChange orbitMovesSpec)

/-- ITS FALSE NEIGHBOUR: 'it returns false'. Refute it at one input. -/
def orbitMovesWrong : ChangeSpec := { name := "orbitMoves", fn := fun _ => fun
  | [d1, d2, d3] => { results := [.lit (.bool false)], args := [d1, d2, d3] }
  | _ => none }
def OrbitMovesWrongFalsely : Prop := orbitMovesRow.holds Try.pinned (OpenSpec.ofChange orbitMovesWrong)

/-- 'skyfixlaw28.OrbitSigns': WHATEVER THE INPUT: true; the input reads as it did. -/
def orbitSignsSpec : ChangeSpec := { name := "orbitSigns", fn := fun _ => fun
  | [d1, d2] => { results := [.lit (.bool true)], args := [d1, d2] }
  | _ => none }
def orbitSignsRow : OpenClaim := { program := "ytgeojbmhkmmedaa", sum := "5c3e667feee6e8a039678076ae38c1a4051179bdf10c188022d773aa4cff5bd9", func := "skyfix/skyfixlaw28.OrbitSigns", spec := "orbitSigns", inPlace := ["math/bits.Add64", "math/bits.Sub64"], unfollowed := true, recurses := true, apart := false }
def OrbitSignsSaid : Prop := orbitSignsRow.holds Try.pinned (OpenSpec.ofChange orbitSignsSpec)

/-- ITS FALSE NEIGHBOUR: 'it returns false'. Refute it at one input. -/
def orbitSignsWrong : ChangeSpec := { name := "orbitSigns", fn := fun _ => fun
  | [d1, d2] => { results := [.lit (.bool false)], args := [d1, d2] }
  | _ => none }
def OrbitSignsWrongFalsely : Prop := orbitSignsRow.holds Try.pinned (OpenSpec.ofChange orbitSignsWrong)

/- THE SECOND FORM. 'bulk': how many values and letters a reading holds, each counted each time it is reached (what is shared counts as often as it is met; a slice's spare places count too). A statement '..UptoSaid' is the law's where the arguments, and the package variables that the reading takes, are together of bulk at most 1048576: NARROWER than '..Said'. Prove '..Said' where nothing that the law and all that it calls make is longer than what came in: it says more and counts as full. Else prove '..UptoSaid'. A law counts once. -/
mutual
def uptoBulk {H : Type} : DataW H → Nat
  | .lit (.string bytes) => bytes.length + 1
  | .lit _ => 1
  | .nil => 1
  | .ptr d => uptoBulk d + 1
  | .slice elems spare => uptoBulkAll elems + uptoBulkAll spare + 1
  | .agg parts => uptoBulkAll parts + 1
  | .iface _ d => uptoBulk d + 1
  | .map entries => uptoBulkEntries entries + 1
  | .held _ => 1
def uptoBulkAll {H : Type} : List (DataW H) → Nat
  | [] => 0
  | d :: r => uptoBulk d + uptoBulkAll r
def uptoBulkEntries {H : Type} : List (Lit × DataW H) → Nat
  | [] => 0
  | x :: r => uptoBulkEntry x + uptoBulkEntries r
def uptoBulkEntry {H : Type} : Lit × DataW H → Nat
  | (.string bytes, d) => bytes.length + uptoBulk d + 1
  | (_, d) => uptoBulk d + 1
 end
def uptoSmall : (H : Type) → List (DataW H) → Bool := fun _ ds => decide (uptoBulkAll ds ≤ 1048576)
def OpenSpec.upto (s : _root_.Go.ChangeSpec) : _root_.Go.OpenSpec := { _root_.Go.OpenSpec.ofChange s with cond := some uptoSmall }

/-- 'skyfixlaw28.OrbitPlaces', WHERE WHAT IT READS IS OF BULK AT MOST 1048576: true; the input reads as it did. -/
def orbitPlacesUptoRow : OpenClaim := { program := "ytgeojbmhkmmedaa", sum := "5c3e667feee6e8a039678076ae38c1a4051179bdf10c188022d773aa4cff5bd9", func := "skyfix/skyfixlaw28.OrbitPlaces", spec := "orbitPlaces", inPlace := ["math/bits.Add64", "math/bits.Sub64"], unfollowed := true, recurses := true, apart := false, narrowed := true }
def OrbitPlacesUptoSaid : Prop := orbitPlacesUptoRow.holds Try.pinned (OpenSpec.upto orbitPlacesSpec)

/-- 'skyfixlaw28.OrbitClocks', WHERE WHAT IT READS IS OF BULK AT MOST 1048576: true; the input reads as it did. -/
def orbitClocksUptoRow : OpenClaim := { program := "ytgeojbmhkmmedaa", sum := "5c3e667feee6e8a039678076ae38c1a4051179bdf10c188022d773aa4cff5bd9", func := "skyfix/skyfixlaw28.OrbitClocks", spec := "orbitClocks", inPlace := ["math/bits.Add64", "math/bits.Sub64"], unfollowed := true, recurses := true, apart := false, narrowed := true }
def OrbitClocksUptoSaid : Prop := orbitClocksUptoRow.holds Try.pinned (OpenSpec.upto orbitClocksSpec)

/-- 'skyfixlaw28.OrbitMoves', WHERE WHAT IT READS IS OF BULK AT MOST 1048576: true; the input reads as it did. -/
def orbitMovesUptoRow : OpenClaim := { program := "ytgeojbmhkmmedaa", sum := "5c3e667feee6e8a039678076ae38c1a4051179bdf10c188022d773aa4cff5bd9", func := "skyfix/skyfixlaw28.OrbitMoves", spec := "orbitMoves", inPlace := ["math/bits.Add64", "math/bits.Sub64"], unfollowed := true, recurses := true, apart := false, narrowed := true }
def OrbitMovesUptoSaid : Prop := orbitMovesUptoRow.holds Try.pinned (OpenSpec.upto orbitMovesSpec)

/-- 'skyfixlaw28.OrbitSigns', WHERE WHAT IT READS IS OF BULK AT MOST 1048576: true; the input reads as it did. -/
def orbitSignsUptoRow : OpenClaim := { program := "ytgeojbmhkmmedaa", sum := "5c3e667feee6e8a039678076ae38c1a4051179bdf10c188022d773aa4cff5bd9", func := "skyfix/skyfixlaw28.OrbitSigns", spec := "orbitSigns", inPlace := ["math/bits.Add64", "math/bits.Sub64"], unfollowed := true, recurses := true, apart := false, narrowed := true }
def OrbitSignsUptoSaid : Prop := orbitSignsUptoRow.holds Try.pinned (OpenSpec.upto orbitSignsSpec)

end Rows
end Go.Proofs.Ytgeojbmhkmmedaa
