/-
  NARROWER THAN 'FOR EVERY INPUT', by the rows' own cells (each row's printed sentence says how): OrbitBounds: laid · OrbitKnown: laid · OrbitCoarse: laid.
  DERIVED. THE GIVEN ROWS OF THIS SEAT. 3 by the template 'for every input the law returns true; each argument reads behind the call as it read before'; 0 by the template 'total and deterministic' (their statements: YtgeojbmhkmmedaaDoorTotals.lean).
  GIVEN WITH THE SEED: the statements are not yours to turn. If you find one false, say at which input.
  Laid BY PROGRAM, IN A SANDBOX (cutbox-rows.mjs): the forced cells as the released guide's own fill.sh prints them over the translation 0165ef37dec9c684… (all of the seat's roots in one cut). By AI agents, Wed Nov 11 2026. No macro, syntax, notation, axiom, sorry.
-/
import Derived.Test.YtgeojbmhkmmedaaDoorChecked
import GoSem.Claim
import GoSem.ClaimJoined
import GoSem.ClaimMapViews
import Derived.JoinedTies
import Derived.KernelRfl
namespace Go.Proofs.YtgeojbmhkmmedaaDoor
/- THE CELL 'sum', in the pinned program and in every row, IS THE sha256 OF THE DUMP (.gsa) THAT YtgeojbmhkmmedaaDoorProg.lean LOADS. Nothing in Lean hashes anything: it is a label: what it is worth is what the hold of that sum in a sandbox is worth. -/
noncomputable def Tryd.pinned : Pinned := { name := "ytgeojbmhkmmedaadoor", sum := "0165ef37dec9c684f886a943a9e9e09d2480543e3a6bf5a0d285586fbe217a0f", checked := Tryd.checked }
namespace Rows
def none {H : Type} : Left H := { results := [], args := [] }

/- WHAT THE LISTED PACKAGE-LEVEL VARIABLES READ AS WHEN THE CALL BEGINS. Each datum BY PROGRAM (the guide's laid-datum.mjs) off the statement by which the dump's own 'gosem.cut.vars' lays the variable. In a bare row this is a premise. The card (YtgeojbmhkmmedaaDoorCards.lean) ties it to the program's text. -/
def laid_skyfix_almanac_widths {H : Type} : DataW H := .agg [.lit (.int .i64 6), .lit (.int .i64 20), .lit (.int .i64 16), .lit (.int .i64 20), .lit (.int .i64 20), .lit (.int .i64 14), .lit (.int .i64 12), .lit (.int .i64 20), .lit (.int .i64 14), .lit (.int .i64 12), .lit (.int .i64 20), .lit (.int .i64 14), .lit (.int .i64 12)]

/-- 'skyfixlaw28.OrbitBounds': WHATEVER THE INPUT: true; the input reads as it did. -/
def orbitBoundsSpec : ChangeSpec := { name := "orbitBounds", fn := fun _ => fun
  | [d1, d2] => { results := [.lit (.bool true)], args := [d1, d2] }
  | _ => none }
def orbitBoundsRow : OpenClaim := { program := "ytgeojbmhkmmedaadoor", sum := "0165ef37dec9c684f886a943a9e9e09d2480543e3a6bf5a0d285586fbe217a0f", func := "skyfix/skyfixlaw28.OrbitBounds", spec := "orbitBounds", inPlace := ["math/bits.Add64", "math/bits.Sub64"], unfollowed := true, recurses := true, named := ["skyfix/almanac.widths"], apart := false, laid := [("skyfix/almanac.widths", laid_skyfix_almanac_widths)] }
def OrbitBoundsSaid : Prop := orbitBoundsRow.holds Tryd.pinned (OpenSpec.ofChange orbitBoundsSpec)

/-- ITS FALSE NEIGHBOUR: 'it returns false'. Refute it at one input. -/
def orbitBoundsWrong : ChangeSpec := { name := "orbitBounds", fn := fun _ => fun
  | [d1, d2] => { results := [.lit (.bool false)], args := [d1, d2] }
  | _ => none }
def OrbitBoundsWrongFalsely : Prop := orbitBoundsRow.holds Tryd.pinned (OpenSpec.ofChange orbitBoundsWrong)

/-- 'skyfixlaw28.OrbitKnown': WHATEVER THE INPUT: true; the input reads as it did. -/
def orbitKnownSpec : ChangeSpec := { name := "orbitKnown", fn := fun _ => fun
  | [] => { results := [.lit (.bool true)], args := [] }
  | _ => none }
def orbitKnownRow : OpenClaim := { program := "ytgeojbmhkmmedaadoor", sum := "0165ef37dec9c684f886a943a9e9e09d2480543e3a6bf5a0d285586fbe217a0f", func := "skyfix/skyfixlaw28.OrbitKnown", spec := "orbitKnown", inPlace := ["math/bits.Add64", "math/bits.Sub64"], unfollowed := true, recurses := true, named := ["skyfix/almanac.widths"], apart := false, laid := [("skyfix/almanac.widths", laid_skyfix_almanac_widths)] }
def OrbitKnownSaid : Prop := orbitKnownRow.holds Tryd.pinned (OpenSpec.ofChange orbitKnownSpec)

/-- ITS FALSE NEIGHBOUR: 'it returns false'. Refute it at one input. -/
def orbitKnownWrong : ChangeSpec := { name := "orbitKnown", fn := fun _ => fun
  | [] => { results := [.lit (.bool false)], args := [] }
  | _ => none }
def OrbitKnownWrongFalsely : Prop := orbitKnownRow.holds Tryd.pinned (OpenSpec.ofChange orbitKnownWrong)

/-- 'skyfixlaw28.OrbitCoarse': WHATEVER THE INPUT: true; the input reads as it did. -/
def orbitCoarseSpec : ChangeSpec := { name := "orbitCoarse", fn := fun _ => fun
  | [d1, d2, d3] => { results := [.lit (.bool true)], args := [d1, d2, d3] }
  | _ => none }
def orbitCoarseRow : OpenClaim := { program := "ytgeojbmhkmmedaadoor", sum := "0165ef37dec9c684f886a943a9e9e09d2480543e3a6bf5a0d285586fbe217a0f", func := "skyfix/skyfixlaw28.OrbitCoarse", spec := "orbitCoarse", inPlace := ["math/bits.Add64", "math/bits.Sub64"], unfollowed := true, recurses := true, named := ["skyfix/almanac.widths"], apart := false, laid := [("skyfix/almanac.widths", laid_skyfix_almanac_widths)] }
def OrbitCoarseSaid : Prop := orbitCoarseRow.holds Tryd.pinned (OpenSpec.ofChange orbitCoarseSpec)

/-- ITS FALSE NEIGHBOUR: 'it returns false'. Refute it at one input. -/
def orbitCoarseWrong : ChangeSpec := { name := "orbitCoarse", fn := fun _ => fun
  | [d1, d2, d3] => { results := [.lit (.bool false)], args := [d1, d2, d3] }
  | _ => none }
def OrbitCoarseWrongFalsely : Prop := orbitCoarseRow.holds Tryd.pinned (OpenSpec.ofChange orbitCoarseWrong)

/- THE SECOND FORM. 'bulk': how many values and letters a reading holds, each counted each time it is reached (what is shared counts as often as it is met; a slice's spare places count too). A statement '..UptoSaid' is the law's where the arguments, and the package variables that the reading takes, are together of bulk at most 1048576: NARROWER than '..Said'. Prove '..Said' where nothing that the law and all that it calls make is longer than what came in: it says more and counts as full. Else prove '..UptoSaid'. A law counts once. -/
mutual
def uptoBulk {H : Type} : DataW H → Nat
  | .lit (.string bytes) => bytes.length + 1
  | .lit _ => 1
  | .nil => 1
  | .ptr d => uptoBulk d + 1
  | .slice elems spare => uptoBulkAll elems + uptoBulkAll spare + 1
  | .agg parts => uptoBulkAll parts + 1
  | .iface _ d => uptoBulk d + 1
  | .map entries => uptoBulkEntries entries + 1
  | .held _ => 1
def uptoBulkAll {H : Type} : List (DataW H) → Nat
  | [] => 0
  | d :: r => uptoBulk d + uptoBulkAll r
def uptoBulkEntries {H : Type} : List (Lit × DataW H) → Nat
  | [] => 0
  | x :: r => uptoBulkEntry x + uptoBulkEntries r
def uptoBulkEntry {H : Type} : Lit × DataW H → Nat
  | (.string bytes, d) => bytes.length + uptoBulk d + 1
  | (_, d) => uptoBulk d + 1
 end
def uptoSmall : (H : Type) → List (DataW H) → Bool := fun _ ds => decide (uptoBulkAll ds ≤ 1048576)
def OpenSpec.upto (s : _root_.Go.ChangeSpec) : _root_.Go.OpenSpec := { _root_.Go.OpenSpec.ofChange s with cond := some uptoSmall }

/-- 'skyfixlaw28.OrbitBounds', WHERE WHAT IT READS IS OF BULK AT MOST 1048576: true; the input reads as it did. -/
def orbitBoundsUptoRow : OpenClaim := { program := "ytgeojbmhkmmedaadoor", sum := "0165ef37dec9c684f886a943a9e9e09d2480543e3a6bf5a0d285586fbe217a0f", func := "skyfix/skyfixlaw28.OrbitBounds", spec := "orbitBounds", inPlace := ["math/bits.Add64", "math/bits.Sub64"], unfollowed := true, recurses := true, named := ["skyfix/almanac.widths"], apart := false, laid := [("skyfix/almanac.widths", laid_skyfix_almanac_widths)], narrowed := true }
def OrbitBoundsUptoSaid : Prop := orbitBoundsUptoRow.holds Tryd.pinned (OpenSpec.upto orbitBoundsSpec)

/-- 'skyfixlaw28.OrbitKnown', WHERE WHAT IT READS IS OF BULK AT MOST 1048576: true; the input reads as it did. -/
def orbitKnownUptoRow : OpenClaim := { program := "ytgeojbmhkmmedaadoor", sum := "0165ef37dec9c684f886a943a9e9e09d2480543e3a6bf5a0d285586fbe217a0f", func := "skyfix/skyfixlaw28.OrbitKnown", spec := "orbitKnown", inPlace := ["math/bits.Add64", "math/bits.Sub64"], unfollowed := true, recurses := true, named := ["skyfix/almanac.widths"], apart := false, laid := [("skyfix/almanac.widths", laid_skyfix_almanac_widths)], narrowed := true }
def OrbitKnownUptoSaid : Prop := orbitKnownUptoRow.holds Tryd.pinned (OpenSpec.upto orbitKnownSpec)

/-- 'skyfixlaw28.OrbitCoarse', WHERE WHAT IT READS IS OF BULK AT MOST 1048576: true; the input reads as it did. -/
def orbitCoarseUptoRow : OpenClaim := { program := "ytgeojbmhkmmedaadoor", sum := "0165ef37dec9c684f886a943a9e9e09d2480543e3a6bf5a0d285586fbe217a0f", func := "skyfix/skyfixlaw28.OrbitCoarse", spec := "orbitCoarse", inPlace := ["math/bits.Add64", "math/bits.Sub64"], unfollowed := true, recurses := true, named := ["skyfix/almanac.widths"], apart := false, laid := [("skyfix/almanac.widths", laid_skyfix_almanac_widths)], narrowed := true }
def OrbitCoarseUptoSaid : Prop := orbitCoarseUptoRow.holds Tryd.pinned (OpenSpec.upto orbitCoarseSpec)

end Rows
end Go.Proofs.YtgeojbmhkmmedaaDoor
