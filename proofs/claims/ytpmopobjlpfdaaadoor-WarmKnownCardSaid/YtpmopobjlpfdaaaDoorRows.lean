/-
  NARROWER THAN 'FOR EVERY INPUT', by the rows' own cells (each row's printed sentence says how): WarmKnown: laid · WarmNarrows: laid · WarmTrue: laid · WarmOrders: laid.
  DERIVED. THE GIVEN ROWS OF THIS SEAT. 4 by the template 'for every input the law returns true; each argument reads behind the call as it read before'; 0 by the template 'total and deterministic' (their statements: YtpmopobjlpfdaaaDoorTotals.lean).
  GIVEN WITH THE SEED: the statements are not yours to turn. If you find one false, say at which input.
  Laid BY PROGRAM, IN A SANDBOX (cutbox-rows.mjs): the forced cells as the released guide's own fill.sh prints them over the translation e72e9ed165a689b1… (all of the seat's roots in one cut). By AI agents, Wed Nov 11 2026. No macro, syntax, notation, axiom, sorry.
-/
import Derived.Test.YtpmopobjlpfdaaaDoorChecked
import GoSem.Claim
import GoSem.ClaimJoined
import GoSem.ClaimMapViews
import Derived.JoinedTies
import Derived.KernelRfl
namespace Go.Proofs.YtpmopobjlpfdaaaDoor
/- THE CELL 'sum', in the pinned program and in every row, IS THE sha256 OF THE DUMP (.gsa) THAT YtpmopobjlpfdaaaDoorProg.lean LOADS. Nothing in Lean hashes anything: it is a label: what it is worth is what the hold of that sum in a sandbox is worth. -/
noncomputable def Tryd.pinned : Pinned := { name := "ytpmopobjlpfdaaadoor", sum := "e72e9ed165a689b11ae233e3302da00073642631eaf614c5b0dace00fccb69eb", checked := Tryd.checked }
namespace Rows
def none {H : Type} : Left H := { results := [], args := [] }

/- WHAT THE LISTED PACKAGE-LEVEL VARIABLES READ AS WHEN THE CALL BEGINS. Each datum BY PROGRAM (the guide's laid-datum.mjs) off the statement by which the dump's own 'gosem.cut.vars' lays the variable. In a bare row this is a premise. The card (YtpmopobjlpfdaaaDoorCards.lean) ties it to the program's text. -/
def laid_skyfix_almanac_widths {H : Type} : DataW H := .agg [.lit (.int .i64 6), .lit (.int .i64 20), .lit (.int .i64 16), .lit (.int .i64 20), .lit (.int .i64 20), .lit (.int .i64 14), .lit (.int .i64 12), .lit (.int .i64 20), .lit (.int .i64 14), .lit (.int .i64 12), .lit (.int .i64 20), .lit (.int .i64 14), .lit (.int .i64 12)]

/-- 'skyfixlaw40.WarmKnown': WHATEVER THE INPUT: true; the input reads as it did. -/
def warmKnownSpec : ChangeSpec := { name := "warmKnown", fn := fun _ => fun
  | [] => { results := [.lit (.bool true)], args := [] }
  | _ => none }
def warmKnownRow : OpenClaim := { program := "ytpmopobjlpfdaaadoor", sum := "e72e9ed165a689b11ae233e3302da00073642631eaf614c5b0dace00fccb69eb", func := "skyfix/skyfixlaw40.WarmKnown", spec := "warmKnown", unfollowed := true, recurses := true, named := ["skyfix/almanac.widths"], apart := false, laid := [("skyfix/almanac.widths", laid_skyfix_almanac_widths)] }
def WarmKnownSaid : Prop := warmKnownRow.holds Tryd.pinned (OpenSpec.ofChange warmKnownSpec)

/-- ITS FALSE NEIGHBOUR: 'it returns false'. Refute it at one input. -/
def warmKnownWrong : ChangeSpec := { name := "warmKnown", fn := fun _ => fun
  | [] => { results := [.lit (.bool false)], args := [] }
  | _ => none }
def WarmKnownWrongFalsely : Prop := warmKnownRow.holds Tryd.pinned (OpenSpec.ofChange warmKnownWrong)

/-- 'skyfixlaw40.WarmNarrows': WHATEVER THE INPUT: true; the input reads as it did. -/
def warmNarrowsSpec : ChangeSpec := { name := "warmNarrows", fn := fun _ => fun
  | [d1, d2, d3] => { results := [.lit (.bool true)], args := [d1, d2, d3] }
  | _ => none }
def warmNarrowsRow : OpenClaim := { program := "ytpmopobjlpfdaaadoor", sum := "e72e9ed165a689b11ae233e3302da00073642631eaf614c5b0dace00fccb69eb", func := "skyfix/skyfixlaw40.WarmNarrows", spec := "warmNarrows", unfollowed := true, recurses := true, named := ["skyfix/almanac.widths"], apart := false, laid := [("skyfix/almanac.widths", laid_skyfix_almanac_widths)] }
def WarmNarrowsSaid : Prop := warmNarrowsRow.holds Tryd.pinned (OpenSpec.ofChange warmNarrowsSpec)

/-- ITS FALSE NEIGHBOUR: 'it returns false'. Refute it at one input. -/
def warmNarrowsWrong : ChangeSpec := { name := "warmNarrows", fn := fun _ => fun
  | [d1, d2, d3] => { results := [.lit (.bool false)], args := [d1, d2, d3] }
  | _ => none }
def WarmNarrowsWrongFalsely : Prop := warmNarrowsRow.holds Tryd.pinned (OpenSpec.ofChange warmNarrowsWrong)

/-- 'skyfixlaw40.WarmTrue': WHATEVER THE INPUT: true; the input reads as it did. -/
def warmTrueSpec : ChangeSpec := { name := "warmTrue", fn := fun _ => fun
  | [d1, d2, d3] => { results := [.lit (.bool true)], args := [d1, d2, d3] }
  | _ => none }
def warmTrueRow : OpenClaim := { program := "ytpmopobjlpfdaaadoor", sum := "e72e9ed165a689b11ae233e3302da00073642631eaf614c5b0dace00fccb69eb", func := "skyfix/skyfixlaw40.WarmTrue", spec := "warmTrue", unfollowed := true, recurses := true, named := ["skyfix/almanac.widths"], apart := false, laid := [("skyfix/almanac.widths", laid_skyfix_almanac_widths)] }
def WarmTrueSaid : Prop := warmTrueRow.holds Tryd.pinned (OpenSpec.ofChange warmTrueSpec)

/-- ITS FALSE NEIGHBOUR: 'it returns false'. Refute it at one input. -/
def warmTrueWrong : ChangeSpec := { name := "warmTrue", fn := fun _ => fun
  | [d1, d2, d3] => { results := [.lit (.bool false)], args := [d1, d2, d3] }
  | _ => none }
def WarmTrueWrongFalsely : Prop := warmTrueRow.holds Tryd.pinned (OpenSpec.ofChange warmTrueWrong)

/-- 'skyfixlaw40.WarmOrders': WHATEVER THE INPUT: true; the input reads as it did. -/
def warmOrdersSpec : ChangeSpec := { name := "warmOrders", fn := fun _ => fun
  | [d1, d2, d3, d4] => { results := [.lit (.bool true)], args := [d1, d2, d3, d4] }
  | _ => none }
def warmOrdersRow : OpenClaim := { program := "ytpmopobjlpfdaaadoor", sum := "e72e9ed165a689b11ae233e3302da00073642631eaf614c5b0dace00fccb69eb", func := "skyfix/skyfixlaw40.WarmOrders", spec := "warmOrders", unfollowed := true, recurses := true, named := ["skyfix/almanac.widths"], apart := false, laid := [("skyfix/almanac.widths", laid_skyfix_almanac_widths)] }
def WarmOrdersSaid : Prop := warmOrdersRow.holds Tryd.pinned (OpenSpec.ofChange warmOrdersSpec)

/-- ITS FALSE NEIGHBOUR: 'it returns false'. Refute it at one input. -/
def warmOrdersWrong : ChangeSpec := { name := "warmOrders", fn := fun _ => fun
  | [d1, d2, d3, d4] => { results := [.lit (.bool false)], args := [d1, d2, d3, d4] }
  | _ => none }
def WarmOrdersWrongFalsely : Prop := warmOrdersRow.holds Tryd.pinned (OpenSpec.ofChange warmOrdersWrong)

/- THE SECOND FORM. 'bulk': how many values and letters a reading holds, each counted each time it is reached (what is shared counts as often as it is met; a slice's spare places count too). A statement '..UptoSaid' is the law's where the arguments, and the package variables that the reading takes, are together of bulk at most 1048576: NARROWER than '..Said'. Prove '..Said' where nothing that the law and all that it calls make is longer than what came in: it says more and counts as full. Else prove '..UptoSaid'. A law counts once. -/
mutual
def uptoBulk {H : Type} : DataW H → Nat
  | .lit (.string bytes) => bytes.length + 1
  | .lit _ => 1
  | .nil => 1
  | .ptr d => uptoBulk d + 1
  | .slice elems spare => uptoBulkAll elems + uptoBulkAll spare + 1
  | .agg parts => uptoBulkAll parts + 1
  | .iface _ d => uptoBulk d + 1
  | .map entries => uptoBulkEntries entries + 1
  | .held _ => 1
def uptoBulkAll {H : Type} : List (DataW H) → Nat
  | [] => 0
  | d :: r => uptoBulk d + uptoBulkAll r
def uptoBulkEntries {H : Type} : List (Lit × DataW H) → Nat
  | [] => 0
  | x :: r => uptoBulkEntry x + uptoBulkEntries r
def uptoBulkEntry {H : Type} : Lit × DataW H → Nat
  | (.string bytes, d) => bytes.length + uptoBulk d + 1
  | (_, d) => uptoBulk d + 1
 end
def uptoSmall : (H : Type) → List (DataW H) → Bool := fun _ ds => decide (uptoBulkAll ds ≤ 1048576)
def OpenSpec.upto (s : _root_.Go.ChangeSpec) : _root_.Go.OpenSpec := { _root_.Go.OpenSpec.ofChange s with cond := some uptoSmall }

/-- 'skyfixlaw40.WarmKnown', WHERE WHAT IT READS IS OF BULK AT MOST 1048576: true; the input reads as it did. -/
def warmKnownUptoRow : OpenClaim := { program := "ytpmopobjlpfdaaadoor", sum := "e72e9ed165a689b11ae233e3302da00073642631eaf614c5b0dace00fccb69eb", func := "skyfix/skyfixlaw40.WarmKnown", spec := "warmKnown", unfollowed := true, recurses := true, named := ["skyfix/almanac.widths"], apart := false, laid := [("skyfix/almanac.widths", laid_skyfix_almanac_widths)], narrowed := true }
def WarmKnownUptoSaid : Prop := warmKnownUptoRow.holds Tryd.pinned (OpenSpec.upto warmKnownSpec)

/-- 'skyfixlaw40.WarmNarrows', WHERE WHAT IT READS IS OF BULK AT MOST 1048576: true; the input reads as it did. -/
def warmNarrowsUptoRow : OpenClaim := { program := "ytpmopobjlpfdaaadoor", sum := "e72e9ed165a689b11ae233e3302da00073642631eaf614c5b0dace00fccb69eb", func := "skyfix/skyfixlaw40.WarmNarrows", spec := "warmNarrows", unfollowed := true, recurses := true, named := ["skyfix/almanac.widths"], apart := false, laid := [("skyfix/almanac.widths", laid_skyfix_almanac_widths)], narrowed := true }
def WarmNarrowsUptoSaid : Prop := warmNarrowsUptoRow.holds Tryd.pinned (OpenSpec.upto warmNarrowsSpec)

/-- 'skyfixlaw40.WarmTrue', WHERE WHAT IT READS IS OF BULK AT MOST 1048576: true; the input reads as it did. -/
def warmTrueUptoRow : OpenClaim := { program := "ytpmopobjlpfdaaadoor", sum := "e72e9ed165a689b11ae233e3302da00073642631eaf614c5b0dace00fccb69eb", func := "skyfix/skyfixlaw40.WarmTrue", spec := "warmTrue", unfollowed := true, recurses := true, named := ["skyfix/almanac.widths"], apart := false, laid := [("skyfix/almanac.widths", laid_skyfix_almanac_widths)], narrowed := true }
def WarmTrueUptoSaid : Prop := warmTrueUptoRow.holds Tryd.pinned (OpenSpec.upto warmTrueSpec)

/-- 'skyfixlaw40.WarmOrders', WHERE WHAT IT READS IS OF BULK AT MOST 1048576: true; the input reads as it did. -/
def warmOrdersUptoRow : OpenClaim := { program := "ytpmopobjlpfdaaadoor", sum := "e72e9ed165a689b11ae233e3302da00073642631eaf614c5b0dace00fccb69eb", func := "skyfix/skyfixlaw40.WarmOrders", spec := "warmOrders", unfollowed := true, recurses := true, named := ["skyfix/almanac.widths"], apart := false, laid := [("skyfix/almanac.widths", laid_skyfix_almanac_widths)], narrowed := true }
def WarmOrdersUptoSaid : Prop := warmOrdersUptoRow.holds Tryd.pinned (OpenSpec.upto warmOrdersSpec)

end Rows
end Go.Proofs.YtpmopobjlpfdaaaDoor
