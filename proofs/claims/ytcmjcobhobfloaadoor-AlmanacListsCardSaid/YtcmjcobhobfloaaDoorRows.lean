/-
  NARROWER THAN 'FOR EVERY INPUT', by the rows' own cells (each row's printed sentence says how): AlmanacOrders: laid · AlmanacPages: laid · AlmanacReads: laid · AlmanacBack: laid · AlmanacLists: laid · AlmanacKnown: laid.
  DERIVED. THE GIVEN ROWS OF THIS SEAT. 6 by the template 'for every input the law returns true; each argument reads behind the call as it read before'; 0 by the template 'total and deterministic' (their statements: YtcmjcobhobfloaaDoorTotals.lean).
  GIVEN WITH THE SEED: the statements are not yours to turn. If you find one false, say at which input.
  Laid BY PROGRAM, IN A SANDBOX (cutbox-rows.mjs): the forced cells as the released guide's own fill.sh prints them over the translation bd81700467feeb19… (all of the seat's roots in one cut). By AI agents, Wed Nov 11 2026. No macro, syntax, notation, axiom, sorry.
-/
import Derived.Test.YtcmjcobhobfloaaDoorChecked
import GoSem.Claim
import GoSem.ClaimJoined
import GoSem.ClaimMapViews
import Derived.JoinedTies
import Derived.KernelRfl
namespace Go.Proofs.YtcmjcobhobfloaaDoor
/- THE CELL 'sum', in the pinned program and in every row, IS THE sha256 OF THE DUMP (.gsa) THAT YtcmjcobhobfloaaDoorProg.lean LOADS. Nothing in Lean hashes anything: it is a label: what it is worth is what the hold of that sum in a sandbox is worth. -/
noncomputable def Tryd.pinned : Pinned := { name := "ytcmjcobhobfloaadoor", sum := "bd81700467feeb1936d6a1f17b15df091fc65c95f3dee1e185ea8dbdf45b2004", checked := Tryd.checked }
namespace Rows
def none {H : Type} : Left H := { results := [], args := [] }

/- WHAT THE LISTED PACKAGE-LEVEL VARIABLES READ AS WHEN THE CALL BEGINS. Each datum BY PROGRAM (the guide's laid-datum.mjs) off the statement by which the dump's own 'gosem.cut.vars' lays the variable. In a bare row this is a premise. The card (YtcmjcobhobfloaaDoorCards.lean) ties it to the program's text. -/
def laid_skyfix_almanac_widths {H : Type} : DataW H := .agg [.lit (.int .i64 6), .lit (.int .i64 20), .lit (.int .i64 16), .lit (.int .i64 20), .lit (.int .i64 20), .lit (.int .i64 14), .lit (.int .i64 12), .lit (.int .i64 20), .lit (.int .i64 14), .lit (.int .i64 12), .lit (.int .i64 20), .lit (.int .i64 14), .lit (.int .i64 12)]

/-- 'skyfixlaw27.AlmanacOrders': WHATEVER THE INPUT: true; the input reads as it did. -/
def almanacOrdersSpec : ChangeSpec := { name := "almanacOrders", fn := fun _ => fun
  | [d1, d2, d3, d4, d5] => { results := [.lit (.bool true)], args := [d1, d2, d3, d4, d5] }
  | _ => none }
def almanacOrdersRow : OpenClaim := { program := "ytcmjcobhobfloaadoor", sum := "bd81700467feeb1936d6a1f17b15df091fc65c95f3dee1e185ea8dbdf45b2004", func := "skyfix/skyfixlaw27.AlmanacOrders", spec := "almanacOrders", inPlace := ["slices.overlaps[skyfix/api.Page]"], unfollowed := true, recurses := true, named := ["skyfix/almanac.widths"], apart := false, laid := [("skyfix/almanac.widths", laid_skyfix_almanac_widths)] }
def AlmanacOrdersSaid : Prop := almanacOrdersRow.holds Tryd.pinned (OpenSpec.ofChange almanacOrdersSpec)

/-- ITS FALSE NEIGHBOUR: 'it returns false'. Refute it at one input. -/
def almanacOrdersWrong : ChangeSpec := { name := "almanacOrders", fn := fun _ => fun
  | [d1, d2, d3, d4, d5] => { results := [.lit (.bool false)], args := [d1, d2, d3, d4, d5] }
  | _ => none }
def AlmanacOrdersWrongFalsely : Prop := almanacOrdersRow.holds Tryd.pinned (OpenSpec.ofChange almanacOrdersWrong)

/-- 'skyfixlaw27.AlmanacPages': WHATEVER THE INPUT: true; the input reads as it did. -/
def almanacPagesSpec : ChangeSpec := { name := "almanacPages", fn := fun _ => fun
  | [d1, d2, d3] => { results := [.lit (.bool true)], args := [d1, d2, d3] }
  | _ => none }
def almanacPagesRow : OpenClaim := { program := "ytcmjcobhobfloaadoor", sum := "bd81700467feeb1936d6a1f17b15df091fc65c95f3dee1e185ea8dbdf45b2004", func := "skyfix/skyfixlaw27.AlmanacPages", spec := "almanacPages", unfollowed := true, recurses := true, named := ["skyfix/almanac.widths"], apart := false, laid := [("skyfix/almanac.widths", laid_skyfix_almanac_widths)] }
def AlmanacPagesSaid : Prop := almanacPagesRow.holds Tryd.pinned (OpenSpec.ofChange almanacPagesSpec)

/-- ITS FALSE NEIGHBOUR: 'it returns false'. Refute it at one input. -/
def almanacPagesWrong : ChangeSpec := { name := "almanacPages", fn := fun _ => fun
  | [d1, d2, d3] => { results := [.lit (.bool false)], args := [d1, d2, d3] }
  | _ => none }
def AlmanacPagesWrongFalsely : Prop := almanacPagesRow.holds Tryd.pinned (OpenSpec.ofChange almanacPagesWrong)

/-- 'skyfixlaw27.AlmanacReads': WHATEVER THE INPUT: true; the input reads as it did. -/
def almanacReadsSpec : ChangeSpec := { name := "almanacReads", fn := fun _ => fun
  | [d] => { results := [.lit (.bool true)], args := [d] }
  | _ => none }
def almanacReadsRow : OpenClaim := { program := "ytcmjcobhobfloaadoor", sum := "bd81700467feeb1936d6a1f17b15df091fc65c95f3dee1e185ea8dbdf45b2004", func := "skyfix/skyfixlaw27.AlmanacReads", spec := "almanacReads", unfollowed := true, recurses := true, named := ["skyfix/almanac.widths"], apart := false, laid := [("skyfix/almanac.widths", laid_skyfix_almanac_widths)] }
def AlmanacReadsSaid : Prop := almanacReadsRow.holds Tryd.pinned (OpenSpec.ofChange almanacReadsSpec)

/-- ITS FALSE NEIGHBOUR: 'it returns false'. Refute it at one input. -/
def almanacReadsWrong : ChangeSpec := { name := "almanacReads", fn := fun _ => fun
  | [d] => { results := [.lit (.bool false)], args := [d] }
  | _ => none }
def AlmanacReadsWrongFalsely : Prop := almanacReadsRow.holds Tryd.pinned (OpenSpec.ofChange almanacReadsWrong)

/-- 'skyfixlaw27.AlmanacBack': WHATEVER THE INPUT: true; the input reads as it did. -/
def almanacBackSpec : ChangeSpec := { name := "almanacBack", fn := fun _ => fun
  | [d1, d2, d3, d4] => { results := [.lit (.bool true)], args := [d1, d2, d3, d4] }
  | _ => none }
def almanacBackRow : OpenClaim := { program := "ytcmjcobhobfloaadoor", sum := "bd81700467feeb1936d6a1f17b15df091fc65c95f3dee1e185ea8dbdf45b2004", func := "skyfix/skyfixlaw27.AlmanacBack", spec := "almanacBack", unfollowed := true, recurses := true, named := ["skyfix/almanac.widths"], apart := false, laid := [("skyfix/almanac.widths", laid_skyfix_almanac_widths)] }
def AlmanacBackSaid : Prop := almanacBackRow.holds Tryd.pinned (OpenSpec.ofChange almanacBackSpec)

/-- ITS FALSE NEIGHBOUR: 'it returns false'. Refute it at one input. -/
def almanacBackWrong : ChangeSpec := { name := "almanacBack", fn := fun _ => fun
  | [d1, d2, d3, d4] => { results := [.lit (.bool false)], args := [d1, d2, d3, d4] }
  | _ => none }
def AlmanacBackWrongFalsely : Prop := almanacBackRow.holds Tryd.pinned (OpenSpec.ofChange almanacBackWrong)

/-- 'skyfixlaw27.AlmanacLists': WHATEVER THE INPUT: true; the input reads as it did. -/
def almanacListsSpec : ChangeSpec := { name := "almanacLists", fn := fun _ => fun
  | [d1, d2, d3, d4, d5] => { results := [.lit (.bool true)], args := [d1, d2, d3, d4, d5] }
  | _ => none }
def almanacListsRow : OpenClaim := { program := "ytcmjcobhobfloaadoor", sum := "bd81700467feeb1936d6a1f17b15df091fc65c95f3dee1e185ea8dbdf45b2004", func := "skyfix/skyfixlaw27.AlmanacLists", spec := "almanacLists", inPlace := ["slices.overlaps[skyfix/api.Page]"], unfollowed := true, recurses := true, named := ["skyfix/almanac.widths"], apart := false, laid := [("skyfix/almanac.widths", laid_skyfix_almanac_widths)] }
def AlmanacListsSaid : Prop := almanacListsRow.holds Tryd.pinned (OpenSpec.ofChange almanacListsSpec)

/-- ITS FALSE NEIGHBOUR: 'it returns false'. Refute it at one input. -/
def almanacListsWrong : ChangeSpec := { name := "almanacLists", fn := fun _ => fun
  | [d1, d2, d3, d4, d5] => { results := [.lit (.bool false)], args := [d1, d2, d3, d4, d5] }
  | _ => none }
def AlmanacListsWrongFalsely : Prop := almanacListsRow.holds Tryd.pinned (OpenSpec.ofChange almanacListsWrong)

/-- 'skyfixlaw27.AlmanacKnown': WHATEVER THE INPUT: true; the input reads as it did. -/
def almanacKnownSpec : ChangeSpec := { name := "almanacKnown", fn := fun _ => fun
  | [] => { results := [.lit (.bool true)], args := [] }
  | _ => none }
def almanacKnownRow : OpenClaim := { program := "ytcmjcobhobfloaadoor", sum := "bd81700467feeb1936d6a1f17b15df091fc65c95f3dee1e185ea8dbdf45b2004", func := "skyfix/skyfixlaw27.AlmanacKnown", spec := "almanacKnown", inPlace := ["slices.overlaps[skyfix/api.Page]"], unfollowed := true, recurses := true, named := ["skyfix/almanac.widths"], apart := false, laid := [("skyfix/almanac.widths", laid_skyfix_almanac_widths)] }
def AlmanacKnownSaid : Prop := almanacKnownRow.holds Tryd.pinned (OpenSpec.ofChange almanacKnownSpec)

/-- ITS FALSE NEIGHBOUR: 'it returns false'. Refute it at one input. -/
def almanacKnownWrong : ChangeSpec := { name := "almanacKnown", fn := fun _ => fun
  | [] => { results := [.lit (.bool false)], args := [] }
  | _ => none }
def AlmanacKnownWrongFalsely : Prop := almanacKnownRow.holds Tryd.pinned (OpenSpec.ofChange almanacKnownWrong)

/- THE SECOND FORM. 'bulk': how many values and letters a reading holds, each counted each time it is reached (what is shared counts as often as it is met; a slice's spare places count too). A statement '..UptoSaid' is the law's where the arguments, and the package variables that the reading takes, are together of bulk at most 1048576: NARROWER than '..Said'. Prove '..Said' where nothing that the law and all that it calls make is longer than what came in: it says more and counts as full. Else prove '..UptoSaid'. A law counts once. -/
mutual
def uptoBulk {H : Type} : DataW H → Nat
  | .lit (.string bytes) => bytes.length + 1
  | .lit _ => 1
  | .nil => 1
  | .ptr d => uptoBulk d + 1
  | .slice elems spare => uptoBulkAll elems + uptoBulkAll spare + 1
  | .agg parts => uptoBulkAll parts + 1
  | .iface _ d => uptoBulk d + 1
  | .map entries => uptoBulkEntries entries + 1
  | .held _ => 1
def uptoBulkAll {H : Type} : List (DataW H) → Nat
  | [] => 0
  | d :: r => uptoBulk d + uptoBulkAll r
def uptoBulkEntries {H : Type} : List (Lit × DataW H) → Nat
  | [] => 0
  | x :: r => uptoBulkEntry x + uptoBulkEntries r
def uptoBulkEntry {H : Type} : Lit × DataW H → Nat
  | (.string bytes, d) => bytes.length + uptoBulk d + 1
  | (_, d) => uptoBulk d + 1
 end
def uptoSmall : (H : Type) → List (DataW H) → Bool := fun _ ds => decide (uptoBulkAll ds ≤ 1048576)
def OpenSpec.upto (s : _root_.Go.ChangeSpec) : _root_.Go.OpenSpec := { _root_.Go.OpenSpec.ofChange s with cond := some uptoSmall }

/-- 'skyfixlaw27.AlmanacOrders', WHERE WHAT IT READS IS OF BULK AT MOST 1048576: true; the input reads as it did. -/
def almanacOrdersUptoRow : OpenClaim := { program := "ytcmjcobhobfloaadoor", sum := "bd81700467feeb1936d6a1f17b15df091fc65c95f3dee1e185ea8dbdf45b2004", func := "skyfix/skyfixlaw27.AlmanacOrders", spec := "almanacOrders", inPlace := ["slices.overlaps[skyfix/api.Page]"], unfollowed := true, recurses := true, named := ["skyfix/almanac.widths"], apart := false, laid := [("skyfix/almanac.widths", laid_skyfix_almanac_widths)], narrowed := true }
def AlmanacOrdersUptoSaid : Prop := almanacOrdersUptoRow.holds Tryd.pinned (OpenSpec.upto almanacOrdersSpec)

/-- 'skyfixlaw27.AlmanacPages', WHERE WHAT IT READS IS OF BULK AT MOST 1048576: true; the input reads as it did. -/
def almanacPagesUptoRow : OpenClaim := { program := "ytcmjcobhobfloaadoor", sum := "bd81700467feeb1936d6a1f17b15df091fc65c95f3dee1e185ea8dbdf45b2004", func := "skyfix/skyfixlaw27.AlmanacPages", spec := "almanacPages", unfollowed := true, recurses := true, named := ["skyfix/almanac.widths"], apart := false, laid := [("skyfix/almanac.widths", laid_skyfix_almanac_widths)], narrowed := true }
def AlmanacPagesUptoSaid : Prop := almanacPagesUptoRow.holds Tryd.pinned (OpenSpec.upto almanacPagesSpec)

/-- 'skyfixlaw27.AlmanacReads', WHERE WHAT IT READS IS OF BULK AT MOST 1048576: true; the input reads as it did. -/
def almanacReadsUptoRow : OpenClaim := { program := "ytcmjcobhobfloaadoor", sum := "bd81700467feeb1936d6a1f17b15df091fc65c95f3dee1e185ea8dbdf45b2004", func := "skyfix/skyfixlaw27.AlmanacReads", spec := "almanacReads", unfollowed := true, recurses := true, named := ["skyfix/almanac.widths"], apart := false, laid := [("skyfix/almanac.widths", laid_skyfix_almanac_widths)], narrowed := true }
def AlmanacReadsUptoSaid : Prop := almanacReadsUptoRow.holds Tryd.pinned (OpenSpec.upto almanacReadsSpec)

/-- 'skyfixlaw27.AlmanacBack', WHERE WHAT IT READS IS OF BULK AT MOST 1048576: true; the input reads as it did. -/
def almanacBackUptoRow : OpenClaim := { program := "ytcmjcobhobfloaadoor", sum := "bd81700467feeb1936d6a1f17b15df091fc65c95f3dee1e185ea8dbdf45b2004", func := "skyfix/skyfixlaw27.AlmanacBack", spec := "almanacBack", unfollowed := true, recurses := true, named := ["skyfix/almanac.widths"], apart := false, laid := [("skyfix/almanac.widths", laid_skyfix_almanac_widths)], narrowed := true }
def AlmanacBackUptoSaid : Prop := almanacBackUptoRow.holds Tryd.pinned (OpenSpec.upto almanacBackSpec)

/-- 'skyfixlaw27.AlmanacLists', WHERE WHAT IT READS IS OF BULK AT MOST 1048576: true; the input reads as it did. -/
def almanacListsUptoRow : OpenClaim := { program := "ytcmjcobhobfloaadoor", sum := "bd81700467feeb1936d6a1f17b15df091fc65c95f3dee1e185ea8dbdf45b2004", func := "skyfix/skyfixlaw27.AlmanacLists", spec := "almanacLists", inPlace := ["slices.overlaps[skyfix/api.Page]"], unfollowed := true, recurses := true, named := ["skyfix/almanac.widths"], apart := false, laid := [("skyfix/almanac.widths", laid_skyfix_almanac_widths)], narrowed := true }
def AlmanacListsUptoSaid : Prop := almanacListsUptoRow.holds Tryd.pinned (OpenSpec.upto almanacListsSpec)

/-- 'skyfixlaw27.AlmanacKnown', WHERE WHAT IT READS IS OF BULK AT MOST 1048576: true; the input reads as it did. -/
def almanacKnownUptoRow : OpenClaim := { program := "ytcmjcobhobfloaadoor", sum := "bd81700467feeb1936d6a1f17b15df091fc65c95f3dee1e185ea8dbdf45b2004", func := "skyfix/skyfixlaw27.AlmanacKnown", spec := "almanacKnown", inPlace := ["slices.overlaps[skyfix/api.Page]"], unfollowed := true, recurses := true, named := ["skyfix/almanac.widths"], apart := false, laid := [("skyfix/almanac.widths", laid_skyfix_almanac_widths)], narrowed := true }
def AlmanacKnownUptoSaid : Prop := almanacKnownUptoRow.holds Tryd.pinned (OpenSpec.upto almanacKnownSpec)

end Rows
end Go.Proofs.YtcmjcobhobfloaaDoor
