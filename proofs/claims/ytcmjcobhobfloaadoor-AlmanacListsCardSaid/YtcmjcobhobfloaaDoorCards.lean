/-
  DERIVED. GIVEN WITH THE SEED: THE CARDS: each row of YtcmjcobhobfloaaDoorRows.lean that lists a variable, with what it lists TIED to the program's text (the seventh form; the later family's looks); each row that meets fmt, with fmt's text TOLD by the authors' own Lean function (tested against real Go, not proved from fmt's source: count such statements apart). THE CARD IS WHAT COUNTS. Prove the row's statement (the work); the ties are given (YtcmjcobhobfloaaDoorTie.lean); close each card by the builder's one call (the guide's Derived/Test/ToyasCard.lean, 'card_holds'). Laid BY PROGRAM, IN A SANDBOX (cutbox-door.mjs). By AI agents, Wed Nov 11 2026. No macro, syntax, notation, axiom, sorry.
-/
import Derived.Test.YtcmjcobhobfloaaDoorRows
import GoSem.ClaimSeven
namespace Go.Proofs.YtcmjcobhobfloaaDoor
namespace Rows

/-- THE TIED CARD OF 'skyfixlaw27.AlmanacOrders'. -/
def almanacOrdersCard : Claim7 := { stood := { row := almanacOrdersRow, standIns := [], harness := (true, "2f2dbc3cf14b6855e25afaec5571af1a29154c7a40502058fe6b49e05a06ff02"), looks := false }, kinds := [], alts := [], laidByText := true, laidKinds := [.data], laidTests := true, laidLooks := .later }
def AlmanacOrdersCardSaid : Prop := Claim7.holds Tryd.pinned (.plain (OpenSpec.ofChange almanacOrdersSpec)) almanacOrdersCard

/-- THE TIED CARD OF 'skyfixlaw27.AlmanacPages'. -/
def almanacPagesCard : Claim7 := { stood := { row := almanacPagesRow, standIns := [], harness := (true, "2f2dbc3cf14b6855e25afaec5571af1a29154c7a40502058fe6b49e05a06ff02"), looks := false }, kinds := [], alts := [], laidByText := true, laidKinds := [.data], laidTests := true, laidLooks := .later }
def AlmanacPagesCardSaid : Prop := Claim7.holds Tryd.pinned (.plain (OpenSpec.ofChange almanacPagesSpec)) almanacPagesCard

/-- THE TIED CARD OF 'skyfixlaw27.AlmanacReads'. -/
def almanacReadsCard : Claim7 := { stood := { row := almanacReadsRow, standIns := [], harness := (true, "2f2dbc3cf14b6855e25afaec5571af1a29154c7a40502058fe6b49e05a06ff02"), looks := false }, kinds := [], alts := [], laidByText := true, laidKinds := [.data], laidTests := true, laidLooks := .later }
def AlmanacReadsCardSaid : Prop := Claim7.holds Tryd.pinned (.plain (OpenSpec.ofChange almanacReadsSpec)) almanacReadsCard

/-- THE TIED CARD OF 'skyfixlaw27.AlmanacBack'. -/
def almanacBackCard : Claim7 := { stood := { row := almanacBackRow, standIns := [], harness := (true, "2f2dbc3cf14b6855e25afaec5571af1a29154c7a40502058fe6b49e05a06ff02"), looks := false }, kinds := [], alts := [], laidByText := true, laidKinds := [.data], laidTests := true, laidLooks := .later }
def AlmanacBackCardSaid : Prop := Claim7.holds Tryd.pinned (.plain (OpenSpec.ofChange almanacBackSpec)) almanacBackCard

/-- THE TIED CARD OF 'skyfixlaw27.AlmanacLists'. -/
def almanacListsCard : Claim7 := { stood := { row := almanacListsRow, standIns := [], harness := (true, "2f2dbc3cf14b6855e25afaec5571af1a29154c7a40502058fe6b49e05a06ff02"), looks := false }, kinds := [], alts := [], laidByText := true, laidKinds := [.data], laidTests := true, laidLooks := .later }
def AlmanacListsCardSaid : Prop := Claim7.holds Tryd.pinned (.plain (OpenSpec.ofChange almanacListsSpec)) almanacListsCard

/-- THE TIED CARD OF 'skyfixlaw27.AlmanacKnown'. -/
def almanacKnownCard : Claim7 := { stood := { row := almanacKnownRow, standIns := [], harness := (true, "2f2dbc3cf14b6855e25afaec5571af1a29154c7a40502058fe6b49e05a06ff02"), looks := false }, kinds := [], alts := [], laidByText := true, laidKinds := [.data], laidTests := true, laidLooks := .later }
def AlmanacKnownCardSaid : Prop := Claim7.holds Tryd.pinned (.plain (OpenSpec.ofChange almanacKnownSpec)) almanacKnownCard

/-- THE SECOND FORM's CARD OF 'skyfixlaw27.AlmanacOrders'. -/
def almanacOrdersUptoCard : Claim7 := { stood := { row := almanacOrdersUptoRow, standIns := [], harness := (true, "2f2dbc3cf14b6855e25afaec5571af1a29154c7a40502058fe6b49e05a06ff02"), looks := false }, kinds := [], alts := [], laidByText := true, laidKinds := [.data], laidTests := true, laidLooks := .later }
def AlmanacOrdersUptoCardSaid : Prop := Claim7.holds Tryd.pinned (.plain (OpenSpec.upto almanacOrdersSpec)) almanacOrdersUptoCard

/-- THE SECOND FORM's CARD OF 'skyfixlaw27.AlmanacPages'. -/
def almanacPagesUptoCard : Claim7 := { stood := { row := almanacPagesUptoRow, standIns := [], harness := (true, "2f2dbc3cf14b6855e25afaec5571af1a29154c7a40502058fe6b49e05a06ff02"), looks := false }, kinds := [], alts := [], laidByText := true, laidKinds := [.data], laidTests := true, laidLooks := .later }
def AlmanacPagesUptoCardSaid : Prop := Claim7.holds Tryd.pinned (.plain (OpenSpec.upto almanacPagesSpec)) almanacPagesUptoCard

/-- THE SECOND FORM's CARD OF 'skyfixlaw27.AlmanacReads'. -/
def almanacReadsUptoCard : Claim7 := { stood := { row := almanacReadsUptoRow, standIns := [], harness := (true, "2f2dbc3cf14b6855e25afaec5571af1a29154c7a40502058fe6b49e05a06ff02"), looks := false }, kinds := [], alts := [], laidByText := true, laidKinds := [.data], laidTests := true, laidLooks := .later }
def AlmanacReadsUptoCardSaid : Prop := Claim7.holds Tryd.pinned (.plain (OpenSpec.upto almanacReadsSpec)) almanacReadsUptoCard

/-- THE SECOND FORM's CARD OF 'skyfixlaw27.AlmanacBack'. -/
def almanacBackUptoCard : Claim7 := { stood := { row := almanacBackUptoRow, standIns := [], harness := (true, "2f2dbc3cf14b6855e25afaec5571af1a29154c7a40502058fe6b49e05a06ff02"), looks := false }, kinds := [], alts := [], laidByText := true, laidKinds := [.data], laidTests := true, laidLooks := .later }
def AlmanacBackUptoCardSaid : Prop := Claim7.holds Tryd.pinned (.plain (OpenSpec.upto almanacBackSpec)) almanacBackUptoCard

/-- THE SECOND FORM's CARD OF 'skyfixlaw27.AlmanacLists'. -/
def almanacListsUptoCard : Claim7 := { stood := { row := almanacListsUptoRow, standIns := [], harness := (true, "2f2dbc3cf14b6855e25afaec5571af1a29154c7a40502058fe6b49e05a06ff02"), looks := false }, kinds := [], alts := [], laidByText := true, laidKinds := [.data], laidTests := true, laidLooks := .later }
def AlmanacListsUptoCardSaid : Prop := Claim7.holds Tryd.pinned (.plain (OpenSpec.upto almanacListsSpec)) almanacListsUptoCard

/-- THE SECOND FORM's CARD OF 'skyfixlaw27.AlmanacKnown'. -/
def almanacKnownUptoCard : Claim7 := { stood := { row := almanacKnownUptoRow, standIns := [], harness := (true, "2f2dbc3cf14b6855e25afaec5571af1a29154c7a40502058fe6b49e05a06ff02"), looks := false }, kinds := [], alts := [], laidByText := true, laidKinds := [.data], laidTests := true, laidLooks := .later }
def AlmanacKnownUptoCardSaid : Prop := Claim7.holds Tryd.pinned (.plain (OpenSpec.upto almanacKnownSpec)) almanacKnownUptoCard
end Rows
end Go.Proofs.YtcmjcobhobfloaaDoor
