/-
  DERIVED. GIVEN WITH THE SEED: THE CARDS: each row of YtpmopobjlpfdaaaDoorRows.lean that lists a variable, with what it lists TIED to the program's text (the seventh form; the later family's looks); each row that meets fmt, with fmt's text TOLD by the authors' own Lean function (tested against real Go, not proved from fmt's source: count such statements apart). THE CARD IS WHAT COUNTS. Prove the row's statement (the work); the ties are given (YtpmopobjlpfdaaaDoorTie.lean); close each card by the builder's one call (the guide's Derived/Test/ToyasCard.lean, 'card_holds'). Laid BY PROGRAM, IN A SANDBOX (cutbox-door.mjs). By AI agents, Wed Nov 11 2026. No macro, syntax, notation, axiom, sorry.
-/
import Derived.Test.YtpmopobjlpfdaaaDoorRows
import GoSem.ClaimSeven
namespace Go.Proofs.YtpmopobjlpfdaaaDoor
namespace Rows

/-- THE TIED CARD OF 'skyfixlaw40.WarmKnown'. -/
def warmKnownCard : Claim7 := { stood := { row := warmKnownRow, standIns := [], harness := (true, "0f2b01164b8e20f685e0e7cd7771a7b1da4d086d28f3ef0aec4d69cd76f797ae"), looks := false }, kinds := [], alts := [], laidByText := true, laidKinds := [.data], laidTests := true, laidLooks := .later }
def WarmKnownCardSaid : Prop := Claim7.holds Tryd.pinned (.plain (OpenSpec.ofChange warmKnownSpec)) warmKnownCard

/-- THE TIED CARD OF 'skyfixlaw40.WarmNarrows'. -/
def warmNarrowsCard : Claim7 := { stood := { row := warmNarrowsRow, standIns := [], harness := (true, "0f2b01164b8e20f685e0e7cd7771a7b1da4d086d28f3ef0aec4d69cd76f797ae"), looks := false }, kinds := [], alts := [], laidByText := true, laidKinds := [.data], laidTests := true, laidLooks := .later }
def WarmNarrowsCardSaid : Prop := Claim7.holds Tryd.pinned (.plain (OpenSpec.ofChange warmNarrowsSpec)) warmNarrowsCard

/-- THE TIED CARD OF 'skyfixlaw40.WarmTrue'. -/
def warmTrueCard : Claim7 := { stood := { row := warmTrueRow, standIns := [], harness := (true, "0f2b01164b8e20f685e0e7cd7771a7b1da4d086d28f3ef0aec4d69cd76f797ae"), looks := false }, kinds := [], alts := [], laidByText := true, laidKinds := [.data], laidTests := true, laidLooks := .later }
def WarmTrueCardSaid : Prop := Claim7.holds Tryd.pinned (.plain (OpenSpec.ofChange warmTrueSpec)) warmTrueCard

/-- THE TIED CARD OF 'skyfixlaw40.WarmOrders'. -/
def warmOrdersCard : Claim7 := { stood := { row := warmOrdersRow, standIns := [], harness := (true, "0f2b01164b8e20f685e0e7cd7771a7b1da4d086d28f3ef0aec4d69cd76f797ae"), looks := false }, kinds := [], alts := [], laidByText := true, laidKinds := [.data], laidTests := true, laidLooks := .later }
def WarmOrdersCardSaid : Prop := Claim7.holds Tryd.pinned (.plain (OpenSpec.ofChange warmOrdersSpec)) warmOrdersCard

/-- THE SECOND FORM's CARD OF 'skyfixlaw40.WarmKnown'. -/
def warmKnownUptoCard : Claim7 := { stood := { row := warmKnownUptoRow, standIns := [], harness := (true, "0f2b01164b8e20f685e0e7cd7771a7b1da4d086d28f3ef0aec4d69cd76f797ae"), looks := false }, kinds := [], alts := [], laidByText := true, laidKinds := [.data], laidTests := true, laidLooks := .later }
def WarmKnownUptoCardSaid : Prop := Claim7.holds Tryd.pinned (.plain (OpenSpec.upto warmKnownSpec)) warmKnownUptoCard

/-- THE SECOND FORM's CARD OF 'skyfixlaw40.WarmNarrows'. -/
def warmNarrowsUptoCard : Claim7 := { stood := { row := warmNarrowsUptoRow, standIns := [], harness := (true, "0f2b01164b8e20f685e0e7cd7771a7b1da4d086d28f3ef0aec4d69cd76f797ae"), looks := false }, kinds := [], alts := [], laidByText := true, laidKinds := [.data], laidTests := true, laidLooks := .later }
def WarmNarrowsUptoCardSaid : Prop := Claim7.holds Tryd.pinned (.plain (OpenSpec.upto warmNarrowsSpec)) warmNarrowsUptoCard

/-- THE SECOND FORM's CARD OF 'skyfixlaw40.WarmTrue'. -/
def warmTrueUptoCard : Claim7 := { stood := { row := warmTrueUptoRow, standIns := [], harness := (true, "0f2b01164b8e20f685e0e7cd7771a7b1da4d086d28f3ef0aec4d69cd76f797ae"), looks := false }, kinds := [], alts := [], laidByText := true, laidKinds := [.data], laidTests := true, laidLooks := .later }
def WarmTrueUptoCardSaid : Prop := Claim7.holds Tryd.pinned (.plain (OpenSpec.upto warmTrueSpec)) warmTrueUptoCard

/-- THE SECOND FORM's CARD OF 'skyfixlaw40.WarmOrders'. -/
def warmOrdersUptoCard : Claim7 := { stood := { row := warmOrdersUptoRow, standIns := [], harness := (true, "0f2b01164b8e20f685e0e7cd7771a7b1da4d086d28f3ef0aec4d69cd76f797ae"), looks := false }, kinds := [], alts := [], laidByText := true, laidKinds := [.data], laidTests := true, laidLooks := .later }
def WarmOrdersUptoCardSaid : Prop := Claim7.holds Tryd.pinned (.plain (OpenSpec.upto warmOrdersSpec)) warmOrdersUptoCard
end Rows
end Go.Proofs.YtpmopobjlpfdaaaDoor
