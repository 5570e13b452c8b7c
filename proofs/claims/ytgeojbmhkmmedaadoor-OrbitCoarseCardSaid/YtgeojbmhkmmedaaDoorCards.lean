/-
  DERIVED. GIVEN WITH THE SEED: THE CARDS: each row of YtgeojbmhkmmedaaDoorRows.lean that lists a variable, with what it lists TIED to the program's text (the seventh form; the later family's looks); each row that meets fmt, with fmt's text TOLD by the authors' own Lean function (tested against real Go, not proved from fmt's source: count such statements apart). THE CARD IS WHAT COUNTS. Prove the row's statement (the work); the ties are given (YtgeojbmhkmmedaaDoorTie.lean); close each card by the builder's one call (the guide's Derived/Test/ToyasCard.lean, 'card_holds'). Laid BY PROGRAM, IN A SANDBOX (cutbox-door.mjs). By AI agents, Wed Nov 11 2026. No macro, syntax, notation, axiom, sorry.
-/
import Derived.Test.YtgeojbmhkmmedaaDoorRows
import GoSem.ClaimSeven
namespace Go.Proofs.YtgeojbmhkmmedaaDoor
namespace Rows

/-- THE TIED CARD OF 'skyfixlaw28.OrbitBounds'. -/
def orbitBoundsCard : Claim7 := { stood := { row := orbitBoundsRow, standIns := [], harness := (true, "9b4848a35b73f56888f17acf8c8fcdea1bc20dfe39564877b711679c4eaebb52"), looks := false }, kinds := [], alts := [], laidByText := true, laidKinds := [.data], laidTests := true, laidLooks := .later }
def OrbitBoundsCardSaid : Prop := Claim7.holds Tryd.pinned (.plain (OpenSpec.ofChange orbitBoundsSpec)) orbitBoundsCard

/-- THE TIED CARD OF 'skyfixlaw28.OrbitKnown'. -/
def orbitKnownCard : Claim7 := { stood := { row := orbitKnownRow, standIns := [], harness := (true, "9b4848a35b73f56888f17acf8c8fcdea1bc20dfe39564877b711679c4eaebb52"), looks := false }, kinds := [], alts := [], laidByText := true, laidKinds := [.data], laidTests := true, laidLooks := .later }
def OrbitKnownCardSaid : Prop := Claim7.holds Tryd.pinned (.plain (OpenSpec.ofChange orbitKnownSpec)) orbitKnownCard

/-- THE TIED CARD OF 'skyfixlaw28.OrbitCoarse'. -/
def orbitCoarseCard : Claim7 := { stood := { row := orbitCoarseRow, standIns := [], harness := (true, "9b4848a35b73f56888f17acf8c8fcdea1bc20dfe39564877b711679c4eaebb52"), looks := false }, kinds := [], alts := [], laidByText := true, laidKinds := [.data], laidTests := true, laidLooks := .later }
def OrbitCoarseCardSaid : Prop := Claim7.holds Tryd.pinned (.plain (OpenSpec.ofChange orbitCoarseSpec)) orbitCoarseCard

/-- THE SECOND FORM's CARD OF 'skyfixlaw28.OrbitBounds'. -/
def orbitBoundsUptoCard : Claim7 := { stood := { row := orbitBoundsUptoRow, standIns := [], harness := (true, "9b4848a35b73f56888f17acf8c8fcdea1bc20dfe39564877b711679c4eaebb52"), looks := false }, kinds := [], alts := [], laidByText := true, laidKinds := [.data], laidTests := true, laidLooks := .later }
def OrbitBoundsUptoCardSaid : Prop := Claim7.holds Tryd.pinned (.plain (OpenSpec.upto orbitBoundsSpec)) orbitBoundsUptoCard

/-- THE SECOND FORM's CARD OF 'skyfixlaw28.OrbitKnown'. -/
def orbitKnownUptoCard : Claim7 := { stood := { row := orbitKnownUptoRow, standIns := [], harness := (true, "9b4848a35b73f56888f17acf8c8fcdea1bc20dfe39564877b711679c4eaebb52"), looks := false }, kinds := [], alts := [], laidByText := true, laidKinds := [.data], laidTests := true, laidLooks := .later }
def OrbitKnownUptoCardSaid : Prop := Claim7.holds Tryd.pinned (.plain (OpenSpec.upto orbitKnownSpec)) orbitKnownUptoCard

/-- THE SECOND FORM's CARD OF 'skyfixlaw28.OrbitCoarse'. -/
def orbitCoarseUptoCard : Claim7 := { stood := { row := orbitCoarseUptoRow, standIns := [], harness := (true, "9b4848a35b73f56888f17acf8c8fcdea1bc20dfe39564877b711679c4eaebb52"), looks := false }, kinds := [], alts := [], laidByText := true, laidKinds := [.data], laidTests := true, laidLooks := .later }
def OrbitCoarseUptoCardSaid : Prop := Claim7.holds Tryd.pinned (.plain (OpenSpec.upto orbitCoarseSpec)) orbitCoarseUptoCard
end Rows
end Go.Proofs.YtgeojbmhkmmedaaDoor
