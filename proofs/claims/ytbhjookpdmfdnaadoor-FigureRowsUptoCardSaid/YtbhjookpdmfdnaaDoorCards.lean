/-
  DERIVED. GIVEN WITH THE SEED: THE CARDS: each row of YtbhjookpdmfdnaaDoorRows.lean that lists a variable, with what it lists TIED to the program's text (the seventh form; the later family's looks); each row that meets fmt, with fmt's text TOLD by the authors' own Lean function (tested against real Go, not proved from fmt's source: count such statements apart). THE CARD IS WHAT COUNTS. Prove the row's statement (the work); the ties are given (YtbhjookpdmfdnaaDoorTie.lean); close each card by the builder's one call (the guide's Derived/Test/ToyasCard.lean, 'card_holds'). Laid BY PROGRAM, IN A SANDBOX (cutbox-door.mjs). By AI agents, Wed Nov 11 2026. No macro, syntax, notation, axiom, sorry.
-/
import Derived.Test.YtbhjookpdmfdnaaDoorRows
import GoSem.ClaimSeven
namespace Go.Proofs.YtbhjookpdmfdnaaDoor
namespace Rows

/-- THE TIED CARD OF 'frisketlaw07.FigureReads'. -/
def figureReadsCard : Claim7 := { stood := { row := figureReadsRow, standIns := [], harness := (true, "9e50212e2ee2275655c131a382bc2bfbf74676a5700abc7df8a958321743c989"), looks := false }, kinds := [], alts := [], laidByText := true, laidKinds := [.data], laidTests := true, laidLooks := .later }
def FigureReadsCardSaid : Prop := Claim7.holds Tryd.pinned (.plain (OpenSpec.ofChange figureReadsSpec)) figureReadsCard

/-- THE TIED CARD OF 'frisketlaw07.FigureBytes'. -/
def figureBytesCard : Claim7 := { stood := { row := figureBytesRow, standIns := [], harness := (true, "9e50212e2ee2275655c131a382bc2bfbf74676a5700abc7df8a958321743c989"), looks := false }, kinds := [], alts := [], laidByText := true, laidKinds := [.data], laidTests := true, laidLooks := .later }
def FigureBytesCardSaid : Prop := Claim7.holds Tryd.pinned (.plain (OpenSpec.ofChange figureBytesSpec)) figureBytesCard

/-- THE TIED CARD OF 'frisketlaw08.ColourTexts'. -/
def colourTextsCard : Claim7 := { stood := { row := colourTextsRow, standIns := [], harness := (true, "9e50212e2ee2275655c131a382bc2bfbf74676a5700abc7df8a958321743c989"), looks := false }, kinds := [], alts := [], laidByText := true, laidKinds := [.data], laidTests := true, laidLooks := .later }
def ColourTextsCardSaid : Prop := Claim7.holds Tryd.pinned (.plain (OpenSpec.ofChange colourTextsSpec)) colourTextsCard

/-- THE TIED CARD OF 'frisketlaw07.FigureRows'. -/
def figureRowsCard : Claim7 := { stood := { row := figureRowsRow, standIns := [], harness := (true, "9e50212e2ee2275655c131a382bc2bfbf74676a5700abc7df8a958321743c989"), looks := false }, kinds := [], alts := [], laidByText := true, laidKinds := [.data], laidTests := true, laidLooks := .later }
def FigureRowsCardSaid : Prop := Claim7.holds Tryd.pinned (.plain (OpenSpec.ofChange figureRowsSpec)) figureRowsCard

/-- THE SECOND FORM's CARD OF 'frisketlaw07.FigureReads'. -/
def figureReadsUptoCard : Claim7 := { stood := { row := figureReadsUptoRow, standIns := [], harness := (true, "9e50212e2ee2275655c131a382bc2bfbf74676a5700abc7df8a958321743c989"), looks := false }, kinds := [], alts := [], laidByText := true, laidKinds := [.data], laidTests := true, laidLooks := .later }
def FigureReadsUptoCardSaid : Prop := Claim7.holds Tryd.pinned (.plain (OpenSpec.upto figureReadsSpec)) figureReadsUptoCard

/-- THE SECOND FORM's CARD OF 'frisketlaw07.FigureBytes'. -/
def figureBytesUptoCard : Claim7 := { stood := { row := figureBytesUptoRow, standIns := [], harness := (true, "9e50212e2ee2275655c131a382bc2bfbf74676a5700abc7df8a958321743c989"), looks := false }, kinds := [], alts := [], laidByText := true, laidKinds := [.data], laidTests := true, laidLooks := .later }
def FigureBytesUptoCardSaid : Prop := Claim7.holds Tryd.pinned (.plain (OpenSpec.upto figureBytesSpec)) figureBytesUptoCard

/-- THE SECOND FORM's CARD OF 'frisketlaw08.ColourTexts'. -/
def colourTextsUptoCard : Claim7 := { stood := { row := colourTextsUptoRow, standIns := [], harness := (true, "9e50212e2ee2275655c131a382bc2bfbf74676a5700abc7df8a958321743c989"), looks := false }, kinds := [], alts := [], laidByText := true, laidKinds := [.data], laidTests := true, laidLooks := .later }
def ColourTextsUptoCardSaid : Prop := Claim7.holds Tryd.pinned (.plain (OpenSpec.upto colourTextsSpec)) colourTextsUptoCard

/-- THE SECOND FORM's CARD OF 'frisketlaw07.FigureRows'. -/
def figureRowsUptoCard : Claim7 := { stood := { row := figureRowsUptoRow, standIns := [], harness := (true, "9e50212e2ee2275655c131a382bc2bfbf74676a5700abc7df8a958321743c989"), looks := false }, kinds := [], alts := [], laidByText := true, laidKinds := [.data], laidTests := true, laidLooks := .later }
def FigureRowsUptoCardSaid : Prop := Claim7.holds Tryd.pinned (.plain (OpenSpec.upto figureRowsSpec)) figureRowsUptoCard
end Rows
end Go.Proofs.YtbhjookpdmfdnaaDoor
