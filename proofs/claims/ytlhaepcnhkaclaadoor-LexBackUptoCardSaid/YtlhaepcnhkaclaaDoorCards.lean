/-
  DERIVED. GIVEN WITH THE SEED: THE CARDS: each row of YtlhaepcnhkaclaaDoorRows.lean that lists a variable, with what it lists TIED to the program's text (the seventh form; the later family's looks); each row that meets fmt, with fmt's text TOLD by the authors' own Lean function (tested against real Go, not proved from fmt's source: count such statements apart). THE CARD IS WHAT COUNTS. Prove the row's statement (the work); the ties are given (YtlhaepcnhkaclaaDoorTie.lean); close each card by the builder's one call (the guide's Derived/Test/ToyasCard.lean, 'card_holds'). Laid BY PROGRAM, IN A SANDBOX (cutbox-door.mjs). By AI agents, Wed Nov 11 2026. No macro, syntax, notation, axiom, sorry.
-/
import Derived.Test.YtlhaepcnhkaclaaDoorRows
import GoSem.ClaimSeven
namespace Go.Proofs.YtlhaepcnhkaclaaDoor
namespace Rows

/-- THE TIED CARD OF 'frisketlaw06.LexLines'. -/
def lexLinesCard : Claim7 := { stood := { row := lexLinesRow, standIns := [], harness := (true, "f272702153d5c9fa2c4d091265b60aa32e8ae7d546e6e67b501dad03d47d61a1"), looks := false }, kinds := [], alts := [], laidByText := true, laidKinds := [.data, .pinned], laidTests := true, laidLooks := .later }
def LexLinesCardSaid : Prop := Claim7.holds Tryd.pinned (.plain (OpenSpec.ofChange lexLinesSpec)) lexLinesCard

/-- THE TIED CARD OF 'frisketlaw06.LexBack'. -/
def lexBackCard : Claim7 := { stood := { row := lexBackRow, standIns := [], harness := (true, "f272702153d5c9fa2c4d091265b60aa32e8ae7d546e6e67b501dad03d47d61a1"), looks := false }, kinds := [], alts := [], laidByText := true, laidKinds := [.data, .pinned], laidTests := true, laidLooks := .later }
def LexBackCardSaid : Prop := Claim7.holds Tryd.pinned (.plain (OpenSpec.ofChange lexBackSpec)) lexBackCard

/-- THE TIED CARD OF 'frisketlaw16.StrokeReach'. -/
def strokeReachCard : Claim7 := { stood := { row := strokeReachRow, standIns := [], harness := (true, "f272702153d5c9fa2c4d091265b60aa32e8ae7d546e6e67b501dad03d47d61a1"), looks := false }, kinds := [], alts := [], laidByText := true, laidKinds := [.data], laidTests := true, laidLooks := .later }
def StrokeReachCardSaid : Prop := Claim7.holds Tryd.pinned (.plain (OpenSpec.ofChange strokeReachSpec)) strokeReachCard

/-- THE SECOND FORM's CARD OF 'frisketlaw06.LexLines'. -/
def lexLinesUptoCard : Claim7 := { stood := { row := lexLinesUptoRow, standIns := [], harness := (true, "f272702153d5c9fa2c4d091265b60aa32e8ae7d546e6e67b501dad03d47d61a1"), looks := false }, kinds := [], alts := [], laidByText := true, laidKinds := [.data, .pinned], laidTests := true, laidLooks := .later }
def LexLinesUptoCardSaid : Prop := Claim7.holds Tryd.pinned (.plain (OpenSpec.upto lexLinesSpec)) lexLinesUptoCard

/-- THE SECOND FORM's CARD OF 'frisketlaw06.LexBack'. -/
def lexBackUptoCard : Claim7 := { stood := { row := lexBackUptoRow, standIns := [], harness := (true, "f272702153d5c9fa2c4d091265b60aa32e8ae7d546e6e67b501dad03d47d61a1"), looks := false }, kinds := [], alts := [], laidByText := true, laidKinds := [.data, .pinned], laidTests := true, laidLooks := .later }
def LexBackUptoCardSaid : Prop := Claim7.holds Tryd.pinned (.plain (OpenSpec.upto lexBackSpec)) lexBackUptoCard

/-- THE SECOND FORM's CARD OF 'frisketlaw16.StrokeReach'. -/
def strokeReachUptoCard : Claim7 := { stood := { row := strokeReachUptoRow, standIns := [], harness := (true, "f272702153d5c9fa2c4d091265b60aa32e8ae7d546e6e67b501dad03d47d61a1"), looks := false }, kinds := [], alts := [], laidByText := true, laidKinds := [.data], laidTests := true, laidLooks := .later }
def StrokeReachUptoCardSaid : Prop := Claim7.holds Tryd.pinned (.plain (OpenSpec.upto strokeReachSpec)) strokeReachUptoCard
end Rows
end Go.Proofs.YtlhaepcnhkaclaaDoor
