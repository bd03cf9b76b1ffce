/-
  NARROWER THAN 'FOR EVERY INPUT', by the rows' own cells (each row's printed sentence says how): FigureReads: laid · FigureBytes: laid · ColourTexts: laid · FigureRows: laid.
  DERIVED. THE GIVEN ROWS OF THIS SEAT. 4 by the template 'for every input the law returns true; each argument reads behind the call as it read before'; 0 by the template 'total and deterministic' (their statements: YtbhjookpdmfdnaaDoorTotals.lean).
  GIVEN WITH THE SEED: the statements are not yours to turn. If you find one false, say at which input.
  Laid BY PROGRAM, IN A SANDBOX (cutbox-rows.mjs): the forced cells as the released guide's own fill.sh prints them over the translation 553e099da2660011… (all of the seat's roots in one cut). By AI agents, Wed Nov 11 2026. No macro, syntax, notation, axiom, sorry.
-/
import Derived.Test.YtbhjookpdmfdnaaDoorChecked
import GoSem.Claim
import GoSem.ClaimJoined
import GoSem.ClaimMapViews
import Derived.JoinedTies
import Derived.KernelRfl
namespace Go.Proofs.YtbhjookpdmfdnaaDoor
/- THE CELL 'sum', in the pinned program and in every row, IS THE sha256 OF THE DUMP (.gsa) THAT YtbhjookpdmfdnaaDoorProg.lean LOADS. Nothing in Lean hashes anything: it is a label: what it is worth is what the hold of that sum in a sandbox is worth. -/
noncomputable def Tryd.pinned : Pinned := { name := "ytbhjookpdmfdnaadoor", sum := "553e099da2660011d276cc14cf168a4db45cc8f2ba06aa6b61cf6f13c959c5d5", checked := Tryd.checked }
namespace Rows
def none {H : Type} : Left H := { results := [], args := [] }

/- WHAT THE LISTED PACKAGE-LEVEL VARIABLES READ AS WHEN THE CALL BEGINS. Each datum BY PROGRAM (the guide's laid-datum.mjs) off the statement by which the dump's own 'gosem.cut.vars' lays the variable. In a bare row this is a premise. The card (YtbhjookpdmfdnaaDoorCards.lean) ties it to the program's text. -/
def laid_frisket_figure_figures {H : Type} : DataW H := .agg [.lit (.int .u8 48), .lit (.int .u8 49), .lit (.int .u8 50), .lit (.int .u8 51), .lit (.int .u8 52), .lit (.int .u8 53), .lit (.int .u8 54), .lit (.int .u8 55), .lit (.int .u8 56), .lit (.int .u8 57), .lit (.int .u8 97), .lit (.int .u8 98), .lit (.int .u8 99), .lit (.int .u8 100), .lit (.int .u8 101), .lit (.int .u8 102)]

/-- 'frisketlaw07.FigureReads': WHATEVER THE INPUT: true; the input reads as it did. -/
def figureReadsSpec : ChangeSpec := { name := "figureReads", fn := fun _ => fun
  | [d1, d2, d3] => { results := [.lit (.bool true)], args := [d1, d2, d3] }
  | _ => none }
def figureReadsRow : OpenClaim := { program := "ytbhjookpdmfdnaadoor", sum := "553e099da2660011d276cc14cf168a4db45cc8f2ba06aa6b61cf6f13c959c5d5", func := "frisket/frisketlaw07.FigureReads", spec := "figureReads", named := ["frisket/figure.figures"], apart := false, laid := [("frisket/figure.figures", laid_frisket_figure_figures)] }
def FigureReadsSaid : Prop := figureReadsRow.holds Tryd.pinned (OpenSpec.ofChange figureReadsSpec)

/-- ITS FALSE NEIGHBOUR: 'it returns false'. Refute it at one input. -/
def figureReadsWrong : ChangeSpec := { name := "figureReads", fn := fun _ => fun
  | [d1, d2, d3] => { results := [.lit (.bool false)], args := [d1, d2, d3] }
  | _ => none }
def FigureReadsWrongFalsely : Prop := figureReadsRow.holds Tryd.pinned (OpenSpec.ofChange figureReadsWrong)

/-- 'frisketlaw07.FigureBytes': WHATEVER THE INPUT: true; the input reads as it did. -/
def figureBytesSpec : ChangeSpec := { name := "figureBytes", fn := fun _ => fun
  | [d1, d2] => { results := [.lit (.bool true)], args := [d1, d2] }
  | _ => none }
def figureBytesRow : OpenClaim := { program := "ytbhjookpdmfdnaadoor", sum := "553e099da2660011d276cc14cf168a4db45cc8f2ba06aa6b61cf6f13c959c5d5", func := "frisket/frisketlaw07.FigureBytes", spec := "figureBytes", named := ["frisket/figure.figures"], apart := false, laid := [("frisket/figure.figures", laid_frisket_figure_figures)] }
def FigureBytesSaid : Prop := figureBytesRow.holds Tryd.pinned (OpenSpec.ofChange figureBytesSpec)

/-- ITS FALSE NEIGHBOUR: 'it returns false'. Refute it at one input. -/
def figureBytesWrong : ChangeSpec := { name := "figureBytes", fn := fun _ => fun
  | [d1, d2] => { results := [.lit (.bool false)], args := [d1, d2] }
  | _ => none }
def FigureBytesWrongFalsely : Prop := figureBytesRow.holds Tryd.pinned (OpenSpec.ofChange figureBytesWrong)

/-- 'frisketlaw08.ColourTexts': WHATEVER THE INPUT: true; the input reads as it did. -/
def colourTextsSpec : ChangeSpec := { name := "colourTexts", fn := fun _ => fun
  | [d1, d2] => { results := [.lit (.bool true)], args := [d1, d2] }
  | _ => none }
def colourTextsRow : OpenClaim := { program := "ytbhjookpdmfdnaadoor", sum := "553e099da2660011d276cc14cf168a4db45cc8f2ba06aa6b61cf6f13c959c5d5", func := "frisket/frisketlaw08.ColourTexts", spec := "colourTexts", unfollowed := true, recurses := true, named := ["frisket/figure.figures"], apart := false, laid := [("frisket/figure.figures", laid_frisket_figure_figures)] }
def ColourTextsSaid : Prop := colourTextsRow.holds Tryd.pinned (OpenSpec.ofChange colourTextsSpec)

/-- ITS FALSE NEIGHBOUR: 'it returns false'. Refute it at one input. -/
def colourTextsWrong : ChangeSpec := { name := "colourTexts", fn := fun _ => fun
  | [d1, d2] => { results := [.lit (.bool false)], args := [d1, d2] }
  | _ => none }
def ColourTextsWrongFalsely : Prop := colourTextsRow.holds Tryd.pinned (OpenSpec.ofChange colourTextsWrong)

/-- 'frisketlaw07.FigureRows': WHATEVER THE INPUT: true; the input reads as it did. -/
def figureRowsSpec : ChangeSpec := { name := "figureRows", fn := fun _ => fun
  | [d1, d2, d3] => { results := [.lit (.bool true)], args := [d1, d2, d3] }
  | _ => none }
def figureRowsRow : OpenClaim := { program := "ytbhjookpdmfdnaadoor", sum := "553e099da2660011d276cc14cf168a4db45cc8f2ba06aa6b61cf6f13c959c5d5", func := "frisket/frisketlaw07.FigureRows", spec := "figureRows", named := ["frisket/figure.figures"], apart := false, laid := [("frisket/figure.figures", laid_frisket_figure_figures)] }
def FigureRowsSaid : Prop := figureRowsRow.holds Tryd.pinned (OpenSpec.ofChange figureRowsSpec)

/-- ITS FALSE NEIGHBOUR: 'it returns false'. Refute it at one input. -/
def figureRowsWrong : ChangeSpec := { name := "figureRows", fn := fun _ => fun
  | [d1, d2, d3] => { results := [.lit (.bool false)], args := [d1, d2, d3] }
  | _ => none }
def FigureRowsWrongFalsely : Prop := figureRowsRow.holds Tryd.pinned (OpenSpec.ofChange figureRowsWrong)

/- THE SECOND FORM. 'bulk': how many values and letters a reading holds, each counted each time it is reached (what is shared counts as often as it is met; a slice's spare places count too). A statement '..UptoSaid' is the law's where the arguments, and the package variables that the reading takes, are together of bulk at most 1048576: NARROWER than '..Said'. Prove '..Said' where nothing that the law and all that it calls make is longer than what came in: it says more and counts as full. Else prove '..UptoSaid'. A law counts once. -/
mutual
def uptoBulk {H : Type} : DataW H → Nat
  | .lit (.string bytes) => bytes.length + 1
  | .lit _ => 1
  | .nil => 1
  | .ptr d => uptoBulk d + 1
  | .slice elems spare => uptoBulkAll elems + uptoBulkAll spare + 1
  | .agg parts => uptoBulkAll parts + 1
  | .iface _ d => uptoBulk d + 1
  | .map entries => uptoBulkEntries entries + 1
  | .held _ => 1
def uptoBulkAll {H : Type} : List (DataW H) → Nat
  | [] => 0
  | d :: r => uptoBulk d + uptoBulkAll r
def uptoBulkEntries {H : Type} : List (Lit × DataW H) → Nat
  | [] => 0
  | x :: r => uptoBulkEntry x + uptoBulkEntries r
def uptoBulkEntry {H : Type} : Lit × DataW H → Nat
  | (.string bytes, d) => bytes.length + uptoBulk d + 1
  | (_, d) => uptoBulk d + 1
 end
def uptoSmall : (H : Type) → List (DataW H) → Bool := fun _ ds => decide (uptoBulkAll ds ≤ 1048576)
def OpenSpec.upto (s : _root_.Go.ChangeSpec) : _root_.Go.OpenSpec := { _root_.Go.OpenSpec.ofChange s with cond := some uptoSmall }

/-- 'frisketlaw07.FigureReads', WHERE WHAT IT READS IS OF BULK AT MOST 1048576: true; the input reads as it did. -/
def figureReadsUptoRow : OpenClaim := { program := "ytbhjookpdmfdnaadoor", sum := "553e099da2660011d276cc14cf168a4db45cc8f2ba06aa6b61cf6f13c959c5d5", func := "frisket/frisketlaw07.FigureReads", spec := "figureReads", named := ["frisket/figure.figures"], apart := false, laid := [("frisket/figure.figures", laid_frisket_figure_figures)], narrowed := true }
def FigureReadsUptoSaid : Prop := figureReadsUptoRow.holds Tryd.pinned (OpenSpec.upto figureReadsSpec)

/-- 'frisketlaw07.FigureBytes', WHERE WHAT IT READS IS OF BULK AT MOST 1048576: true; the input reads as it did. -/
def figureBytesUptoRow : OpenClaim := { program := "ytbhjookpdmfdnaadoor", sum := "553e099da2660011d276cc14cf168a4db45cc8f2ba06aa6b61cf6f13c959c5d5", func := "frisket/frisketlaw07.FigureBytes", spec := "figureBytes", named := ["frisket/figure.figures"], apart := false, laid := [("frisket/figure.figures", laid_frisket_figure_figures)], narrowed := true }
def FigureBytesUptoSaid : Prop := figureBytesUptoRow.holds Tryd.pinned (OpenSpec.upto figureBytesSpec)

/-- 'frisketlaw08.ColourTexts', WHERE WHAT IT READS IS OF BULK AT MOST 1048576: true; the input reads as it did. -/
def colourTextsUptoRow : OpenClaim := { program := "ytbhjookpdmfdnaadoor", sum := "553e099da2660011d276cc14cf168a4db45cc8f2ba06aa6b61cf6f13c959c5d5", func := "frisket/frisketlaw08.ColourTexts", spec := "colourTexts", unfollowed := true, recurses := true, named := ["frisket/figure.figures"], apart := false, laid := [("frisket/figure.figures", laid_frisket_figure_figures)], narrowed := true }
def ColourTextsUptoSaid : Prop := colourTextsUptoRow.holds Tryd.pinned (OpenSpec.upto colourTextsSpec)

/-- 'frisketlaw07.FigureRows', WHERE WHAT IT READS IS OF BULK AT MOST 1048576: true; the input reads as it did. -/
def figureRowsUptoRow : OpenClaim := { program := "ytbhjookpdmfdnaadoor", sum := "553e099da2660011d276cc14cf168a4db45cc8f2ba06aa6b61cf6f13c959c5d5", func := "frisket/frisketlaw07.FigureRows", spec := "figureRows", named := ["frisket/figure.figures"], apart := false, laid := [("frisket/figure.figures", laid_frisket_figure_figures)], narrowed := true }
def FigureRowsUptoSaid : Prop := figureRowsUptoRow.holds Tryd.pinned (OpenSpec.upto figureRowsSpec)

end Rows
end Go.Proofs.YtbhjookpdmfdnaaDoor
