/-
  No cell of these rows narrows 'for every input' (looked for: loops, veiled, ifaces, maps, wideKeys, modest, calm, conditions, laid).
  DERIVED. THE GIVEN ROWS OF THIS SEAT. 14 by the template 'for every input the law returns true; each argument reads behind the call as it read before'; 0 by the template 'total and deterministic' (their statements: YtogcmnagiepofaaTotals.lean).
  GIVEN WITH THE SEED: the statements are not yours to turn. If you find one false, say at which input.
  Laid BY PROGRAM, IN A SANDBOX (cutbox-rows.mjs): the forced cells as the released guide's own fill.sh prints them over the translation 2c7fed2106554663… (all of the seat's roots in one cut). By AI agents, Wed Nov 11 2026. No macro, syntax, notation, axiom, sorry.
-/
import Derived.Test.YtogcmnagiepofaaChecked
import GoSem.Claim
import GoSem.ClaimJoined
import GoSem.ClaimMapViews
import Derived.JoinedTies
import Derived.KernelRfl
namespace Go.Proofs.Ytogcmnagiepofaa
/- THE CELL 'sum', in the pinned program and in every row, IS THE sha256 OF THE DUMP (.gsa) THAT YtogcmnagiepofaaProg.lean LOADS. Nothing in Lean hashes anything: it is a label: what it is worth is what the hold of that sum in a sandbox is worth. -/
noncomputable def Try.pinned : Pinned := { name := "ytogcmnagiepofaa", sum := "2c7fed210655466308231906d2d2b216940dc75bfd5ff4e35543bed855a666dd", checked := Try.checked }
namespace Rows
def none {H : Type} : Left H := { results := [], args := [] }

/-- 'frisketlaw14.GaugeNear': WHATEVER THE INPUT: true; the input reads as it did. -/
def gaugeNearSpec : ChangeSpec := { name := "gaugeNear", fn := fun _ => fun
  | [d1, d2] => { results := [.lit (.bool true)], args := [d1, d2] }
  | _ => none }
def gaugeNearRow : OpenClaim := { program := "ytogcmnagiepofaa", sum := "2c7fed210655466308231906d2d2b216940dc75bfd5ff4e35543bed855a666dd", func := "frisket/frisketlaw14.GaugeNear", spec := "gaugeNear", apart := false }
def GaugeNearSaid : Prop := gaugeNearRow.holds Try.pinned (OpenSpec.ofChange gaugeNearSpec)

/-- ITS FALSE NEIGHBOUR: 'it returns false'. Refute it at one input. -/
def gaugeNearWrong : ChangeSpec := { name := "gaugeNear", fn := fun _ => fun
  | [d1, d2] => { results := [.lit (.bool false)], args := [d1, d2] }
  | _ => none }
def GaugeNearWrongFalsely : Prop := gaugeNearRow.holds Try.pinned (OpenSpec.ofChange gaugeNearWrong)

/-- 'frisketlaw14.GaugeWays': WHATEVER THE INPUT: true; the input reads as it did. -/
def gaugeWaysSpec : ChangeSpec := { name := "gaugeWays", fn := fun _ => fun
  | [d1, d2, d3] => { results := [.lit (.bool true)], args := [d1, d2, d3] }
  | _ => none }
def gaugeWaysRow : OpenClaim := { program := "ytogcmnagiepofaa", sum := "2c7fed210655466308231906d2d2b216940dc75bfd5ff4e35543bed855a666dd", func := "frisket/frisketlaw14.GaugeWays", spec := "gaugeWays", apart := false }
def GaugeWaysSaid : Prop := gaugeWaysRow.holds Try.pinned (OpenSpec.ofChange gaugeWaysSpec)

/-- ITS FALSE NEIGHBOUR: 'it returns false'. Refute it at one input. -/
def gaugeWaysWrong : ChangeSpec := { name := "gaugeWays", fn := fun _ => fun
  | [d1, d2, d3] => { results := [.lit (.bool false)], args := [d1, d2, d3] }
  | _ => none }
def GaugeWaysWrongFalsely : Prop := gaugeWaysRow.holds Try.pinned (OpenSpec.ofChange gaugeWaysWrong)

/-- 'frisketlaw14.GaugeTurns': WHATEVER THE INPUT: true; the input reads as it did. -/
def gaugeTurnsSpec : ChangeSpec := { name := "gaugeTurns", fn := fun _ => fun
  | [d1, d2, d3] => { results := [.lit (.bool true)], args := [d1, d2, d3] }
  | _ => none }
def gaugeTurnsRow : OpenClaim := { program := "ytogcmnagiepofaa", sum := "2c7fed210655466308231906d2d2b216940dc75bfd5ff4e35543bed855a666dd", func := "frisket/frisketlaw14.GaugeTurns", spec := "gaugeTurns", apart := false }
def GaugeTurnsSaid : Prop := gaugeTurnsRow.holds Try.pinned (OpenSpec.ofChange gaugeTurnsSpec)

/-- ITS FALSE NEIGHBOUR: 'it returns false'. Refute it at one input. -/
def gaugeTurnsWrong : ChangeSpec := { name := "gaugeTurns", fn := fun _ => fun
  | [d1, d2, d3] => { results := [.lit (.bool false)], args := [d1, d2, d3] }
  | _ => none }
def GaugeTurnsWrongFalsely : Prop := gaugeTurnsRow.holds Try.pinned (OpenSpec.ofChange gaugeTurnsWrong)

/-- 'frisketlaw14.GaugeLines': WHATEVER THE INPUT: true; the input reads as it did. -/
def gaugeLinesSpec : ChangeSpec := { name := "gaugeLines", fn := fun _ => fun
  | [d] => { results := [.lit (.bool true)], args := [d] }
  | _ => none }
def gaugeLinesRow : OpenClaim := { program := "ytogcmnagiepofaa", sum := "2c7fed210655466308231906d2d2b216940dc75bfd5ff4e35543bed855a666dd", func := "frisket/frisketlaw14.GaugeLines", spec := "gaugeLines", apart := false }
def GaugeLinesSaid : Prop := gaugeLinesRow.holds Try.pinned (OpenSpec.ofChange gaugeLinesSpec)

/-- ITS FALSE NEIGHBOUR: 'it returns false'. Refute it at one input. -/
def gaugeLinesWrong : ChangeSpec := { name := "gaugeLines", fn := fun _ => fun
  | [d] => { results := [.lit (.bool false)], args := [d] }
  | _ => none }
def GaugeLinesWrongFalsely : Prop := gaugeLinesRow.holds Try.pinned (OpenSpec.ofChange gaugeLinesWrong)

/-- 'frisketlaw24.CellsSets': WHATEVER THE INPUT: true; the input reads as it did. -/
def cellsSetsSpec : ChangeSpec := { name := "cellsSets", fn := fun _ => fun
  | [d1, d2] => { results := [.lit (.bool true)], args := [d1, d2] }
  | _ => none }
def cellsSetsRow : OpenClaim := { program := "ytogcmnagiepofaa", sum := "2c7fed210655466308231906d2d2b216940dc75bfd5ff4e35543bed855a666dd", func := "frisket/frisketlaw24.CellsSets", spec := "cellsSets", unfollowed := true, recurses := true, apart := false }
def CellsSetsSaid : Prop := cellsSetsRow.holds Try.pinned (OpenSpec.ofChange cellsSetsSpec)

/-- ITS FALSE NEIGHBOUR: 'it returns false'. Refute it at one input. -/
def cellsSetsWrong : ChangeSpec := { name := "cellsSets", fn := fun _ => fun
  | [d1, d2] => { results := [.lit (.bool false)], args := [d1, d2] }
  | _ => none }
def CellsSetsWrongFalsely : Prop := cellsSetsRow.holds Try.pinned (OpenSpec.ofChange cellsSetsWrong)

/-- 'frisketlaw24.CellsOnes': WHATEVER THE INPUT: true; the input reads as it did. -/
def cellsOnesSpec : ChangeSpec := { name := "cellsOnes", fn := fun _ => fun
  | [d1, d2, d3] => { results := [.lit (.bool true)], args := [d1, d2, d3] }
  | _ => none }
def cellsOnesRow : OpenClaim := { program := "ytogcmnagiepofaa", sum := "2c7fed210655466308231906d2d2b216940dc75bfd5ff4e35543bed855a666dd", func := "frisket/frisketlaw24.CellsOnes", spec := "cellsOnes", unfollowed := true, recurses := true, apart := false }
def CellsOnesSaid : Prop := cellsOnesRow.holds Try.pinned (OpenSpec.ofChange cellsOnesSpec)

/-- ITS FALSE NEIGHBOUR: 'it returns false'. Refute it at one input. -/
def cellsOnesWrong : ChangeSpec := { name := "cellsOnes", fn := fun _ => fun
  | [d1, d2, d3] => { results := [.lit (.bool false)], args := [d1, d2, d3] }
  | _ => none }
def CellsOnesWrongFalsely : Prop := cellsOnesRow.holds Try.pinned (OpenSpec.ofChange cellsOnesWrong)

/-- 'frisketlaw24.CellsRules': WHATEVER THE INPUT: true; the input reads as it did. -/
def cellsRulesSpec : ChangeSpec := { name := "cellsRules", fn := fun _ => fun
  | [d1, d2, d3] => { results := [.lit (.bool true)], args := [d1, d2, d3] }
  | _ => none }
def cellsRulesRow : OpenClaim := { program := "ytogcmnagiepofaa", sum := "2c7fed210655466308231906d2d2b216940dc75bfd5ff4e35543bed855a666dd", func := "frisket/frisketlaw24.CellsRules", spec := "cellsRules", unfollowed := true, recurses := true, apart := false }
def CellsRulesSaid : Prop := cellsRulesRow.holds Try.pinned (OpenSpec.ofChange cellsRulesSpec)

/-- ITS FALSE NEIGHBOUR: 'it returns false'. Refute it at one input. -/
def cellsRulesWrong : ChangeSpec := { name := "cellsRules", fn := fun _ => fun
  | [d1, d2, d3] => { results := [.lit (.bool false)], args := [d1, d2, d3] }
  | _ => none }
def CellsRulesWrongFalsely : Prop := cellsRulesRow.holds Try.pinned (OpenSpec.ofChange cellsRulesWrong)

/-- 'frisketlaw09.PamParts': WHATEVER THE INPUT: true; the input reads as it did. -/
def pamPartsSpec : ChangeSpec := { name := "pamParts", fn := fun _ => fun
  | [d1, d2] => { results := [.lit (.bool true)], args := [d1, d2] }
  | _ => none }
def pamPartsRow : OpenClaim := { program := "ytogcmnagiepofaa", sum := "2c7fed210655466308231906d2d2b216940dc75bfd5ff4e35543bed855a666dd", func := "frisket/frisketlaw09.PamParts", spec := "pamParts", apart := false }
def PamPartsSaid : Prop := pamPartsRow.holds Try.pinned (OpenSpec.ofChange pamPartsSpec)

/-- ITS FALSE NEIGHBOUR: 'it returns false'. Refute it at one input. -/
def pamPartsWrong : ChangeSpec := { name := "pamParts", fn := fun _ => fun
  | [d1, d2] => { results := [.lit (.bool false)], args := [d1, d2] }
  | _ => none }
def PamPartsWrongFalsely : Prop := pamPartsRow.holds Try.pinned (OpenSpec.ofChange pamPartsWrong)

/-- 'frisketlaw09.PamDiffers': WHATEVER THE INPUT: true; the input reads as it did. -/
def pamDiffersSpec : ChangeSpec := { name := "pamDiffers", fn := fun _ => fun
  | [d1, d2] => { results := [.lit (.bool true)], args := [d1, d2] }
  | _ => none }
def pamDiffersRow : OpenClaim := { program := "ytogcmnagiepofaa", sum := "2c7fed210655466308231906d2d2b216940dc75bfd5ff4e35543bed855a666dd", func := "frisket/frisketlaw09.PamDiffers", spec := "pamDiffers", apart := false }
def PamDiffersSaid : Prop := pamDiffersRow.holds Try.pinned (OpenSpec.ofChange pamDiffersSpec)

/-- ITS FALSE NEIGHBOUR: 'it returns false'. Refute it at one input. -/
def pamDiffersWrong : ChangeSpec := { name := "pamDiffers", fn := fun _ => fun
  | [d1, d2] => { results := [.lit (.bool false)], args := [d1, d2] }
  | _ => none }
def PamDiffersWrongFalsely : Prop := pamDiffersRow.holds Try.pinned (OpenSpec.ofChange pamDiffersWrong)

/-- 'frisketlaw09.PamFiles': WHATEVER THE INPUT: true; the input reads as it did. -/
def pamFilesSpec : ChangeSpec := { name := "pamFiles", fn := fun _ => fun
  | [d1, d2] => { results := [.lit (.bool true)], args := [d1, d2] }
  | _ => none }
def pamFilesRow : OpenClaim := { program := "ytogcmnagiepofaa", sum := "2c7fed210655466308231906d2d2b216940dc75bfd5ff4e35543bed855a666dd", func := "frisket/frisketlaw09.PamFiles", spec := "pamFiles", inPlace := ["internal/bytealg.IndexByte", "internal/bytealg.Index"], named := ["internal/bytealg.MaxLen"], apart := false }
def PamFilesSaid : Prop := pamFilesRow.holds Try.pinned (OpenSpec.ofChange pamFilesSpec)

/-- ITS FALSE NEIGHBOUR: 'it returns false'. Refute it at one input. -/
def pamFilesWrong : ChangeSpec := { name := "pamFiles", fn := fun _ => fun
  | [d1, d2] => { results := [.lit (.bool false)], args := [d1, d2] }
  | _ => none }
def PamFilesWrongFalsely : Prop := pamFilesRow.holds Try.pinned (OpenSpec.ofChange pamFilesWrong)

/-- 'frisketlaw09.PamBack': WHATEVER THE INPUT: true; the input reads as it did. -/
def pamBackSpec : ChangeSpec := { name := "pamBack", fn := fun _ => fun
  | [d1, d2] => { results := [.lit (.bool true)], args := [d1, d2] }
  | _ => none }
def pamBackRow : OpenClaim := { program := "ytogcmnagiepofaa", sum := "2c7fed210655466308231906d2d2b216940dc75bfd5ff4e35543bed855a666dd", func := "frisket/frisketlaw09.PamBack", spec := "pamBack", inPlace := ["internal/bytealg.IndexByte", "internal/bytealg.Index"], named := ["internal/bytealg.MaxLen"], apart := false }
def PamBackSaid : Prop := pamBackRow.holds Try.pinned (OpenSpec.ofChange pamBackSpec)

/-- ITS FALSE NEIGHBOUR: 'it returns false'. Refute it at one input. -/
def pamBackWrong : ChangeSpec := { name := "pamBack", fn := fun _ => fun
  | [d1, d2] => { results := [.lit (.bool false)], args := [d1, d2] }
  | _ => none }
def PamBackWrongFalsely : Prop := pamBackRow.holds Try.pinned (OpenSpec.ofChange pamBackWrong)

/-- 'frisketlaw15.DashCuts': WHATEVER THE INPUT: true; the input reads as it did. -/
def dashCutsSpec : ChangeSpec := { name := "dashCuts", fn := fun _ => fun
  | [d1, d2, d3] => { results := [.lit (.bool true)], args := [d1, d2, d3] }
  | _ => none }
def dashCutsRow : OpenClaim := { program := "ytogcmnagiepofaa", sum := "2c7fed210655466308231906d2d2b216940dc75bfd5ff4e35543bed855a666dd", func := "frisket/frisketlaw15.DashCuts", spec := "dashCuts", unfollowed := true, recurses := true, apart := false }
def DashCutsSaid : Prop := dashCutsRow.holds Try.pinned (OpenSpec.ofChange dashCutsSpec)

/-- ITS FALSE NEIGHBOUR: 'it returns false'. Refute it at one input. -/
def dashCutsWrong : ChangeSpec := { name := "dashCuts", fn := fun _ => fun
  | [d1, d2, d3] => { results := [.lit (.bool false)], args := [d1, d2, d3] }
  | _ => none }
def DashCutsWrongFalsely : Prop := dashCutsRow.holds Try.pinned (OpenSpec.ofChange dashCutsWrong)

/-- 'frisketlaw15.DashStays': WHATEVER THE INPUT: true; the input reads as it did. -/
def dashStaysSpec : ChangeSpec := { name := "dashStays", fn := fun _ => fun
  | [d1, d2, d3] => { results := [.lit (.bool true)], args := [d1, d2, d3] }
  | _ => none }
def dashStaysRow : OpenClaim := { program := "ytogcmnagiepofaa", sum := "2c7fed210655466308231906d2d2b216940dc75bfd5ff4e35543bed855a666dd", func := "frisket/frisketlaw15.DashStays", spec := "dashStays", unfollowed := true, recurses := true, apart := false }
def DashStaysSaid : Prop := dashStaysRow.holds Try.pinned (OpenSpec.ofChange dashStaysSpec)

/-- ITS FALSE NEIGHBOUR: 'it returns false'. Refute it at one input. -/
def dashStaysWrong : ChangeSpec := { name := "dashStays", fn := fun _ => fun
  | [d1, d2, d3] => { results := [.lit (.bool false)], args := [d1, d2, d3] }
  | _ => none }
def DashStaysWrongFalsely : Prop := dashStaysRow.holds Try.pinned (OpenSpec.ofChange dashStaysWrong)

/-- 'frisketlaw15.DashPoints': WHATEVER THE INPUT: true; the input reads as it did. -/
def dashPointsSpec : ChangeSpec := { name := "dashPoints", fn := fun _ => fun
  | [d1, d2, d3] => { results := [.lit (.bool true)], args := [d1, d2, d3] }
  | _ => none }
def dashPointsRow : OpenClaim := { program := "ytogcmnagiepofaa", sum := "2c7fed210655466308231906d2d2b216940dc75bfd5ff4e35543bed855a666dd", func := "frisket/frisketlaw15.DashPoints", spec := "dashPoints", unfollowed := true, recurses := true, apart := false }
def DashPointsSaid : Prop := dashPointsRow.holds Try.pinned (OpenSpec.ofChange dashPointsSpec)

/-- ITS FALSE NEIGHBOUR: 'it returns false'. Refute it at one input. -/
def dashPointsWrong : ChangeSpec := { name := "dashPoints", fn := fun _ => fun
  | [d1, d2, d3] => { results := [.lit (.bool false)], args := [d1, d2, d3] }
  | _ => none }
def DashPointsWrongFalsely : Prop := dashPointsRow.holds Try.pinned (OpenSpec.ofChange dashPointsWrong)

/- THE SECOND FORM. 'bulk': how many values and letters a reading holds, each counted each time it is reached (what is shared counts as often as it is met; a slice's spare places count too). A statement '..UptoSaid' is the law's where the arguments, and the package variables that the reading takes, are together of bulk at most 1048576: NARROWER than '..Said'. Prove '..Said' where nothing that the law and all that it calls make is longer than what came in: it says more and counts as full. Else prove '..UptoSaid'. A law counts once. -/
mutual
def uptoBulk {H : Type} : DataW H → Nat
  | .lit (.string bytes) => bytes.length + 1
  | .lit _ => 1
  | .nil => 1
  | .ptr d => uptoBulk d + 1
  | .slice elems spare => uptoBulkAll elems + uptoBulkAll spare + 1
  | .agg parts => uptoBulkAll parts + 1
  | .iface _ d => uptoBulk d + 1
  | .map entries => uptoBulkEntries entries + 1
  | .held _ => 1
def uptoBulkAll {H : Type} : List (DataW H) → Nat
  | [] => 0
  | d :: r => uptoBulk d + uptoBulkAll r
def uptoBulkEntries {H : Type} : List (Lit × DataW H) → Nat
  | [] => 0
  | x :: r => uptoBulkEntry x + uptoBulkEntries r
def uptoBulkEntry {H : Type} : Lit × DataW H → Nat
  | (.string bytes, d) => bytes.length + uptoBulk d + 1
  | (_, d) => uptoBulk d + 1
 end
def uptoSmall : (H : Type) → List (DataW H) → Bool := fun _ ds => decide (uptoBulkAll ds ≤ 1048576)
def OpenSpec.upto (s : _root_.Go.ChangeSpec) : _root_.Go.OpenSpec := { _root_.Go.OpenSpec.ofChange s with cond := some uptoSmall }

/-- 'frisketlaw14.GaugeNear', WHERE WHAT IT READS IS OF BULK AT MOST 1048576: true; the input reads as it did. -/
def gaugeNearUptoRow : OpenClaim := { program := "ytogcmnagiepofaa", sum := "2c7fed210655466308231906d2d2b216940dc75bfd5ff4e35543bed855a666dd", func := "frisket/frisketlaw14.GaugeNear", spec := "gaugeNear", apart := false, narrowed := true }
def GaugeNearUptoSaid : Prop := gaugeNearUptoRow.holds Try.pinned (OpenSpec.upto gaugeNearSpec)

/-- 'frisketlaw14.GaugeWays', WHERE WHAT IT READS IS OF BULK AT MOST 1048576: true; the input reads as it did. -/
def gaugeWaysUptoRow : OpenClaim := { program := "ytogcmnagiepofaa", sum := "2c7fed210655466308231906d2d2b216940dc75bfd5ff4e35543bed855a666dd", func := "frisket/frisketlaw14.GaugeWays", spec := "gaugeWays", apart := false, narrowed := true }
def GaugeWaysUptoSaid : Prop := gaugeWaysUptoRow.holds Try.pinned (OpenSpec.upto gaugeWaysSpec)

/-- 'frisketlaw14.GaugeTurns', WHERE WHAT IT READS IS OF BULK AT MOST 1048576: true; the input reads as it did. -/
def gaugeTurnsUptoRow : OpenClaim := { program := "ytogcmnagiepofaa", sum := "2c7fed210655466308231906d2d2b216940dc75bfd5ff4e35543bed855a666dd", func := "frisket/frisketlaw14.GaugeTurns", spec := "gaugeTurns", apart := false, narrowed := true }
def GaugeTurnsUptoSaid : Prop := gaugeTurnsUptoRow.holds Try.pinned (OpenSpec.upto gaugeTurnsSpec)

/-- 'frisketlaw14.GaugeLines', WHERE WHAT IT READS IS OF BULK AT MOST 1048576: true; the input reads as it did. -/
def gaugeLinesUptoRow : OpenClaim := { program := "ytogcmnagiepofaa", sum := "2c7fed210655466308231906d2d2b216940dc75bfd5ff4e35543bed855a666dd", func := "frisket/frisketlaw14.GaugeLines", spec := "gaugeLines", apart := false, narrowed := true }
def GaugeLinesUptoSaid : Prop := gaugeLinesUptoRow.holds Try.pinned (OpenSpec.upto gaugeLinesSpec)

/-- 'frisketlaw24.CellsSets', WHERE WHAT IT READS IS OF BULK AT MOST 1048576: true; the input reads as it did. -/
def cellsSetsUptoRow : OpenClaim := { program := "ytogcmnagiepofaa", sum := "2c7fed210655466308231906d2d2b216940dc75bfd5ff4e35543bed855a666dd", func := "frisket/frisketlaw24.CellsSets", spec := "cellsSets", unfollowed := true, recurses := true, apart := false, narrowed := true }
def CellsSetsUptoSaid : Prop := cellsSetsUptoRow.holds Try.pinned (OpenSpec.upto cellsSetsSpec)

/-- 'frisketlaw24.CellsOnes', WHERE WHAT IT READS IS OF BULK AT MOST 1048576: true; the input reads as it did. -/
def cellsOnesUptoRow : OpenClaim := { program := "ytogcmnagiepofaa", sum := "2c7fed210655466308231906d2d2b216940dc75bfd5ff4e35543bed855a666dd", func := "frisket/frisketlaw24.CellsOnes", spec := "cellsOnes", unfollowed := true, recurses := true, apart := false, narrowed := true }
def CellsOnesUptoSaid : Prop := cellsOnesUptoRow.holds Try.pinned (OpenSpec.upto cellsOnesSpec)

/-- 'frisketlaw24.CellsRules', WHERE WHAT IT READS IS OF BULK AT MOST 1048576: true; the input reads as it did. -/
def cellsRulesUptoRow : OpenClaim := { program := "ytogcmnagiepofaa", sum := "2c7fed210655466308231906d2d2b216940dc75bfd5ff4e35543bed855a666dd", func := "frisket/frisketlaw24.CellsRules", spec := "cellsRules", unfollowed := true, recurses := true, apart := false, narrowed := true }
def CellsRulesUptoSaid : Prop := cellsRulesUptoRow.holds Try.pinned (OpenSpec.upto cellsRulesSpec)

/-- 'frisketlaw09.PamParts', WHERE WHAT IT READS IS OF BULK AT MOST 1048576: true; the input reads as it did. -/
def pamPartsUptoRow : OpenClaim := { program := "ytogcmnagiepofaa", sum := "2c7fed210655466308231906d2d2b216940dc75bfd5ff4e35543bed855a666dd", func := "frisket/frisketlaw09.PamParts", spec := "pamParts", apart := false, narrowed := true }
def PamPartsUptoSaid : Prop := pamPartsUptoRow.holds Try.pinned (OpenSpec.upto pamPartsSpec)

/-- 'frisketlaw09.PamDiffers', WHERE WHAT IT READS IS OF BULK AT MOST 1048576: true; the input reads as it did. -/
def pamDiffersUptoRow : OpenClaim := { program := "ytogcmnagiepofaa", sum := "2c7fed210655466308231906d2d2b216940dc75bfd5ff4e35543bed855a666dd", func := "frisket/frisketlaw09.PamDiffers", spec := "pamDiffers", apart := false, narrowed := true }
def PamDiffersUptoSaid : Prop := pamDiffersUptoRow.holds Try.pinned (OpenSpec.upto pamDiffersSpec)

/-- 'frisketlaw09.PamFiles', WHERE WHAT IT READS IS OF BULK AT MOST 1048576: true; the input reads as it did. -/
def pamFilesUptoRow : OpenClaim := { program := "ytogcmnagiepofaa", sum := "2c7fed210655466308231906d2d2b216940dc75bfd5ff4e35543bed855a666dd", func := "frisket/frisketlaw09.PamFiles", spec := "pamFiles", inPlace := ["internal/bytealg.IndexByte", "internal/bytealg.Index"], named := ["internal/bytealg.MaxLen"], apart := false, narrowed := true }
def PamFilesUptoSaid : Prop := pamFilesUptoRow.holds Try.pinned (OpenSpec.upto pamFilesSpec)

/-- 'frisketlaw09.PamBack', WHERE WHAT IT READS IS OF BULK AT MOST 1048576: true; the input reads as it did. -/
def pamBackUptoRow : OpenClaim := { program := "ytogcmnagiepofaa", sum := "2c7fed210655466308231906d2d2b216940dc75bfd5ff4e35543bed855a666dd", func := "frisket/frisketlaw09.PamBack", spec := "pamBack", inPlace := ["internal/bytealg.IndexByte", "internal/bytealg.Index"], named := ["internal/bytealg.MaxLen"], apart := false, narrowed := true }
def PamBackUptoSaid : Prop := pamBackUptoRow.holds Try.pinned (OpenSpec.upto pamBackSpec)

/-- 'frisketlaw15.DashCuts', WHERE WHAT IT READS IS OF BULK AT MOST 1048576: true; the input reads as it did. -/
def dashCutsUptoRow : OpenClaim := { program := "ytogcmnagiepofaa", sum := "2c7fed210655466308231906d2d2b216940dc75bfd5ff4e35543bed855a666dd", func := "frisket/frisketlaw15.DashCuts", spec := "dashCuts", unfollowed := true, recurses := true, apart := false, narrowed := true }
def DashCutsUptoSaid : Prop := dashCutsUptoRow.holds Try.pinned (OpenSpec.upto dashCutsSpec)

/-- 'frisketlaw15.DashStays', WHERE WHAT IT READS IS OF BULK AT MOST 1048576: true; the input reads as it did. -/
def dashStaysUptoRow : OpenClaim := { program := "ytogcmnagiepofaa", sum := "2c7fed210655466308231906d2d2b216940dc75bfd5ff4e35543bed855a666dd", func := "frisket/frisketlaw15.DashStays", spec := "dashStays", unfollowed := true, recurses := true, apart := false, narrowed := true }
def DashStaysUptoSaid : Prop := dashStaysUptoRow.holds Try.pinned (OpenSpec.upto dashStaysSpec)

/-- 'frisketlaw15.DashPoints', WHERE WHAT IT READS IS OF BULK AT MOST 1048576: true; the input reads as it did. -/
def dashPointsUptoRow : OpenClaim := { program := "ytogcmnagiepofaa", sum := "2c7fed210655466308231906d2d2b216940dc75bfd5ff4e35543bed855a666dd", func := "frisket/frisketlaw15.DashPoints", spec := "dashPoints", unfollowed := true, recurses := true, apart := false, narrowed := true }
def DashPointsUptoSaid : Prop := dashPointsUptoRow.holds Try.pinned (OpenSpec.upto dashPointsSpec)

end Rows
end Go.Proofs.Ytogcmnagiepofaa
